/- Part of the proof of FnExactReadConf: no statement of its own. -/
import Derived.Ground.NamesProg
import Derived.Ground.SlgnProg
import Derived.Handy
import Derived.Lib.IndexBytes
import Derived.Lib.SplitLaws
import Derived.Shelf.Lays
import Derived.Shelf.LaysC
import Derived.Shelf.SlGeneric
import Derived.Shelf.SlLaysNS
import Derived.Shelf.Strconv.ParseIntPublic10
import Derived.Shelf.Strings.Split
import Derived.Test.YtbfgmnjhikaagaaDoorProg
import Derived.Test.YtbfgmnjhikaagaaDoorCFnExactReadConf2
set_option linter.unusedVariables false
set_option linter.unusedSimpArgs false
namespace Go.Proofs.YtbfgmnjhikaagaaDoor.P
open Go Go.Proofs.YtbfgmnjhikaagaaDoor.PM Go.Proofs
open Go.Proofs.YtbfgmnjhikaagaaDoor.PN (PT)
def dec1 (n : Int) : ByteArray := (f18 3 n).getD default
set_option maxRecDepth 100000 in
theorem dec_ev (n : Int) (h1 : 1 ≤ n) (h2 : n ≤ 50) : (∀ m, f18 (m + 3) n = some (dec1 n)) ∧ (∀ m, f32 m n 10 = some (dec1 n)) ∧ (dec1 n).size ≤ 2 := by
  have h : n = 1 ∨ n = 2 ∨ n = 3 ∨ n = 4 ∨ n = 5 ∨ n = 6 ∨ n = 7 ∨ n = 8 ∨ n = 9 ∨ n = 10 ∨ n = 11 ∨ n = 12 ∨ n = 13 ∨ n = 14 ∨ n = 15 ∨ n = 16 ∨ n = 17 ∨ n = 18 ∨ n = 19 ∨ n = 20 ∨ n = 21 ∨ n = 22 ∨ n = 23 ∨ n = 24 ∨ n = 25 ∨ n = 26 ∨ n = 27 ∨ n = 28 ∨ n = 29 ∨ n = 30 ∨ n = 31 ∨ n = 32 ∨ n = 33 ∨ n = 34 ∨ n = 35 ∨ n = 36 ∨ n = 37 ∨ n = 38 ∨ n = 39 ∨ n = 40 ∨ n = 41 ∨ n = 42 ∨ n = 43 ∨ n = 44 ∨ n = 45 ∨ n = 46 ∨ n = 47 ∨ n = 48 ∨ n = 49 ∨ n = 50 := by omega
  rcases h with rfl | rfl | rfl | rfl | rfl | rfl | rfl | rfl | rfl | rfl | rfl | rfl | rfl | rfl | rfl | rfl | rfl | rfl | rfl | rfl | rfl | rfl | rfl | rfl | rfl | rfl | rfl | rfl | rfl | rfl | rfl | rfl | rfl | rfl | rfl | rfl | rfl | rfl | rfl | rfl | rfl | rfl | rfl | rfl | rfl | rfl | rfl | rfl | rfl | rfl <;> exact ⟨fun m => by kernel_rfl, fun m => by kernel_rfl, of_decide_eq_true (by kernel_rfl)⟩
theorem l1Dec_ev (n : Int) (h1 : 1 ≤ n) (h2 : n ≤ 50) : Ev (fun k => f18 k n) (dec1 n) := Ev.plus 3 (dec_ev n h1 h2).1
theorem Format_ev (n : Int) (h1 : 1 ≤ n) (h2 : n ≤ 50) : Ev (fun k => f32 k n 10) (dec1 n) := Ev.plus 0 (dec_ev n h1 h2).2.1
def txt (s : ByteArray) (l : List Int) : ByteArray := l.foldl (fun s n => s ++ (⟨#[32]⟩ : ByteArray) ++ dec1 n) s
def oks (l : List Int) : Prop := ∀ i : Nat, i < l.length → 1 ≤ at' l (i : Int) ∧ at' l (i : Int) ≤ 50
theorem sp_size : (⟨#[32]⟩ : ByteArray).size = 1 := rfl
theorem txt_step (s : ByteArray) (l : List Int) (i : Nat) (h : i < l.length) : txt s (l.drop i) = txt (s ++ (⟨#[32]⟩ : ByteArray) ++ dec1 (at' l (i : Int))) (l.drop (i + 1)) := by
  rw [at_nat l i h, List.drop_eq_getElem_cons h]; rfl
theorem txt_end (s : ByteArray) (l : List Int) (i : Nat) (h : l.length ≤ i) : txt s (l.drop i) = s := by rw [List.drop_eq_nil_of_le h]; rfl
theorem bsz (a b : ByteArray) : (a ++ b).size = a.size + b.size := ByteArray.size_append
def tail1 (s : ByteArray) (b : List Int) : ByteArray := if 0 < b.length then txt (s ++ ⟨#[32, 108]⟩) b else s
theorem spec_l11 (a b : List Int) (hb : b.length ≤ 7) (ok : oks b) (d : Nat) : ∀ (i : Nat) (s : ByteArray), b.length - i = d → i ≤ b.length → s.size + 3 * d ≤ 1000 → Ev (fun k => f11.D k (.l11 s (i : Int) a b)) (txt s (b.drop i)) := by
  induction d with
  | zero =>
    intro i s hd hi hs
    refine Ev.round ?_
    simp only [f11.blk, PT.run, dite_eq_ite]
    exact Ev.neg (by omega) (Ev.ret' (txt_end s b i (by omega)).symm)
  | succ d ih =>
    intro i s hd hi hs
    obtain ⟨o1, o2⟩ := ok i (by omega)
    have hz := (dec_ev _ o1 o2).2.2
    have hn := ih (i + 1) (s ++ (⟨#[32]⟩ : ByteArray) ++ dec1 (at' b (i : Int))) (by omega) (by omega) (by rw [bsz, bsz, sp_size]; omega)
    rw [← wr1 (by omega)] at hn
    rw [txt_step s b i (by omega)]
    refine Ev.round ?_
    simp only [f11.blk, PT.run, dite_eq_ite]
    refine Ev.pos (by omega) (Ev.pos (by rw [sp_size]; omega) (Ev.pos (by omega) (Ev.bind (l1Dec_ev _ o1 o2) (Ev.pos ?_ hn))))
    rw [bsz, sp_size]; omega
theorem spec_l5 (a b : List Int) (ha : a.length ≤ 7) (hb : b.length ≤ 7) (oka : oks a) (okb : oks b) (d : Nat) : ∀ (i : Nat) (s : ByteArray), a.length - i = d → i ≤ a.length → s.size + 3 * d ≤ 900 → Ev (fun k => f11.D k (.l5 s (i : Int) a b)) (tail1 (txt s (a.drop i)) b) := by
  induction d with
  | zero =>
    intro i s hd hi hs
    rw [txt_end s a i (by omega)]
    refine Ev.round ?_
    simp only [f11.blk, PT.run, dite_eq_ite]
    refine Ev.neg (by omega) (Ev.ite (fun h => Ev.pos (by rw [show (⟨#[32, 108]⟩ : ByteArray).size = 2 from rfl]; omega) ?_) (fun h => ?_))
    · have := spec_l11 a b hb okb _ 0 (s ++ ⟨#[32, 108]⟩) rfl (Nat.zero_le _) (by rw [bsz, show (⟨#[32, 108]⟩ : ByteArray).size = 2 from rfl]; omega)
      rw [tail1, if_pos (by omega)]
      exact this
    · have := spec_l11 a b hb okb _ 0 s rfl (Nat.zero_le _) (by omega)
      rw [tail1, if_neg (by omega)]
      rw [txt_end s b 0 (by omega)] at this
      exact this
  | succ d ih =>
    intro i s hd hi hs
    obtain ⟨o1, o2⟩ := oka i (by omega)
    have hz := (dec_ev _ o1 o2).2.2
    have hn := ih (i + 1) (s ++ (⟨#[32]⟩ : ByteArray) ++ dec1 (at' a (i : Int))) (by omega) (by omega) (by rw [bsz, bsz, sp_size]; omega)
    rw [← wr1 (by omega)] at hn
    rw [txt_step s a i (by omega)]
    refine Ev.round ?_
    simp only [f11.blk, PT.run, dite_eq_ite]
    refine Ev.pos (by omega) (Ev.pos (by rw [sp_size]; omega) (Ev.pos (by omega) (Ev.bind (l1Dec_ev _ o1 o2) (Ev.pos ?_ hn))))
    rw [bsz, sp_size]; omega
theorem impl_l10 (b : List Int) (hb : b.length ≤ 7) (ok : oks b) (d : Nat) : ∀ (i : Nat) (s : ByteArray), b.length - i = d → i ≤ b.length → s.size + 3 * d ≤ 1000 → Ev (fun k => f22.D k (.l10 s b (b.length : Int) (i : Int))) (txt s (b.drop i)) := by
  induction d with
  | zero =>
    intro i s hd hi hs
    refine Ev.round ?_
    simp only [f22.blk, PT.run, dite_eq_ite]
    exact Ev.neg (by omega) (Ev.ret' (txt_end s b i (by omega)).symm)
  | succ d ih =>
    intro i s hd hi hs
    obtain ⟨o1, o2⟩ := ok i (by omega)
    have hz := (dec_ev _ o1 o2).2.2
    have hn := ih (i + 1) (s ++ (⟨#[32]⟩ : ByteArray) ++ dec1 (at' b (i : Int))) (by omega) (by omega) (by rw [bsz, bsz, sp_size]; omega)
    rw [← wr1 (by omega), ByteArray.append_assoc] at hn
    rw [txt_step s b i (by omega), ByteArray.append_assoc]
    refine Ev.round ?_
    simp only [f22.blk, PT.run, dite_eq_ite]
    refine Ev.pos (by omega) (Ev.pos (by omega) (Ev.pos (by omega) (Ev.bind (Format_ev _ o1 o2) (Ev.pos ?_ (Ev.pos ?_ hn)))))
    · rw [sp_size]; omega
    · rw [bsz, sp_size]; omega
theorem impl_l3 (a b : List Int) (ha : a.length ≤ 7) (hb : b.length ≤ 7) (oka : oks a) (okb : oks b) (d : Nat) : ∀ (i : Nat) (s : ByteArray), a.length - i = d → i ≤ a.length → s.size + 3 * d ≤ 900 → Ev (fun k => f22.D k (.l3 s a (a.length : Int) (i : Int) a b)) (tail1 (txt s (a.drop i)) b) := by
  induction d with
  | zero =>
    intro i s hd hi hs
    rw [txt_end s a i (by omega)]
    refine Ev.round ?_
    simp only [f22.blk, PT.run, dite_eq_ite]
    refine Ev.neg (by omega) (Ev.ite (fun h => Ev.pos (by rw [show (⟨#[32, 108]⟩ : ByteArray).size = 2 from rfl]; omega) ?_) (fun h => ?_))
    · have := impl_l10 b hb okb _ 0 (s ++ ⟨#[32, 108]⟩) rfl (Nat.zero_le _) (by rw [bsz, show (⟨#[32, 108]⟩ : ByteArray).size = 2 from rfl]; omega)
      rw [tail1, if_pos (by omega)]
      exact this
    · have := impl_l10 b hb okb _ 0 s rfl (Nat.zero_le _) (by omega)
      rw [tail1, if_neg (by omega)]
      rw [txt_end s b 0 (by omega)] at this
      exact this
  | succ d ih =>
    intro i s hd hi hs
    obtain ⟨o1, o2⟩ := oka i (by omega)
    have hz := (dec_ev _ o1 o2).2.2
    have hn := ih (i + 1) (s ++ (⟨#[32]⟩ : ByteArray) ++ dec1 (at' a (i : Int))) (by omega) (by omega) (by rw [bsz, bsz, sp_size]; omega)
    rw [← wr1 (by omega), ByteArray.append_assoc] at hn
    rw [txt_step s a i (by omega), ByteArray.append_assoc]
    refine Ev.round ?_
    simp only [f22.blk, PT.run, dite_eq_ite]
    refine Ev.pos (by omega) (Ev.pos (by omega) (Ev.pos (by omega) (Ev.bind (Format_ev _ o1 o2) (Ev.pos ?_ (Ev.pos ?_ hn)))))
    · rw [sp_size]; omega
    · rw [bsz, sp_size]; omega
theorem are_oks {l : List Int} (h : areB l = true) : oks l ∧ l.length ≤ 7 := by
  unfold areB at h
  rw [Bool.and_eq_true] at h
  refine ⟨fun i hi => ?_, of_decide_eq_true h.2⟩
  have := (allFrom_iff _ _ _).1 h.1 i (Nat.zero_le _) hi
  unfold idAt inB at this
  simp only [Bool.and_eq_true, decide_eq_true_eq] at this
  exact this.1
theorem confB_oks {a b : List Int} (h : confB a b = true) : (oks a ∧ a.length ≤ 7) ∧ (oks b ∧ b.length ≤ 7) := by
  unfold confB at h
  simp only [Bool.and_eq_true] at h
  exact ⟨are_oks h.2.1, are_oks h.2.2.1⟩
def ctext (a b : List Int) : ByteArray := tail1 (txt ⟨#[118]⟩ a) b
theorem ConfText_ev (a b : List Int) (ha : a.length ≤ 4194304) (hb : b.length ≤ 4194304) : Ev (fun k => f11 k a b) (if confB a b = true then ctext a b else ⟨#[]⟩) := by
  simp only [f11, f11.start, PT.run, dite_eq_ite]
  refine Ev.bind (ConfOk_ev a b ha hb) ?_
  by_cases h : confB a b = true
  · obtain ⟨⟨h1, h2⟩, h3, h4⟩ := confB_oks h
    rw [if_pos h]
    exact Ev.pos h (spec_l5 a b h2 h4 h1 h3 _ 0 ⟨#[118]⟩ rfl (Nat.zero_le _) (by rw [show (⟨#[118]⟩ : ByteArray).size = 1 from rfl]; omega))
  · rw [if_neg h]
    exact Ev.neg h (Ev.ret _)
theorem confText_ev (a b : List Int) (h : confB a b = true) : Ev (fun k => f22 k a b) (ctext a b) := by
  simp only [f22, f22.start, PT.run, dite_eq_ite]
  obtain ⟨⟨h1, h2⟩, h3, h4⟩ := confB_oks h
  exact impl_l3 a b h2 h4 h1 h3 _ 0 ⟨#[118]⟩ rfl (Nat.zero_le _) (by rw [show (⟨#[118]⟩ : ByteArray).size = 1 from rfl]; omega)
end Go.Proofs.YtbfgmnjhikaagaaDoor.P
namespace Go.Proofs.YtbfgmnjhikaagaaDoor.P
open Go Go.Proofs.YtbfgmnjhikaagaaDoor.PM Go.Proofs
open Go.Proofs.YtbfgmnjhikaagaaDoor.PN (PT)
abbrev wV : ByteArray := ⟨#[118]⟩
abbrev wL : ByteArray := ⟨#[108]⟩
def parseI (ws : List ByteArray) : Nat → Nat → Bool → List Int → List Int → Option (List Int × List Int)
  | 0, _, _, v, l => some (v, l)
  | d + 1, i, g, v, l =>
    let w := at' ws (i : Int)
    if i = 0 ∧ strEq w wV = true then parseI ws d (i + 1) g v l
    else if strEq w wL = true then parseI ws d (i + 1) true v l
    else if (pintV w).2 = true then none
    else if g = true then parseI ws d (i + 1) g v (l ++ [(pintV w).1])
    else parseI ws d (i + 1) g (v ++ [(pintV w).1]) l
def finC (t : ByteArray) : Option (List Int × List Int) → Bool × List Int × List Int
  | none => (false, [], [])
  | some (v, l) => if confB v l = true ∧ strEq (ctext v l) t = true then (true, v, l) else (false, [], [])
def labI (ws : List ByteArray) (t : ByteArray) (i : Int) (g : Bool) (v l : List Int) : f12.L := match g, v, l with
  | false, [], _ => .l4 ws t (ws.length : Int) i
  | false, a :: v, _ => .l4v3 ws (a :: v) t (ws.length : Int) i
  | true, [], [] => .l4v1 ws t (ws.length : Int) i
  | true, [], b :: l => .l4v2 ws (b :: l) t (ws.length : Int) i
  | true, a :: v, [] => .l4v4 ws (a :: v) t (ws.length : Int) i
  | true, a :: v, b :: l => .l4v5 ws (a :: v) (b :: l) t (ws.length : Int) i
theorem pint_ev (w : ByteArray) (h : w.size ≤ 4194304) : Ev (fun k => f20 k w 10 64) (pintV w) := by
  unfold f20
  exact Ev.pos ⟨rfl, rfl, by omega⟩ (Ev.ret _)
theorem fin_ev (t : ByteArray) (v l : List Int) (hv : v.length ≤ 4194304) (hl : l.length ≤ 4194304) :
    Ev (fun k => (f21 k v l).bind fun t1 => if t1 = true then (f22 k v l).bind fun t2 => if strEq t2 t = true then some (true, v, l) else some (false, [], []) else some (false, [], [])) (finC t (some (v, l))) := by
  refine Ev.bind (isConf_ev v l hv hl) ?_
  show Ev _ (if confB v l = true ∧ strEq (ctext v l) t = true then (true, v, l) else (false, [], []))
  by_cases h : confB v l = true
  · refine Ev.pos h (Ev.bind (confText_ev v l h) ?_)
    by_cases h2 : strEq (ctext v l) t = true
    · exact Ev.pos h2 (Ev.ret' (by rw [if_pos ⟨h, h2⟩]))
    · exact Ev.neg h2 (Ev.ret' (by rw [if_neg fun x => h2 x.2]))
  · exact Ev.neg h (Ev.ret' (by rw [if_neg fun x => h x.1]))
theorem parseI_v {ws : List ByteArray} {d i : Nat} {g : Bool} {v l : List Int} (h0 : i = 0) (h : strEq (at' ws (i : Int)) wV = true) : parseI ws d (i + 1) g v l = parseI ws (d + 1) i g v l := by rw [parseI.eq_2, if_pos ⟨h0, h⟩]
theorem parseI_l {ws : List ByteArray} {d i : Nat} {g : Bool} {v l : List Int} (h0 : ¬ (i = 0 ∧ strEq (at' ws (i : Int)) wV = true)) (h : strEq (at' ws (i : Int)) wL = true) : parseI ws d (i + 1) true v l = parseI ws (d + 1) i g v l := by rw [parseI.eq_2, if_neg h0, if_pos h]
theorem parseI_e {ws : List ByteArray} {d i : Nat} {g : Bool} {v l : List Int} (h0 : ¬ (i = 0 ∧ strEq (at' ws (i : Int)) wV = true)) (h : ¬ strEq (at' ws (i : Int)) wL = true) (he : (pintV (at' ws (i : Int))).2 = true) : none = parseI ws (d + 1) i g v l := by rw [parseI.eq_2, if_neg h0, if_neg h, if_pos he]
theorem parseI_a {ws : List ByteArray} {d i : Nat} {v l : List Int} (h0 : ¬ (i = 0 ∧ strEq (at' ws (i : Int)) wV = true)) (h : ¬ strEq (at' ws (i : Int)) wL = true) (he : ¬ (pintV (at' ws (i : Int))).2 = true) : parseI ws d (i + 1) true v (l ++ [(pintV (at' ws (i : Int))).1]) = parseI ws (d + 1) i true v l := by rw [parseI.eq_2, if_neg h0, if_neg h, if_neg he, if_pos rfl]
theorem parseI_b {ws : List ByteArray} {d i : Nat} {v l : List Int} (h0 : ¬ (i = 0 ∧ strEq (at' ws (i : Int)) wV = true)) (h : ¬ strEq (at' ws (i : Int)) wL = true) (he : ¬ (pintV (at' ws (i : Int))).2 = true) : parseI ws d (i + 1) false (v ++ [(pintV (at' ws (i : Int))).1]) l = parseI ws (d + 1) i false v l := by rw [parseI.eq_2, if_neg h0, if_neg h, if_neg he, if_neg (by simp)]
set_option maxHeartbeats 4000000 in
theorem readI_loop (ws : List ByteArray) (t : ByteArray) (hn : ws.length ≤ 4194304) (hw : ∀ i : Nat, i < ws.length → (at' ws (i : Int)).size ≤ 4194304) (d : Nat) : ∀ (i : Nat) (g : Bool) (v l : List Int), ws.length - i = d → i ≤ ws.length → (g = false → l = []) → v.length + l.length ≤ i →
    Ev (fun k => f12.D k (labI ws t (i : Int) g v l)) (finC t (parseI ws d i g v l)) := by
  induction d with
  | zero =>
    intro i g v l hd hi hg hs
    have hE := fin_ev t v l (by omega) (by omega)
    unfold parseI
    refine Ev.round ?_
    cases g with
    | false =>
      obtain rfl := hg rfl
      cases v with
      | nil => simp only [labI, f12.blk, PT.run, dite_eq_ite]; exact Ev.neg (by omega) hE
      | cons a v => simp only [labI, f12.blk, PT.run, dite_eq_ite]; exact Ev.neg (by omega) hE
    | true =>
      cases v with
      | nil =>
        cases l with
        | nil => simp only [labI, f12.blk, PT.run, dite_eq_ite]; exact Ev.neg (by omega) hE
        | cons b l => simp only [labI, f12.blk, PT.run, dite_eq_ite]; exact Ev.neg (by omega) hE
      | cons a v =>
        cases l with
        | nil => simp only [labI, f12.blk, PT.run, dite_eq_ite]; exact Ev.neg (by omega) hE
        | cons b l => simp only [labI, f12.blk, PT.run, dite_eq_ite]; exact Ev.neg (by omega) hE
  | succ d ih =>
    intro i g v l hd hi hg hs
    have ih1 := ih (i + 1) g v l (by omega) (by omega) hg (by omega)
    have ih2 := ih (i + 1) true v l (by omega) (by omega) (by simp) (by omega)
    have ih3 := fun x : Int => ih (i + 1) true v (l ++ [x]) (by omega) (by omega) (by simp) (by rw [List.length_append, List.length_singleton]; omega)
    have ih4 := fun (x : Int) (e : l = []) => ih (i + 1) false (v ++ [x]) l (by omega) (by omega) (fun _ => e) (by rw [List.length_append, List.length_singleton]; omega)
    have hz := hw i (by omega)
    rw [← wr1 (by omega)] at ih1 ih2 ih3 ih4
    generalize hr : parseI ws (d + 1) i g v l = r
    have e1 : ∀ (h0 : i = 0) (h : strEq (at' ws (i : Int)) wV = true), parseI ws d (i + 1) g v l = r := fun h0 h => (parseI_v h0 h).trans hr
    have e2 : ∀ (h0 : ¬ (i = 0 ∧ strEq (at' ws (i : Int)) wV = true)) (h : strEq (at' ws (i : Int)) wL = true), parseI ws d (i + 1) true v l = r := fun h0 h => (parseI_l h0 h).trans hr
    have e3 : ∀ (h0 : ¬ (i = 0 ∧ strEq (at' ws (i : Int)) wV = true)) (h : ¬ strEq (at' ws (i : Int)) wL = true) (he : (pintV (at' ws (i : Int))).2 = true), none = r := fun h0 h he => (parseI_e h0 h he).trans hr
    have e4 : ∀ (hg : g = true) (h0 : ¬ (i = 0 ∧ strEq (at' ws (i : Int)) wV = true)) (h : ¬ strEq (at' ws (i : Int)) wL = true) (he : ¬ (pintV (at' ws (i : Int))).2 = true), parseI ws d (i + 1) true v (l ++ [(pintV (at' ws (i : Int))).1]) = r := fun hg h0 h he => by subst hg; exact (parseI_a h0 h he).trans hr
    have e5 : ∀ (hg : g = false) (h0 : ¬ (i = 0 ∧ strEq (at' ws (i : Int)) wV = true)) (h : ¬ strEq (at' ws (i : Int)) wL = true) (he : ¬ (pintV (at' ws (i : Int))).2 = true), parseI ws d (i + 1) false (v ++ [(pintV (at' ws (i : Int))).1]) l = r := fun hg h0 h he => by subst hg; exact (parseI_b h0 h he).trans hr
    clear hr ih
    refine Ev.round ?_
    cases g with
    | false =>
      obtain rfl := hg rfl
      cases v with
      | nil =>
        simp only [labI, f12.blk, PT.run, dite_eq_ite, List.cons_append]
        simp only [labI, List.nil_append, List.cons_append] at ih1 ih2 ih3 ih4 e1 e2 e3 e4 e5
        refine Ev.pos (by omega) (Ev.pos (by omega) (Ev.pos (by omega) (Ev.ite (fun h0 => Ev.ite (fun hv => ih1.eq (by rw [e1 (by omega) hv])) fun hv => Ev.ite (fun hl => ih2.eq (by rw [e2 (fun x => hv x.2) hl])) fun hl => Ev.bind (pint_ev _ hz) (Ev.ite (fun he => Ev.ret' (by rw [← e3 (fun x => hv x.2) hl he]; rfl)) fun he => ?_)) fun h0 => Ev.ite (fun hl => ih2.eq (by rw [e2 (fun x => h0 (by omega)) hl])) fun hl => Ev.bind (pint_ev _ hz) (Ev.ite (fun he => Ev.ret' (by rw [← e3 (fun x => h0 (by omega)) hl he]; rfl)) fun he => ?_))))
        · exact ((ih4 _ trivial).eq (by rw [e5 trivial (fun x => hv x.2) hl he]))
        · exact ((ih4 _ trivial).eq (by rw [e5 trivial (fun x => h0 (by omega)) hl he]))
      | cons a v =>
        simp only [labI, f12.blk, PT.run, dite_eq_ite, List.cons_append]
        simp only [labI, List.nil_append, List.cons_append] at ih1 ih2 ih3 ih4 e1 e2 e3 e4 e5
        refine Ev.pos (by omega) (Ev.pos (by omega) (Ev.pos (by omega) (Ev.ite (fun h0 => Ev.ite (fun hv => ih1.eq (by rw [e1 (by omega) hv])) fun hv => Ev.ite (fun hl => ih2.eq (by rw [e2 (fun x => hv x.2) hl])) fun hl => Ev.bind (pint_ev _ hz) (Ev.ite (fun he => Ev.ret' (by rw [← e3 (fun x => hv x.2) hl he]; rfl)) fun he => ?_)) fun h0 => Ev.ite (fun hl => ih2.eq (by rw [e2 (fun x => h0 (by omega)) hl])) fun hl => Ev.bind (pint_ev _ hz) (Ev.ite (fun he => Ev.ret' (by rw [← e3 (fun x => h0 (by omega)) hl he]; rfl)) fun he => ?_))))
        · exact Ev.pos (by omega) ((ih4 _ trivial).eq (by rw [e5 trivial (fun x => hv x.2) hl he]))
        · exact Ev.pos (by omega) ((ih4 _ trivial).eq (by rw [e5 trivial (fun x => h0 (by omega)) hl he]))
    | true =>
      cases v with
      | nil =>
        cases l with
        | nil =>
          simp only [labI, f12.blk, PT.run, dite_eq_ite, List.cons_append]
          simp only [labI, List.nil_append, List.cons_append] at ih1 ih2 ih3 ih4 e1 e2 e3 e4 e5
          refine Ev.pos (by omega) (Ev.pos (by omega) (Ev.pos (by omega) (Ev.ite (fun h0 => Ev.ite (fun hv => ih1.eq (by rw [e1 (by omega) hv])) fun hv => Ev.ite (fun hl => ih2.eq (by rw [e2 (fun x => hv x.2) hl])) fun hl => Ev.bind (pint_ev _ hz) (Ev.ite (fun he => Ev.ret' (by rw [← e3 (fun x => hv x.2) hl he]; rfl)) fun he => ?_)) fun h0 => Ev.ite (fun hl => ih2.eq (by rw [e2 (fun x => h0 (by omega)) hl])) fun hl => Ev.bind (pint_ev _ hz) (Ev.ite (fun he => Ev.ret' (by rw [← e3 (fun x => h0 (by omega)) hl he]; rfl)) fun he => ?_))))
          · exact ((ih3 _).eq (by rw [e4 trivial (fun x => hv x.2) hl he]))
          · exact ((ih3 _).eq (by rw [e4 trivial (fun x => h0 (by omega)) hl he]))
        | cons b l =>
          simp only [labI, f12.blk, PT.run, dite_eq_ite, List.cons_append]
          simp only [labI, List.nil_append, List.cons_append] at ih1 ih2 ih3 ih4 e1 e2 e3 e4 e5
          refine Ev.pos (by omega) (Ev.pos (by omega) (Ev.pos (by omega) (Ev.ite (fun h0 => Ev.ite (fun hv => ih1.eq (by rw [e1 (by omega) hv])) fun hv => Ev.ite (fun hl => ih2.eq (by rw [e2 (fun x => hv x.2) hl])) fun hl => Ev.bind (pint_ev _ hz) (Ev.ite (fun he => Ev.ret' (by rw [← e3 (fun x => hv x.2) hl he]; rfl)) fun he => ?_)) fun h0 => Ev.ite (fun hl => ih2.eq (by rw [e2 (fun x => h0 (by omega)) hl])) fun hl => Ev.bind (pint_ev _ hz) (Ev.ite (fun he => Ev.ret' (by rw [← e3 (fun x => h0 (by omega)) hl he]; rfl)) fun he => ?_))))
          · exact Ev.pos (by omega) ((ih3 _).eq (by rw [e4 trivial (fun x => hv x.2) hl he]))
          · exact Ev.pos (by omega) ((ih3 _).eq (by rw [e4 trivial (fun x => h0 (by omega)) hl he]))
      | cons a v =>
        cases l with
        | nil =>
          simp only [labI, f12.blk, PT.run, dite_eq_ite, List.cons_append]
          simp only [labI, List.nil_append, List.cons_append] at ih1 ih2 ih3 ih4 e1 e2 e3 e4 e5
          refine Ev.pos (by omega) (Ev.pos (by omega) (Ev.pos (by omega) (Ev.ite (fun h0 => Ev.ite (fun hv => ih1.eq (by rw [e1 (by omega) hv])) fun hv => Ev.ite (fun hl => ih2.eq (by rw [e2 (fun x => hv x.2) hl])) fun hl => Ev.bind (pint_ev _ hz) (Ev.ite (fun he => Ev.ret' (by rw [← e3 (fun x => hv x.2) hl he]; rfl)) fun he => ?_)) fun h0 => Ev.ite (fun hl => ih2.eq (by rw [e2 (fun x => h0 (by omega)) hl])) fun hl => Ev.bind (pint_ev _ hz) (Ev.ite (fun he => Ev.ret' (by rw [← e3 (fun x => h0 (by omega)) hl he]; rfl)) fun he => ?_))))
          · exact ((ih3 _).eq (by rw [e4 trivial (fun x => hv x.2) hl he]))
          · exact ((ih3 _).eq (by rw [e4 trivial (fun x => h0 (by omega)) hl he]))
        | cons b l =>
          simp only [labI, f12.blk, PT.run, dite_eq_ite, List.cons_append]
          simp only [labI, List.nil_append, List.cons_append] at ih1 ih2 ih3 ih4 e1 e2 e3 e4 e5
          refine Ev.pos (by omega) (Ev.pos (by omega) (Ev.pos (by omega) (Ev.ite (fun h0 => Ev.ite (fun hv => ih1.eq (by rw [e1 (by omega) hv])) fun hv => Ev.ite (fun hl => ih2.eq (by rw [e2 (fun x => hv x.2) hl])) fun hl => Ev.bind (pint_ev _ hz) (Ev.ite (fun he => Ev.ret' (by rw [← e3 (fun x => hv x.2) hl he]; rfl)) fun he => ?_)) fun h0 => Ev.ite (fun hl => ih2.eq (by rw [e2 (fun x => h0 (by omega)) hl])) fun hl => Ev.bind (pint_ev _ hz) (Ev.ite (fun he => Ev.ret' (by rw [← e3 (fun x => h0 (by omega)) hl he]; rfl)) fun he => ?_))))
          · exact Ev.pos (by omega) ((ih3 _).eq (by rw [e4 trivial (fun x => hv x.2) hl he]))
          · exact Ev.pos (by omega) ((ih3 _).eq (by rw [e4 trivial (fun x => h0 (by omega)) hl he]))
theorem splitB_size (sep : ByteArray) : ∀ (k : Nat) (s w : ByteArray), w ∈ Lib.splitB sep 0 k s → w.size ≤ s.size
  | 0, s, w, h => by simp [Lib.splitB] at h; rw [h]; exact Nat.le_refl _
  | k + 1, s, w, h => by
    unfold Lib.splitB at h
    split at h
    · simp at h; rw [h]; exact Nat.le_refl _
    · rcases List.mem_cons.1 h with h | h
      · rw [h, ByteArray.size_extract]; omega
      · have := splitB_size sep k _ w h
        rw [ByteArray.size_extract] at this
        omega
theorem readConf_ev (t : ByteArray) (ht : t.size ≤ 1048576) : Ev (fun k => f12 k t) (finC t (parseI (splV t ⟨#[32]⟩) (splV t ⟨#[32]⟩).length 0 false [] [])) := by
  simp only [f12, f12.start, PT.run]
  have hc : Lib.countB t ⟨#[32]⟩ ≤ t.size := Lib.countB_le ⟨#[32]⟩ (Nat.le_refl 1) t.size t (Nat.le_refl _)
  have hlen : (splV t ⟨#[32]⟩).length ≤ 4194304 := by unfold splV; rw [Lib.splitB_all ⟨#[32]⟩ (Nat.le_refl 1) 0 _ t rfl]; omega
  refine Ev.bind (a := splV t ⟨#[32]⟩) ?_ ?_
  · unfold f19
    exact Ev.pos ⟨rfl, by omega⟩ (Ev.ret _)
  · refine readI_loop (splV t ⟨#[32]⟩) t hlen (fun i hi => ?_) _ 0 false [] [] rfl (Nat.zero_le _) (fun _ => rfl) (Nat.zero_le _)
    rw [at_nat _ i hi]
    have := splitB_size _ _ _ _ (List.getElem_mem hi)
    omega
end Go.Proofs.YtbfgmnjhikaagaaDoor.P
namespace Go.Proofs.YtbfgmnjhikaagaaDoor.P
open Go Go.Proofs.YtbfgmnjhikaagaaDoor.PM Go.Proofs
open Go.Proofs.YtbfgmnjhikaagaaDoor.PN (PT)
def digB (c : Int) : Bool := inB 48 57 c
theorem l1Digit_ev (c : Int) : Ev (fun k => f16 k c) (digB c) := by
  simp only [f16, f16.start, PT.run, dite_eq_ite, digB, inB]
  exact Ev.ite (fun h => Ev.ret' (by rw [decide_eq_true h]; rfl)) (fun h => Ev.ret' (by rw [decide_eq_false h]; rfl))
def numF (w : ByteArray) : Nat → Nat → Int → Int
  | 0, _, n => if 50 < n then -1 else n
  | d + 1, i, n => if digB (byteAt w (i : Int)) = true then numF w d (i + 1) (n * 10 + (byteAt w (i : Int) - 48)) else -1
def numV (w : ByteArray) : Int := if w.size < 1 then -1 else if 15 < w.size then -1 else if 1 < w.size ∧ byteAt w 0 = 48 then -1 else numF w w.size 0 0
theorem num_loop (w : ByteArray) (hw : w.size ≤ 15) (d : Nat) : ∀ (i : Nat) (n : Int), w.size - i = d → i ≤ w.size → 0 ≤ n → n < ((10 ^ i : Nat) : Int) → Ev (fun k => f10.D k (.l5 w 50 n (i : Int))) (numF w d i n) := by
  induction d with
  | zero =>
    intro i n hd hi h0 h1
    refine Ev.round ?_
    simp only [f10.blk, PT.run, dite_eq_ite]
    refine Ev.neg (by omega) ?_
    unfold numF
    exact Ev.ite (fun h => Ev.ret' (by rw [if_pos h])) (fun h => Ev.ret' (by rw [if_neg h]))
  | succ d ih =>
    intro i n hd hi h0 h1
    refine Ev.round ?_
    simp only [f10.blk, PT.run, dite_eq_ite]
    refine Ev.pos (by omega) (Ev.pos (by omega) (Ev.bind (l1Digit_ev _) ?_))
    unfold numF
    refine Ev.ite (fun h => ?_) (fun h => Ev.ret' (by rw [if_neg h]))
    rw [if_pos h]
    have hb := h
    unfold digB inB at hb
    simp only [Bool.and_eq_true, decide_eq_true_eq] at hb
    have hp : (10 : Nat) ^ (i + 1) = 10 ^ i * 10 := Nat.pow_succ ..
    have hq : (10 : Nat) ^ i ≤ 10 ^ 14 := Nat.pow_le_pow_right (by decide) (by omega)
    have hn := ih (i + 1) (n * 10 + (byteAt w (i : Int) - 48)) (by omega) (by omega) (by omega) (by rw [hp]; generalize (10 : Nat) ^ i = M at *; omega)
    rw [← wr1 (by omega)] at hn
    have h14 : (10 : Nat) ^ 14 = 100000000000000 := by decide
    have e1 : IntKind.u8.wrap (byteAt w (i : Int) - 48) = byteAt w (i : Int) - 48 := by rw [IntKind.wrap_u8]; omega
    have e2 : IntKind.i64.wrap (byteAt w (i : Int) - 48) = byteAt w (i : Int) - 48 := wr (by omega) (by omega)
    have e3 : IntKind.i64.wrap (n * 10) = n * 10 := by generalize (10 : Nat) ^ i = M at *; exact wr (by omega) (by omega)
    have e4 : IntKind.i64.wrap (n * 10 + (byteAt w (i : Int) - 48)) = n * 10 + (byteAt w (i : Int) - 48) := by generalize (10 : Nat) ^ i = M at *; exact wr (by omega) (by omega)
    rw [e1, e2, e3, e4]
    exact hn
theorem l1Number_ev (w : ByteArray) (hw : w.size ≤ 4194304) : Ev (fun k => f10 k w 50) (numV w) := by
  simp only [f10, f10.start, PT.run, dite_eq_ite]
  unfold numV
  refine Ev.ite (fun h => Ev.ret' (by rw [if_pos (by omega)])) (fun h => ?_)
  rw [if_neg (by omega)]
  refine Ev.ite (fun h1 => Ev.ret' (by rw [if_pos (by omega)])) (fun h1 => ?_)
  rw [if_neg (by omega)]
  have hl := num_loop w (by omega) _ 0 0 rfl (Nat.zero_le _) (by omega) (by decide)
  by_cases h2 : 1 < w.size
  · refine Ev.pos (by omega) ?_
    refine Ev.ite (fun h3 => Ev.ret' (by rw [if_pos ⟨h2, h3⟩])) (fun h3 => ?_)
    rw [if_neg fun x => h3 x.2]
    exact hl
  · refine Ev.neg (by omega) ?_
    rw [if_neg fun x => h2 x.1]
    exact hl
def cutF (s : ByteArray) : Nat → Nat → Nat → List ByteArray
  | 0, i, m => [s.extract m i]
  | d + 1, i, m => if byteAt s (i : Int) = 32 then s.extract m i :: cutF s d (i + 1) (i + 1) else cutF s d (i + 1) m
theorem cutF_length (s : ByteArray) : ∀ (d i m : Nat), (cutF s d i m).length ≤ d + 1
  | 0, _, _ => Nat.le_refl _
  | d + 1, i, m => by
    unfold cutF
    split
    · have := cutF_length s d (i + 1) (i + 1)
      simp only [List.length_cons]; omega
    · have := cutF_length s d (i + 1) m
      omega
theorem cutF_size (s : ByteArray) : ∀ (d i m : Nat) (w : ByteArray), w ∈ cutF s d i m → w.size ≤ s.size
  | 0, i, m, w, h => by simp [cutF] at h; rw [h, ByteArray.size_extract]; omega
  | d + 1, i, m, w, h => by
    unfold cutF at h
    split at h
    · rcases List.mem_cons.1 h with h | h
      · rw [h, ByteArray.size_extract]; omega
      · exact cutF_size s d _ _ w h
    · exact cutF_size s d _ _ w h
theorem cut_loop (s : ByteArray) (hs : s.size ≤ 1048576) (d : Nat) : ∀ (i m : Nat) (q : List ByteArray), s.size - i = d → i ≤ s.size → m ≤ i → q.length ≤ i → Ev (fun k => f9.D k (.l4 q s 32 (m : Int) (i : Int))) (q ++ cutF s d i m) := by
  induction d with
  | zero =>
    intro i m q hd hi hm hq
    refine Ev.round ?_
    simp only [f9.blk, PT.run, dite_eq_ite]
    refine Ev.pos (by omega) (Ev.pos (by omega) (Ev.pos (by omega) (Ev.pos (by omega) (Ev.pos (by omega) ?_))))
    refine Ev.round ?_
    simp only [f9.blk, PT.run, dite_eq_ite]
    rw [wr1 (by omega)]
    refine Ev.neg (by omega) (Ev.ret' ?_)
    simp [cutF]
  | succ d ih =>
    intro i m q hd hi hm hq
    refine Ev.round ?_
    simp only [f9.blk, PT.run, dite_eq_ite]
    refine Ev.pos (by omega) (Ev.neg (by omega) (Ev.pos (by omega) (Ev.pos (by omega) ?_)))
    unfold cutF
    refine Ev.ite (fun h => ?_) (fun h => ?_)
    · rw [if_pos h]
      have hn := ih (i + 1) (i + 1) (q ++ [s.extract m i]) (by omega) (by omega) (Nat.le_refl _) (by rw [List.length_append, List.length_singleton]; omega)
      rw [← wr1 (by omega), List.append_assoc, List.singleton_append] at hn
      exact Ev.pos (by omega) (Ev.pos (by omega) (Ev.pos (by omega) hn))
    · rw [if_neg h]
      have hn := ih (i + 1) m q (by omega) (by omega) (by omega) (by omega)
      rw [← wr1 (by omega)] at hn
      exact hn
def cutV (s : ByteArray) : List ByteArray := cutF s s.size 0 0
theorem l3Cut_ev (s : ByteArray) (hs : s.size ≤ 1048576) : Ev (fun k => f9 k s 32) (cutV s) := by
  simp only [f9, f9.start, PT.run]
  have := cut_loop s hs _ 0 0 [] rfl (Nat.zero_le _) (Nat.le_refl _) (Nat.le_refl _)
  unfold cutV
  simpa using this
def parseS (ws : List ByteArray) : Nat → Nat → Bool → List Int → List Int → List Int × List Int
  | 0, _, _, v, l => (v, l)
  | d + 1, i, g, v, l =>
    let w := at' ws (i : Int)
    if strEq w wL = true ∧ ¬ g = true then parseS ws d (i + 1) true v l
    else if g = true then parseS ws d (i + 1) g v (l ++ [numV w])
    else parseS ws d (i + 1) g (v ++ [numV w]) l
def finS (t : ByteArray) (p : List Int × List Int) : Bool × List Int × List Int :=
  if strEq (if confB p.1 p.2 = true then ctext p.1 p.2 else ⟨#[]⟩) t = true ∧ ¬ strEq t ⟨#[]⟩ = true then (true, p.1, p.2) else (false, [], [])
def labS (ws : List ByteArray) (t : ByteArray) (i : Int) (g : Bool) (v l : List Int) : f4.L := match v, l with
  | [], [] => .l7 ws t g i
  | [], b :: l => .l7v1 ws (b :: l) t g i
  | a :: v, b :: l => .l7v2 ws (a :: v) (b :: l) t g i
  | a :: v, [] => .l7v3 ws (a :: v) t g i
theorem finS_ev (t : ByteArray) (v l : List Int) (hv : v.length ≤ 4194304) (hl : l.length ≤ 4194304) :
    Ev (fun k => (f11 k v l).bind fun t1 => if strEq t1 t = true then (if strEq t ⟨#[]⟩ = true then some (false, [], []) else some (true, v, l)) else some (false, [], [])) (finS t (v, l)) := by
  refine Ev.bind (ConfText_ev v l hv hl) ?_
  unfold finS
  refine Ev.ite (fun h => Ev.ite (fun h2 => Ev.ret' (by rw [if_neg fun x => x.2 h2])) (fun h2 => Ev.ret' (by rw [if_pos ⟨h, h2⟩]))) (fun h => Ev.ret' (by rw [if_neg fun x => h x.1]))
set_option maxHeartbeats 4000000 in
theorem readS_loop (ws : List ByteArray) (t : ByteArray) (hn : ws.length ≤ 4194304) (hw : ∀ i : Nat, i < ws.length → (at' ws (i : Int)).size ≤ 4194304) (d : Nat) : ∀ (i : Nat) (g : Bool) (v l : List Int), ws.length - i = d → i ≤ ws.length → v.length + l.length ≤ i →
    Ev (fun k => f4.D k (labS ws t (i : Int) g v l)) (finS t (parseS ws d i g v l)) := by
  induction d with
  | zero =>
    intro i g v l hd hi hs
    have hE := finS_ev t v l (by omega) (by omega)
    unfold parseS
    refine Ev.round ?_
    cases v with
    | nil =>
      cases l with
      | nil => simp only [labS, f4.blk, PT.run, dite_eq_ite]; exact Ev.neg (by omega) hE
      | cons b l => simp only [labS, f4.blk, PT.run, dite_eq_ite]; exact Ev.neg (by omega) hE
    | cons a v =>
      cases l with
      | nil => simp only [labS, f4.blk, PT.run, dite_eq_ite]; exact Ev.neg (by omega) hE
      | cons b l => simp only [labS, f4.blk, PT.run, dite_eq_ite]; exact Ev.neg (by omega) hE
  | succ d ih =>
    intro i g v l hd hi hs
    have ih2 := ih (i + 1) true v l (by omega) (by omega) (by omega)
    have ih3 := ih (i + 1) g v (l ++ [numV (at' ws (i : Int))]) (by omega) (by omega) (by rw [List.length_append, List.length_singleton]; omega)
    have ih4 := ih (i + 1) g (v ++ [numV (at' ws (i : Int))]) l (by omega) (by omega) (by rw [List.length_append, List.length_singleton]; omega)
    have hz := hw i (by omega)
    have hN := l1Number_ev _ hz
    rw [← wr1 (by omega)] at ih2 ih3 ih4
    have e : parseS ws (d + 1) i g v l = if strEq (at' ws (i : Int)) wL = true ∧ ¬ g = true then parseS ws d (i + 1) true v l else if g = true then parseS ws d (i + 1) g v (l ++ [numV (at' ws (i : Int))]) else parseS ws d (i + 1) g (v ++ [numV (at' ws (i : Int))]) l := rfl
    rw [e]
    clear ih e
    refine Ev.round ?_
    have a1 : strEq (at' ws (i : Int)) wL = true → ¬ g = true → (if strEq (at' ws (i : Int)) wL = true ∧ ¬ g = true then parseS ws d (i + 1) true v l else if g = true then parseS ws d (i + 1) g v (l ++ [numV (at' ws (i : Int))]) else parseS ws d (i + 1) g (v ++ [numV (at' ws (i : Int))]) l) = parseS ws d (i + 1) true v l := fun h1 h2 => if_pos ⟨h1, h2⟩
    have a2 : g = true → (if strEq (at' ws (i : Int)) wL = true ∧ ¬ g = true then parseS ws d (i + 1) true v l else if g = true then parseS ws d (i + 1) g v (l ++ [numV (at' ws (i : Int))]) else parseS ws d (i + 1) g (v ++ [numV (at' ws (i : Int))]) l) = parseS ws d (i + 1) g v (l ++ [numV (at' ws (i : Int))]) := fun h1 => by rw [if_neg fun x => x.2 h1, if_pos h1]
    have a3 : ¬ strEq (at' ws (i : Int)) wL = true → ¬ g = true → (if strEq (at' ws (i : Int)) wL = true ∧ ¬ g = true then parseS ws d (i + 1) true v l else if g = true then parseS ws d (i + 1) g v (l ++ [numV (at' ws (i : Int))]) else parseS ws d (i + 1) g (v ++ [numV (at' ws (i : Int))]) l) = parseS ws d (i + 1) g (v ++ [numV (at' ws (i : Int))]) l := fun h1 h2 => by rw [if_neg fun x => h1 x.1, if_neg h2]
    generalize (if strEq (at' ws (i : Int)) wL = true ∧ ¬ g = true then parseS ws d (i + 1) true v l else if g = true then parseS ws d (i + 1) g v (l ++ [numV (at' ws (i : Int))]) else parseS ws d (i + 1) g (v ++ [numV (at' ws (i : Int))]) l) = r at a1 a2 a3 ⊢
    cases v with
    | nil =>
      cases l with
      | nil =>
        simp only [labS, f4.blk, PT.run, dite_eq_ite, List.cons_append]
        simp only [labS, List.nil_append, List.cons_append] at ih2 ih3 ih4 a1 a2 a3
        refine Ev.pos (by omega) (Ev.pos (by omega) (Ev.ite (fun h1 => Ev.ite (fun h2 => Ev.bind hN (ih3.eq (by rw [a2 h2]))) fun h2 => ih2.eq (by rw [a1 h1 h2])) fun h1 => Ev.bind hN (Ev.ite (fun h2 => ih3.eq (by rw [a2 h2])) fun h2 => ih4.eq (by rw [a3 h1 h2]))))
      | cons b l =>
        simp only [labS, f4.blk, PT.run, dite_eq_ite, List.cons_append]
        simp only [labS, List.nil_append, List.cons_append] at ih2 ih3 ih4 a1 a2 a3
        refine Ev.pos (by omega) (Ev.pos (by omega) (Ev.ite (fun h1 => Ev.ite (fun h2 => Ev.bind hN (Ev.pos (by omega) (ih3.eq (by rw [a2 h2])))) fun h2 => ih2.eq (by rw [a1 h1 h2])) fun h1 => Ev.bind hN (Ev.ite (fun h2 => Ev.pos (by omega) (ih3.eq (by rw [a2 h2]))) fun h2 => ih4.eq (by rw [a3 h1 h2]))))
    | cons a v =>
      cases l with
      | nil =>
        simp only [labS, f4.blk, PT.run, dite_eq_ite, List.cons_append]
        simp only [labS, List.nil_append, List.cons_append] at ih2 ih3 ih4 a1 a2 a3
        refine Ev.pos (by omega) (Ev.pos (by omega) (Ev.ite (fun h1 => Ev.ite (fun h2 => Ev.bind hN (ih3.eq (by rw [a2 h2]))) fun h2 => ih2.eq (by rw [a1 h1 h2])) fun h1 => Ev.bind hN (Ev.ite (fun h2 => ih3.eq (by rw [a2 h2])) fun h2 => Ev.pos (by omega) (ih4.eq (by rw [a3 h1 h2])))))
      | cons b l =>
        simp only [labS, f4.blk, PT.run, dite_eq_ite, List.cons_append]
        simp only [labS, List.nil_append, List.cons_append] at ih2 ih3 ih4 a1 a2 a3
        refine Ev.pos (by omega) (Ev.pos (by omega) (Ev.ite (fun h1 => Ev.ite (fun h2 => Ev.bind hN (Ev.pos (by omega) (ih3.eq (by rw [a2 h2])))) fun h2 => ih2.eq (by rw [a1 h1 h2])) fun h1 => Ev.bind hN (Ev.ite (fun h2 => Ev.pos (by omega) (ih3.eq (by rw [a2 h2]))) fun h2 => Ev.pos (by omega) (ih4.eq (by rw [a3 h1 h2])))))
theorem ReadConf_ev (t : ByteArray) (ht : t.size ≤ 1048576) : Ev (fun k => f4 k t) (if 200 < t.size then (false, [], []) else finS t (parseS (cutV t) ((cutV t).length - 1) 1 false [] [])) := by
  simp only [f4, f4.start, PT.run, dite_eq_ite]
  refine Ev.ite (fun h => Ev.ret' (by rw [if_pos (by omega)])) (fun h => ?_)
  rw [if_neg (by omega)]
  have h0 : 0 < (cutV t).length := by
    unfold cutV
    cases hd : t.size with
    | zero => simp [cutF]
    | succ d =>
      have : ∀ d i m, 0 < (cutF t d i m).length := by
        intro d
        induction d with
        | zero => intro i m; simp [cutF]
        | succ d ih => intro i m; unfold cutF; split <;> simp [ih]
      exact this _ _ _
  have hl : (cutV t).length ≤ 4194304 := by have := cutF_length t t.size 0 0; unfold cutV; omega
  refine Ev.bind (l3Cut_ev t ht) (readS_loop (cutV t) t hl (fun i hi => ?_) _ 1 false [] [] rfl h0 (Nat.zero_le _))
  rw [at_nat _ i hi]
  have := cutF_size t _ _ _ _ (List.getElem_mem hi)
  omega
end Go.Proofs.YtbfgmnjhikaagaaDoor.P
namespace Go.Proofs.YtbfgmnjhikaagaaDoor.P
open Go Go.Proofs.YtbfgmnjhikaagaaDoor.PM Go.Proofs
abbrev bs (s : ByteArray) : List UInt8 := s.data.toList
theorem bs_inj {a b : ByteArray} (h : bs a = bs b) : a = b := ByteArray.ext (Array.toList_inj.1 h)
theorem bs_append (a b : ByteArray) : bs (a ++ b) = bs a ++ bs b := by simp [bs]
def jn (ws : List (List UInt8)) : List UInt8 := ws.flatMap fun w => 32 :: w
theorem jn_cons (w : List UInt8) (r : List (List UInt8)) : jn (w :: r) = 32 :: (w ++ jn r) := by simp [jn]
theorem jn_append (a b : List (List UInt8)) : jn (a ++ b) = jn a ++ jn b := by simp [jn]
theorem txt_bs (s : ByteArray) (l : List Int) : bs (txt s l) = bs s ++ jn (l.map fun n => bs (dec1 n)) := by
  induction l generalizing s with
  | nil => simp [txt, jn]
  | cons n r ih =>
    show bs (txt (s ++ (⟨#[32]⟩ : ByteArray) ++ dec1 n) r) = _
    rw [ih, List.map_cons, jn_cons, bs_append, bs_append, List.append_assoc, List.append_assoc]
    rfl
def tailW (l : List Int) : List ByteArray := if 0 < l.length then wL :: l.map dec1 else []
def wordsOf (v l : List Int) : List ByteArray := wV :: (v.map dec1 ++ tailW l)
theorem ctext_bs (v l : List Int) : bs (ctext v l) = bs wV ++ jn ((v.map dec1 ++ tailW l).map bs) := by
  unfold ctext tail1 tailW
  split
  · rw [txt_bs, bs_append, txt_bs, List.map_append, jn_append, List.map_cons, jn_cons, List.map_map, List.map_map, show bs (⟨#[32, 108]⟩ : ByteArray) = [32, 108] from rfl, show bs wL = [108] from rfl]
    simp [Function.comp_def]
  · rw [txt_bs, List.append_nil, List.map_map]
    rfl
theorem index_hit : ∀ (w r : List UInt8), (32 : UInt8) ∉ w → Lib.index (w ++ 32 :: r) [32] = w.length
  | [], r, _ => by rw [Lib.index_one]; rfl
  | b :: w, r, h => by
    have h1 : (32 : UInt8) ∉ w := fun x => h (List.mem_cons_of_mem _ x)
    have h2 : ¬ b = 32 := fun x => h (by rw [x]; exact List.mem_cons_self)
    have ih := index_hit w r h1
    rw [Lib.index_one] at ih ⊢
    show Lib.indexByte (b :: (w ++ 32 :: r)) 32 = _
    unfold Lib.indexByte
    rw [ih, if_neg (by simpa using h2), if_neg (by simp), List.length_cons]
    omega
theorem count_jn (r : List (List UInt8)) (hr : ∀ x ∈ r, (32 : UInt8) ∉ x) : (jn r).count 32 = r.length := by
  induction r with
  | nil => rfl
  | cons a r ih =>
    rw [jn_cons, List.count_cons_self, List.count_append, ih fun x hx => hr x (List.mem_cons_of_mem _ hx), List.count_eq_zero.2 (hr a List.mem_cons_self), List.length_cons]
    omega
theorem splitK_jn : ∀ (r : List (List UInt8)) (w : List UInt8), (32 : UInt8) ∉ w → (∀ x ∈ r, (32 : UInt8) ∉ x) → Lib.splitK [32] 0 r.length (w ++ jn r) = w :: r
  | [], w, hw, _ => by simp [jn, Lib.splitK]
  | a :: r, w, hw, hr => by
    have h1 := index_hit w (a ++ jn r) hw
    rw [jn_cons, List.length_cons]
    unfold Lib.splitK
    rw [h1, if_neg (by simp)]
    have : ((w.length : Int)).toNat = w.length := Int.toNat_natCast _
    rw [this, Nat.add_zero, List.take_left' rfl, show w.length + ([32] : List UInt8).length = w.length + 1 from rfl, List.drop_append, List.drop_of_length_le (Nat.le_succ _)]
    rw [show w.length + 1 - w.length = 1 by omega, List.drop_one, List.tail_cons, List.nil_append, splitK_jn r a (hr a List.mem_cons_self) fun x hx => hr x (List.mem_cons_of_mem _ hx)]
theorem map_bs_inj : ∀ {a b : List ByteArray}, a.map bs = b.map bs → a = b
  | [], [], _ => rfl
  | [], _ :: _, h => by simp at h
  | _ :: _, [], h => by simp at h
  | x :: a, y :: b, h => by
    rw [List.map_cons, List.map_cons] at h
    injection h with h1 h2
    rw [bs_inj h1, map_bs_inj h2]
theorem splV_words (t w : ByteArray) (r : List ByteArray) (ht : bs t = bs w ++ jn (r.map bs)) (hw : (32 : UInt8) ∉ bs w) (hr : ∀ x ∈ r, (32 : UInt8) ∉ bs x) : splV t ⟨#[32]⟩ = w :: r := by
  apply map_bs_inj
  have hr' : ∀ x ∈ r.map bs, (32 : UInt8) ∉ x := fun x hx => by obtain ⟨y, hy, rfl⟩ := List.mem_map.1 hx; exact hr y hy
  unfold splV
  have h1 := Lib.splitB_data ⟨#[32]⟩ 0 (Lib.countB t ⟨#[32]⟩) t
  have h2 : Lib.countB t ⟨#[32]⟩ = r.length := by
    show Lib.count (bs t) [32] = _
    rw [Lib.count_one, ht, List.count_append, List.count_eq_zero.2 hw, count_jn _ hr', List.length_map]
    omega
  rw [h2] at h1 ⊢
  refine (show List.map bs _ = _ from h1).trans ?_
  show Lib.splitK [32] 0 r.length (bs t) = _
  rw [ht]
  have := splitK_jn (r.map bs) (bs w) hw hr'
  rw [List.length_map] at this
  rw [this]
  rfl
def cutL : List UInt8 → List UInt8 → List (List UInt8)
  | [], c => [c]
  | b :: r, c => if b = 32 then c :: cutL r [] else cutL r (c ++ [b])
theorem byteAt_eq32 (s : ByteArray) (i : Nat) (h : i < s.size) : byteAt s (i : Int) = 32 ↔ (bs s)[i]'(by rw [← Lib.size_eq]; exact h) = 32 := by
  have e : byteAt s (i : Int) = (((bs s)[i]'(by rw [← Lib.size_eq]; exact h)).toNat : Int) := by
    unfold byteAt
    rw [Int.toNat_natCast, getElem?_pos s i h]
    rfl
  rw [e]
  constructor
  · intro h1
    apply UInt8.toNat_inj.1
    show _ = 32
    omega
  · intro h1; rw [h1]; rfl
theorem cutF_L (s : ByteArray) : ∀ (d i m : Nat), s.size - i = d → i ≤ s.size → m ≤ i → (cutF s d i m).map bs = cutL ((bs s).drop i) (((bs s).drop m).take (i - m))
  | 0, i, m, hd, hi, hm => by
    have hz : s.size = (bs s).length := Lib.size_eq s
    rw [List.drop_of_length_le (by omega)]
    simp [cutF, cutL, bs, Lib.extract_data]
  | d + 1, i, m, hd, hi, hm => by
    have hz : s.size = (bs s).length := Lib.size_eq s
    have hlt : i < (bs s).length := by omega
    rw [List.drop_eq_getElem_cons hlt]
    unfold cutF cutL
    have hb := byteAt_eq32 s i (by omega)
    by_cases h : byteAt s (i : Int) = 32
    · rw [if_pos h, if_pos (hb.1 h), List.map_cons, cutF_L s d (i + 1) (i + 1) (by omega) (by omega) (Nat.le_refl _), Nat.sub_self, List.take_zero]
      simp [bs, Lib.extract_data]
    · rw [if_neg h, if_neg fun x => h (hb.2 x), cutF_L s d (i + 1) m (by omega) (by omega) (by omega)]
      congr 1
      rw [show i + 1 - m = (i - m) + 1 by omega, List.take_add_one, List.getElem?_drop, show m + (i - m) = i by omega, List.getElem?_eq_getElem hlt]
      rfl
theorem cutL_word : ∀ (w r c : List UInt8), (32 : UInt8) ∉ w → cutL (w ++ r) c = cutL r (c ++ w)
  | [], r, c, _ => by simp
  | b :: w, r, c, h => by
    have h1 : (32 : UInt8) ∉ w := fun x => h (List.mem_cons_of_mem _ x)
    have h2 : ¬ b = 32 := fun x => h (by rw [x]; exact List.mem_cons_self)
    rw [List.cons_append]
    show (if b = 32 then c :: cutL (w ++ r) [] else cutL (w ++ r) (c ++ [b])) = _
    rw [if_neg h2, cutL_word w r _ h1, List.append_assoc]
    rfl
theorem cutL_jn : ∀ (r : List (List UInt8)) (w : List UInt8), (32 : UInt8) ∉ w → (∀ x ∈ r, (32 : UInt8) ∉ x) → cutL (w ++ jn r) [] = w :: r
  | [], w, hw, _ => by rw [cutL_word w _ _ hw]; rfl
  | a :: r, w, hw, hr => by
    rw [cutL_word w _ _ hw, jn_cons]
    show (if (32 : UInt8) = 32 then ([] ++ w) :: cutL (a ++ jn r) [] else _) = _
    rw [if_pos rfl, cutL_jn r a (hr a List.mem_cons_self) fun x hx => hr x (List.mem_cons_of_mem _ hx)]
    rfl
theorem cutV_words (t w : ByteArray) (r : List ByteArray) (ht : bs t = bs w ++ jn (r.map bs)) (hw : (32 : UInt8) ∉ bs w) (hr : ∀ x ∈ r, (32 : UInt8) ∉ bs x) : cutV t = w :: r := by
  apply map_bs_inj
  unfold cutV
  rw [cutF_L t t.size 0 0 (Nat.sub_zero _) (Nat.zero_le _) (Nat.le_refl _), List.drop_zero, Nat.sub_self, List.take_zero, ht, cutL_jn _ _ hw fun x hx => by obtain ⟨y, hy, rfl⟩ := List.mem_map.1 hx; exact hr y hy]
  rfl
theorem dec_reads (n : Int) (h1 : 1 ≤ n) (h2 : n ≤ 50) : (32 : UInt8) ∉ bs (dec1 n) ∧ ¬ strEq (dec1 n) wL = true ∧ pintV (dec1 n) = (n, false) ∧ numV (dec1 n) = n := by
  have h : n = 1 ∨ n = 2 ∨ n = 3 ∨ n = 4 ∨ n = 5 ∨ n = 6 ∨ n = 7 ∨ n = 8 ∨ n = 9 ∨ n = 10 ∨ n = 11 ∨ n = 12 ∨ n = 13 ∨ n = 14 ∨ n = 15 ∨ n = 16 ∨ n = 17 ∨ n = 18 ∨ n = 19 ∨ n = 20 ∨ n = 21 ∨ n = 22 ∨ n = 23 ∨ n = 24 ∨ n = 25 ∨ n = 26 ∨ n = 27 ∨ n = 28 ∨ n = 29 ∨ n = 30 ∨ n = 31 ∨ n = 32 ∨ n = 33 ∨ n = 34 ∨ n = 35 ∨ n = 36 ∨ n = 37 ∨ n = 38 ∨ n = 39 ∨ n = 40 ∨ n = 41 ∨ n = 42 ∨ n = 43 ∨ n = 44 ∨ n = 45 ∨ n = 46 ∨ n = 47 ∨ n = 48 ∨ n = 49 ∨ n = 50 := by omega
  rcases h with rfl | rfl | rfl | rfl | rfl | rfl | rfl | rfl | rfl | rfl | rfl | rfl | rfl | rfl | rfl | rfl | rfl | rfl | rfl | rfl | rfl | rfl | rfl | rfl | rfl | rfl | rfl | rfl | rfl | rfl | rfl | rfl | rfl | rfl | rfl | rfl | rfl | rfl | rfl | rfl | rfl | rfl | rfl | rfl | rfl | rfl | rfl | rfl | rfl | rfl <;> exact ⟨of_decide_eq_true (by kernel_rfl), of_decide_eq_true (by kernel_rfl), by kernel_rfl, by kernel_rfl⟩
theorem tailW_ok (l : List Int) (hl : oks l) : ∀ x ∈ tailW l, (32 : UInt8) ∉ bs x := fun x hx => by
  unfold tailW at hx
  split at hx
  · rcases List.mem_cons.1 hx with rfl | hx
    · exact of_decide_eq_true (by kernel_rfl)
    · obtain ⟨n, hn, rfl⟩ := List.mem_map.1 hx
      obtain ⟨i, hi, rfl⟩ := List.getElem_of_mem hn
      have := hl i hi
      rw [at_nat l i hi] at this
      exact (dec_reads _ this.1 this.2).1
  · simp at hx
theorem words_ok (v l : List Int) (hv : oks v) (hl : oks l) : ∀ x ∈ v.map dec1 ++ tailW l, (32 : UInt8) ∉ bs x := fun x hx => by
  rcases List.mem_append.1 hx with hx | hx
  · obtain ⟨n, hn, rfl⟩ := List.mem_map.1 hx
    obtain ⟨i, hi, rfl⟩ := List.getElem_of_mem hn
    have := hv i hi
    rw [at_nat v i hi] at this
    exact (dec_reads _ this.1 this.2).1
  · exact tailW_ok l hl x hx
def PL : List ByteArray → Bool → List Int → List Int → Option (List Int × List Int)
  | [], _, v, l => some (v, l)
  | w :: r, g, v, l => if strEq w wL = true then PL r true v l else if (pintV w).2 = true then none else if g = true then PL r g v (l ++ [(pintV w).1]) else PL r g (v ++ [(pintV w).1]) l
def SL : List ByteArray → Bool → List Int → List Int → List Int × List Int
  | [], _, v, l => (v, l)
  | w :: r, g, v, l => if strEq w wL = true ∧ ¬ g = true then SL r true v l else if g = true then SL r g v (l ++ [numV w]) else SL r g (v ++ [numV w]) l
theorem parseI_PL (ws : List ByteArray) : ∀ (d i : Nat) (g : Bool) (v l : List Int), 0 < i → ws.length - i = d → i ≤ ws.length → parseI ws d i g v l = PL (ws.drop i) g v l
  | 0, i, g, v, l, h0, hd, hi => by rw [List.drop_of_length_le (by omega)]; rfl
  | d + 1, i, g, v, l, h0, hd, hi => by
    have hlt : i < ws.length := by omega
    rw [List.drop_eq_getElem_cons hlt]
    unfold parseI PL
    rw [at_nat ws i hlt]
    simp only [parseI_PL ws d (i + 1) _ _ _ (Nat.succ_pos _) (by omega) (by omega), show ¬ i = 0 by omega, false_and, if_false]
theorem parseS_SL (ws : List ByteArray) : ∀ (d i : Nat) (g : Bool) (v l : List Int), ws.length - i = d → i ≤ ws.length → parseS ws d i g v l = SL (ws.drop i) g v l
  | 0, i, g, v, l, hd, hi => by rw [List.drop_of_length_le (by omega)]; rfl
  | d + 1, i, g, v, l, hd, hi => by
    have hlt : i < ws.length := by omega
    rw [List.drop_eq_getElem_cons hlt]
    unfold parseS SL
    rw [at_nat ws i hlt]
    simp only [parseS_SL ws d (i + 1) _ _ _ (by omega) (by omega)]
theorem oks_cons {n : Int} {r : List Int} (h : oks (n :: r)) : (1 ≤ n ∧ n ≤ 50) ∧ oks r := by
  refine ⟨?_, fun i hi => ?_⟩
  · have := h 0 (by simp)
    rw [at_nat _ 0 (by simp)] at this
    simpa using this
  · have := h (i + 1) (by simpa using hi)
    rw [at_nat _ (i + 1) (by simpa using hi)] at this
    rw [at_nat _ i hi]
    simpa using this
theorem PL_v (T : List ByteArray) : ∀ (r a : List Int), oks r → PL (r.map dec1 ++ T) false a [] = PL T false (a ++ r) []
  | [], a, _ => by simp
  | n :: r, a, h => by
    obtain ⟨h1, h2⟩ := oks_cons h
    obtain ⟨_, e1, e2, _⟩ := dec_reads n h1.1 h1.2
    rw [List.map_cons, List.cons_append, PL, if_neg e1, e2, if_neg (by simp), if_neg (by simp), PL_v T r _ h2, List.append_assoc]
    rfl
theorem PL_l (v : List Int) : ∀ (r a : List Int), oks r → PL (r.map dec1) true v a = some (v, a ++ r)
  | [], a, _ => by simp [PL]
  | n :: r, a, h => by
    obtain ⟨h1, h2⟩ := oks_cons h
    obtain ⟨_, e1, e2, _⟩ := dec_reads n h1.1 h1.2
    rw [List.map_cons, PL, if_neg e1, e2, if_neg (by simp), if_pos rfl, PL_l v r _ h2, List.append_assoc]
    rfl
theorem SL_v (T : List ByteArray) : ∀ (r a : List Int), oks r → SL (r.map dec1 ++ T) false a [] = SL T false (a ++ r) []
  | [], a, _ => by simp
  | n :: r, a, h => by
    obtain ⟨h1, h2⟩ := oks_cons h
    obtain ⟨_, e1, _, e2⟩ := dec_reads n h1.1 h1.2
    rw [List.map_cons, List.cons_append, SL, if_neg fun x => e1 x.1, if_neg (by simp), e2, SL_v T r _ h2, List.append_assoc]
    rfl
theorem SL_l (v : List Int) : ∀ (r a : List Int), oks r → SL (r.map dec1) true v a = (v, a ++ r)
  | [], a, _ => by simp [SL]
  | n :: r, a, h => by
    obtain ⟨h1, h2⟩ := oks_cons h
    obtain ⟨_, e1, _, e2⟩ := dec_reads n h1.1 h1.2
    rw [List.map_cons, SL, if_neg fun x => e1 x.1, if_pos rfl, e2, SL_l v r _ h2, List.append_assoc]
    rfl
theorem words_I (v l : List Int) (hv : oks v) (hl : oks l) : parseI (wordsOf v l) (wordsOf v l).length 0 false [] [] = some (v, l) := by
  have h0 : (wordsOf v l).length = (v.map dec1 ++ tailW l).length + 1 := rfl
  rw [h0, ← parseI_v (ws := wordsOf v l) rfl (strEq_self wV), parseI_PL _ _ 1 _ _ _ (by decide) (by rw [h0]; omega) (by rw [h0]; omega)]
  show PL (v.map dec1 ++ tailW l) false [] [] = _
  rw [PL_v _ _ _ hv, List.nil_append]
  unfold tailW
  split
  · rw [PL, if_pos (strEq_self wL), PL_l _ _ _ hl]; rfl
  · rename_i h
    have : l = [] := List.eq_nil_of_length_eq_zero (by omega)
    rw [this]; rfl
theorem words_S (v l : List Int) (hv : oks v) (hl : oks l) : parseS (wordsOf v l) ((wordsOf v l).length - 1) 1 false [] [] = (v, l) := by
  have h0 : (wordsOf v l).length = (v.map dec1 ++ tailW l).length + 1 := rfl
  rw [parseS_SL _ _ 1 _ _ _ rfl (by rw [h0]; omega)]
  show SL (v.map dec1 ++ tailW l) false [] [] = _
  rw [SL_v _ _ _ hv, List.nil_append]
  unfold tailW
  split
  · rw [SL, if_pos ⟨strEq_self wL, by simp⟩, SL_l _ _ _ hl]; rfl
  · rename_i h
    have : l = [] := List.eq_nil_of_length_eq_zero (by omega)
    rw [this]; rfl
theorem txt_size (s : ByteArray) (l : List Int) (hl : oks l) : (txt s l).size ≤ s.size + 3 * l.length := by
  induction l generalizing s with
  | nil => exact Nat.le_refl _
  | cons n r ih =>
    obtain ⟨h1, h2⟩ := oks_cons hl
    have hz := (dec_ev n h1.1 h1.2).2.2
    have := ih (s ++ (⟨#[32]⟩ : ByteArray) ++ dec1 n) h2
    rw [bsz, bsz, sp_size] at this
    show (txt (s ++ (⟨#[32]⟩ : ByteArray) ++ dec1 n) r).size ≤ _
    rw [List.length_cons]
    omega
theorem ctext_size {v l : List Int} (h : confB v l = true) : 0 < (ctext v l).size ∧ (ctext v l).size ≤ 200 := by
  obtain ⟨⟨h1, h2⟩, h3, h4⟩ := confB_oks h
  have e : (ctext v l).size = (bs (ctext v l)).length := Lib.size_eq _
  refine ⟨by rw [e, ctext_bs, List.length_append, show (bs wV).length = 1 from rfl]; omega, ?_⟩
  unfold ctext tail1
  have a1 := txt_size ⟨#[118]⟩ v h1
  rw [show (⟨#[118]⟩ : ByteArray).size = 1 from rfl] at a1
  split
  · have a2 := txt_size (txt ⟨#[118]⟩ v ++ ⟨#[32, 108]⟩) l h3
    rw [bsz, show (⟨#[32, 108]⟩ : ByteArray).size = 2 from rfl] at a2
    omega
  · omega
def rc (t : ByteArray) : Bool × List Int × List Int := finC t (parseI (splV t ⟨#[32]⟩) (splV t ⟨#[32]⟩).length 0 false [] [])
theorem rc_two (t : ByteArray) (ht : t.size ≤ 1048576) : Ev (fun k => f4 k t) (rc t) ∧ ((rc t).1 = true → confB (rc t).2.1 (rc t).2.2 = true ∧ ctext (rc t).2.1 (rc t).2.2 = t) ∧ ((rc t).1 = false → (rc t).2 = ([], [])) := by
  suffices h : ∃ r : Bool × List Int × List Int, rc t = r ∧ Ev (fun k => f4 k t) r ∧ (r.1 = true → confB r.2.1 r.2.2 = true ∧ ctext r.2.1 r.2.2 = t) ∧ (r.1 = false → r.2 = ([], [])) by
    obtain ⟨r, rfl, h⟩ := h
    exact h
  have hS := ReadConf_ev t ht
  by_cases h : ∃ v l, confB v l = true ∧ ctext v l = t
  · obtain ⟨v, l, hc, rfl⟩ := h
    obtain ⟨⟨h1, _⟩, h3, _⟩ := confB_oks hc
    obtain ⟨z0, z1⟩ := ctext_size hc
    have e1 : splV (ctext v l) ⟨#[32]⟩ = wordsOf v l := splV_words _ _ _ (ctext_bs v l) (of_decide_eq_true (by kernel_rfl)) (words_ok v l h1 h3)
    have e2 : cutV (ctext v l) = wordsOf v l := cutV_words _ _ _ (ctext_bs v l) (of_decide_eq_true (by kernel_rfl)) (words_ok v l h1 h3)
    refine ⟨(true, v, l), ?_, hS.eq ?_, fun _ => ⟨hc, rfl⟩, (fun x => by cases x)⟩
    · unfold rc; rw [e1, words_I v l h1 h3]
      show (if confB v l = true ∧ strEq (ctext v l) (ctext v l) = true then (true, v, l) else (false, [], [])) = _
      rw [if_pos ⟨hc, strEq_self _⟩]
    · rw [e2, words_S v l h1 h3, if_neg (by omega)]
      show (if strEq (if confB v l = true then ctext v l else ⟨#[]⟩) (ctext v l) = true ∧ ¬ strEq (ctext v l) ⟨#[]⟩ = true then (true, v, l) else (false, [], [])) = _
      rw [if_pos hc, if_pos ⟨strEq_self _, fun x => by rw [(strEq_iff _ _).1 x] at z0; exact absurd z0 (by decide)⟩]
  · refine ⟨(false, [], []), ?_, hS.eq ?_, (fun x => by cases x), fun _ => rfl⟩
    · unfold rc; cases hp : parseI (splV t ⟨#[32]⟩) (splV t ⟨#[32]⟩).length 0 false [] [] with
      | none => rfl
      | some p =>
        obtain ⟨v, l⟩ := p
        show (if confB v l = true ∧ strEq (ctext v l) t = true then (true, v, l) else (false, [], [])) = _
        rw [if_neg fun x => h ⟨v, l, x.1, (strEq_iff _ _).1 x.2⟩]
    · split
      · rfl
      · unfold finS
        rw [if_neg]
        rintro ⟨x1, x2⟩
        have x1 := (strEq_iff _ _).1 x1
        split at x1
        · rename_i hc; exact h ⟨_, _, hc, x1⟩
        · exact x2 (by rw [← x1]; exact strEq_self _)
end Go.Proofs.YtbfgmnjhikaagaaDoor.P
namespace Go.Proofs.YtbfgmnjhikaagaaDoor.P
open Go Go.Proofs.YtbfgmnjhikaagaaDoor.PM Go.Proofs
open Go.Proofs.YtbfgmnjhikaagaaDoor.PN (PT)
theorem eqInt64S_ev (l : List Int) (hl : l.length ≤ 1048576) : Ev (fun k => f13 k l l) true := by
  have key : ∀ i, i ≤ l.length → Ev (fun k => f13.D k (.l4 l l (i : Int))) true := by
    refine scan fun i hi ih => ?_
    simp only [f13.blk, PT.run, dite_eq_ite]
    refine Ev.ite (fun h => ?_) (fun h => Ev.ret _)
    have ih := ih (by omega)
    rw [← wr1 (by omega)] at ih
    exact Ev.pos (by omega) (Ev.pos (by omega) (Ev.pos (by simp) ih))
  simp only [f13, f13.start, PT.run, dite_eq_ite]
  exact Ev.pos (by simp) (key 0 (Nat.zero_le _))
theorem eqConf_ev (x y : List Int) (hx : x.length ≤ 1048576) (hy : y.length ≤ 1048576) : Ev (fun k => f6 k x y x y) true := by
  simp only [f6, f6.start, PT.run, dite_eq_ite]
  exact Ev.bind (eqInt64S_ev x hx) (Ev.pos (by simp) (Ev.bind (eqInt64S_ev y hy) (Ev.pos (by simp) (Ev.ret _))))
def mkI (a : Int) : Nat → List Int
  | 0 => []
  | n + 1 => a :: mkI (a + 1) n
theorem mkI_len : ∀ (n : Nat) (a : Int), (mkI a n).length = n
  | 0, _ => rfl
  | n + 1, a => by rw [mkI, List.length_cons, mkI_len n]
theorem set_mid {α : Type} (p : List α) (x y : α) (r : List α) : (p ++ x :: r).set p.length y = p ++ y :: r := by
  rw [List.set_append_right _ _ (Nat.le_refl _), Nat.sub_self, List.set_cons_zero]
theorem at_mid {α : Type} [Inhabited α] (p : List α) (x : α) (r : List α) : at' (p ++ x :: r) (p.length : Int) = x := by
  rw [at_nat _ _ (by simp), List.getElem_append_right (Nat.le_refl _)]
  simp
theorem w3 {a : Int} (h0 : 0 ≤ a) (h1 : a ≤ 4611686018427387904) : IntKind.i64.wrap (a + 1) = a + 1 ∧ IntKind.i64.wrap (a + 1 + 1) = a + 2 ∧ IntKind.i64.wrap (a + 2 + 1) = a + 3 :=
  ⟨wr (by omega) (by omega), by rw [wr (by omega) (by omega)]; omega, by rw [wr (by omega) (by omega)]; omega⟩
theorem markI_loop : ∀ (r p : List Int) (a : Int), 0 ≤ a → a + r.length ≤ 4611686018427387904 → p.length + r.length ≤ 1073741824 → Ev (fun k => f14.D k (.l2 (p ++ r) a (p.length : Int))) (a + r.length, p ++ mkI a r.length)
  | [], p, a, h0, h1, h2 => by
    refine Ev.round ?_
    simp only [f14.blk, PT.run, dite_eq_ite]
    exact Ev.neg (by simp) (Ev.ret' (by simp [mkI]))
  | x :: r, p, a, h0, h1, h2 => by
    rw [List.length_cons] at h1 h2
    refine Ev.round ?_
    simp only [f14.blk, PT.run, dite_eq_ite]
    refine Ev.pos (by rw [List.length_append, List.length_cons]; omega) (Ev.pos (by omega) ?_)
    rw [(w3 h0 (by omega)).1, wr (n := (p.length : Int) + 1) (by omega) (by omega), Int.toNat_natCast, set_mid]
    have ih := markI_loop r (p ++ [a]) (a + 1) (by omega) (by omega) (by rw [List.length_append]; simp; omega)
    rw [List.append_assoc, List.singleton_append, List.length_append, List.length_singleton, show ((p.length + 1 : Nat) : Int) = (p.length : Int) + 1 by omega] at ih
    refine ih.eq ?_
    rw [List.length_cons, mkI, List.append_assoc]
    simp only [Prod.mk.injEq, List.singleton_append, and_true]
    omega
theorem markI_ev (l : List Int) (a : Int) (h0 : 0 ≤ a) (h1 : a + l.length ≤ 4611686018427387904) (h2 : l.length ≤ 1073741824) : Ev (fun k => f14 k a l) (a + l.length, mkI a l.length) := by
  simp only [f14, f14.start, PT.run]
  exact markI_loop l [] a h0 h1 (by simpa using h2)
theorem heldI_loop : ∀ (n : Nat) (p : List Int) (a : Int), 0 ≤ a → a + n ≤ 4611686018427387904 → p.length + n ≤ 1073741824 → Ev (fun k => f15.D k (.l2 (p ++ mkI a n) a (p.length : Int))) (a + n)
  | 0, p, a, h0, h1, h2 => by
    refine Ev.round ?_
    simp only [f15.blk, PT.run, dite_eq_ite]
    exact Ev.neg (by simp [mkI]) (Ev.ret' (by simp))
  | n + 1, p, a, h0, h1, h2 => by
    refine Ev.round ?_
    simp only [f15.blk, PT.run, dite_eq_ite]
    refine Ev.pos (by rw [List.length_append, mkI_len]; omega) (Ev.pos (by omega) ?_)
    rw [mkI, at_mid, (w3 h0 (by omega)).1, wr (n := (p.length : Int) + 1) (by omega) (by omega)]
    have ih := heldI_loop n (p ++ [a]) (a + 1) (by omega) (by omega) (by rw [List.length_append]; simp; omega)
    rw [List.append_assoc, List.singleton_append, List.length_append, List.length_singleton, show ((p.length + 1 : Nat) : Int) = (p.length : Int) + 1 by omega] at ih
    exact Ev.pos rfl (ih.eq (by omega))
theorem heldI_ev (n : Nat) (a : Int) (h0 : 0 ≤ a) (h1 : a + n ≤ 4611686018427387904) (h2 : n ≤ 1073741824) : Ev (fun k => f15 k (mkI a n) a) (a + n) := by
  simp only [f15, f15.start, PT.run]
  exact heldI_loop n [] a h0 h1 (by simpa using h2)
theorem markC_ev (x y : List Int) (hx : x.length ≤ 1048576) (hy : y.length ≤ 1048576) (a : Int) (h0 : 0 ≤ a) (h1 : a ≤ 1073741824) : Ev (fun k => f7 k a x y) (a + x.length + y.length, mkI a x.length, mkI (a + x.length) y.length) := by
  simp only [f7, f7.start, PT.run, PN.bindH_eq]
  exact Ev.bind (markI_ev x a h0 (by omega) (by omega)) (Ev.bind (markI_ev y _ (by omega) (by omega) (by omega)) (Ev.ret _))
theorem heldC_ev (n o : Nat) (hx : n ≤ 1048576) (hy : o ≤ 1048576) (a : Int) (h0 : 0 ≤ a) (h1 : a ≤ 1073741824) : Ev (fun k => f8 k (mkI a n) (mkI (a + n) o) a) (a + n + o) := by
  simp only [f8, f8.start, PT.run, dite_eq_ite, PN.bindH_eq]
  exact Ev.bind (heldI_ev n a h0 (by omega) (by omega)) (Ev.neg (by omega) (Ev.bind (heldI_ev o _ (by omega) (by omega) (by omega)) (Ev.neg (by omega) (Ev.ret _))))
theorem mkI_take (n : Nat) (a : Int) : (mkI a n).take n = mkI a n := List.take_of_length_le (by rw [mkI_len]; omega)
theorem impl_ReadConf (t : ByteArray) (ht : t.size ≤ 1048576) : Ev (fun k => f5 k t) (rc t) := by
  simp only [f5, f5.start, PT.run, PN.bindH_eq]
  exact Ev.bind (readConf_ev t ht) (Ev.ret _)
theorem law3_ev (t : ByteArray) : Ev (fun k => f3 k t) true := by
  simp only [f3, f3.start, PT.run, dite_eq_ite, PN.bindH_eq]
  refine Ev.ite (fun h => Ev.ret _) (fun h => ?_)
  have hs : t.size ≤ 1048576 := by omega
  obtain ⟨h1, h2, h3⟩ := rc_two t hs
  have hl : (rc t).2.1.length ≤ 1048576 ∧ (rc t).2.2.length ≤ 1048576 := by
    cases hb : (rc t).1 with
    | true => obtain ⟨⟨_, a⟩, _, b⟩ := confB_oks (h2 hb).1; omega
    | false => rw [h3 hb]; exact ⟨Nat.zero_le _, Nat.zero_le _⟩
  refine Ev.bind h1 (Ev.bind (impl_ReadConf t hs) (Ev.bind (eqConf_ev _ _ hl.1 hl.2) (Ev.pos rfl (Ev.pos (by simp) (Ev.bind (markC_ev _ _ hl.1 hl.2 1 (by decide) (by decide)) (Ev.pos (by rw [mkI_len]; exact Nat.le_refl _) (Ev.pos (by rw [mkI_len]; exact Nat.le_refl _) ?_)))))))
  rw [mkI_take, mkI_take]
  exact Ev.bind (heldC_ev _ _ hl.1 hl.2 1 (by decide) (by decide)) (Ev.neg (by omega) (Ev.pos rfl (Ev.ret _)))
end Go.Proofs.YtbfgmnjhikaagaaDoor.P
namespace Go.Proofs.YtbfgmnjhikaagaaDoor.P
open Go Go.Proofs.YtbfgmnjhikaagaaDoor.PM Go.Proofs.YtbfgmnjhikaagaaDoor.PN Go.Proofs
set_option maxRecDepth 100000
set_option linter.unusedVariables false
theorem ti2 : TiOk Tryd.prog G 2 ⟨1, false, 8, .int .i64, some (.il .i64 0), some [none], none⟩ := ⟨by kernel_rfl, by kernel_rfl, by kernel_rfl, fun z h => some_all (p := fun z => zeroT Tryd.prog 2 = some (denA G z)) (by kernel_rfl) h, (by kernel_rfl : Tryd.prog.underlying 2 = some (.int .i64)), fun l h => some_all (p := fun l => cellKs Tryd.prog 8 2 = some (l.map (Option.map G.w))) (by kernel_rfl) h, fun l h => none_all h⟩
theorem ti3 : TiOk Tryd.prog G 3 ⟨1, false, 8, .int .i64, some (.il .i64 0), some [none], none⟩ := ⟨by kernel_rfl, by kernel_rfl, by kernel_rfl, fun z h => some_all (p := fun z => zeroT Tryd.prog 3 = some (denA G z)) (by kernel_rfl) h, (by kernel_rfl : Tryd.prog.underlying 3 = some (.int .i64)), fun l h => some_all (p := fun l => cellKs Tryd.prog 8 3 = some (l.map (Option.map G.w))) (by kernel_rfl) h, fun l h => none_all h⟩
theorem ti4 : TiOk Tryd.prog G 4 ⟨1, false, 1, .bool, some (.bl false), some [none], none⟩ := ⟨by kernel_rfl, by kernel_rfl, by kernel_rfl, fun z h => some_all (p := fun z => zeroT Tryd.prog 4 = some (denA G z)) (by kernel_rfl) h, (by kernel_rfl : Tryd.prog.underlying 4 = some .bool), fun l h => some_all (p := fun l => cellKs Tryd.prog 8 4 = some (l.map (Option.map G.w))) (by kernel_rfl) h, fun l h => none_all h⟩
theorem ti5 : TiOk Tryd.prog G 5 ⟨1, false, 1, .int .u8, some (.il .u8 0), some [none], none⟩ := ⟨by kernel_rfl, by kernel_rfl, by kernel_rfl, fun z h => some_all (p := fun z => zeroT Tryd.prog 5 = some (denA G z)) (by kernel_rfl) h, (by kernel_rfl : Tryd.prog.underlying 5 = some (.int .u8)), fun l h => some_all (p := fun l => cellKs Tryd.prog 8 5 = some (l.map (Option.map G.w))) (by kernel_rfl) h, fun l h => none_all h⟩
theorem ti9 : TiOk Tryd.prog G 9 ⟨1, false, 16, .string, some (.s (⟨#[]⟩ : ByteArray)), some [none], none⟩ := ⟨by kernel_rfl, by kernel_rfl, by kernel_rfl, fun z h => some_all (p := fun z => zeroT Tryd.prog 9 = some (denA G z)) (by kernel_rfl) h, (by kernel_rfl : Tryd.prog.underlying 9 = some .string), fun l h => some_all (p := fun l => cellKs Tryd.prog 8 9 = some (l.map (Option.map G.w))) (by kernel_rfl) h, fun l h => none_all h⟩
theorem ti22 : TiOk Tryd.prog G 22 ⟨1, false, 24, .slice 2 0, some (.nil), some [some 0], none⟩ := ⟨by kernel_rfl, by kernel_rfl, by kernel_rfl, fun z h => some_all (p := fun z => zeroT Tryd.prog 22 = some (denA G z)) (by kernel_rfl) h, (by kernel_rfl : Tryd.prog.underlying 22 = some (.slice 2)), fun l h => some_all (p := fun l => cellKs Tryd.prog 8 22 = some (l.map (Option.map G.w))) (by kernel_rfl) h, fun l h => none_all h⟩
theorem ti24 : TiOk Tryd.prog G 24 ⟨2, true, 48, .struct [(0, 22), (1, 22)], some (.agg [.nil, .nil]), some [some 0, some 0], none⟩ := ⟨by kernel_rfl, by kernel_rfl, by kernel_rfl, fun z h => some_all (p := fun z => zeroT Tryd.prog 24 = some (denA G z)) (by kernel_rfl) h, ⟨by kernel_rfl, fun l h => (by kernel_rfl : fieldsT Tryd.prog 24 = fieldsK G [(0, 22), (1, 22)]).trans h⟩, fun l h => some_all (p := fun l => cellKs Tryd.prog 8 24 = some (l.map (Option.map G.w))) (by kernel_rfl) h, fun l h => none_all h⟩
theorem ti30 : TiOk Tryd.prog G 30 ⟨1, false, 24, .slice 9 1, some (.nil), some [some 1], none⟩ := ⟨by kernel_rfl, by kernel_rfl, by kernel_rfl, fun z h => some_all (p := fun z => zeroT Tryd.prog 30 = some (denA G z)) (by kernel_rfl) h, (by kernel_rfl : Tryd.prog.underlying 30 = some (.slice 9)), fun l h => some_all (p := fun l => cellKs Tryd.prog 8 30 = some (l.map (Option.map G.w))) (by kernel_rfl) h, fun l h => none_all h⟩
theorem ti42 : TiOk Tryd.prog G 42 ⟨1, false, 16, .iface, some (.ifl false), some [none], none⟩ := ⟨by kernel_rfl, by kernel_rfl, by kernel_rfl, fun z h => some_all (p := fun z => zeroT Tryd.prog 42 = some (denA G z)) (by kernel_rfl) h, ⟨_, Tryd.underlying42⟩, fun l h => some_all (p := fun l => cellKs Tryd.prog 8 42 = some (l.map (Option.map G.w))) (by kernel_rfl) h, fun l h => none_all h⟩
theorem ti47 : TiOk Tryd.prog G 47 ⟨1, false, 24, .slice 5 2, some (.nil), some [some 2], none⟩ := ⟨by kernel_rfl, by kernel_rfl, by kernel_rfl, fun z h => some_all (p := fun z => zeroT Tryd.prog 47 = some (denA G z)) (by kernel_rfl) h, (by kernel_rfl : Tryd.prog.underlying 47 = some (.slice 5)), fun l h => some_all (p := fun l => cellKs Tryd.prog 8 47 = some (l.map (Option.map G.w))) (by kernel_rfl) h, fun l h => none_all h⟩
theorem ti58 : TiOk Tryd.prog G 58 ⟨1, false, 8, .int .u64, some (.il .u64 0), some [none], none⟩ := ⟨by kernel_rfl, by kernel_rfl, by kernel_rfl, fun z h => some_all (p := fun z => zeroT Tryd.prog 58 = some (denA G z)) (by kernel_rfl) h, (by kernel_rfl : Tryd.prog.underlying 58 = some (.int .u64)), fun l h => some_all (p := fun l => cellKs Tryd.prog 8 58 = some (l.map (Option.map G.w))) (by kernel_rfl) h, fun l h => none_all h⟩
theorem ti77 : TiOk Tryd.prog G 77 ⟨24, true, 24, .array 24 5, some (.agg [.il .u8 0, .il .u8 0, .il .u8 0, .il .u8 0, .il .u8 0, .il .u8 0, .il .u8 0, .il .u8 0, .il .u8 0, .il .u8 0, .il .u8 0, .il .u8 0, .il .u8 0, .il .u8 0, .il .u8 0, .il .u8 0, .il .u8 0, .il .u8 0, .il .u8 0, .il .u8 0, .il .u8 0, .il .u8 0, .il .u8 0, .il .u8 0]), some [none, none, none, none, none, none, none, none, none, none, none, none, none, none, none, none, none, none, none, none, none, none, none, none], none⟩ := ⟨by kernel_rfl, by kernel_rfl, by kernel_rfl, fun z h => some_all (p := fun z => zeroT Tryd.prog 77 = some (denA G z)) (by kernel_rfl) h, (by kernel_rfl : Tryd.prog.underlying 77 = some (.array 24 5)), fun l h => some_all (p := fun l => cellKs Tryd.prog 8 77 = some (l.map (Option.map G.w))) (by kernel_rfl) h, fun l h => none_all h⟩
theorem tis_ok : TisOk Tryd.prog G tis := (tis_cons ti2 (tis_cons ti3 (tis_cons ti4 (tis_cons ti5 (tis_cons ti9 (tis_cons ti22 (tis_cons ti24 (tis_cons ti30 (tis_cons ti42 (tis_cons ti47 (tis_cons ti58 (tis_cons ti77 tis_nil))))))))))))
theorem G_mk : ∀ t cs x, G.mkE t cs = some x → cs.map (den1 G) = (G.cells t x).map (den1 G)
  | 0 => fun cs x h => by
    match cs, h with
    | [c0], h => have h : (cI .i64 c0 fun a0 => some (a0 : Int) : Option (Int)) = some x := h; obtain ⟨a0, e0, h⟩ := cI_some h; obtain rfl := Option.some.inj h; simp only [List.map_cons, List.map_nil, e0]; rfl
    | [], h => cases h
    | _ :: _ :: _, h => cases h
  | 1 => fun cs x h => by
    match cs, h with
    | [c0], h => have h : (cS c0 fun a0 => some (a0 : ByteArray) : Option (ByteArray)) = some x := h; obtain ⟨a0, e0, h⟩ := cS_some h; obtain rfl := Option.some.inj h; simp only [List.map_cons, List.map_nil, e0]; rfl
    | [], h => cases h
    | _ :: _ :: _, h => cases h
  | 2 => fun cs x h => by
    match cs, h with
    | [c0], h => have h : (cI .u8 c0 fun a0 => some (a0 : Int) : Option (Int)) = some x := h; obtain ⟨a0, e0, h⟩ := cI_some h; obtain rfl := Option.some.inj h; simp only [List.map_cons, List.map_nil, e0]; rfl
    | [], h => cases h
    | _ :: _ :: _, h => cases h
  | _ + 3 => fun cs x h => by cases h
theorem G_ok : SgOk Tryd.prog G where
  enc := fun t => match t with | 0 => fun _ => rfl | 1 => fun _ => rfl | 2 => fun _ => rfl | _ + 3 => fun _ => rfl
  len := fun t => match t with | 0 => fun _ => rfl | 1 => fun _ => rfl | 2 => fun _ => rfl | _ + 3 => fun _ => rfl
  agg1 := fun t => match t with | 0 => fun _ => rfl | 1 => fun _ => rfl | 2 => fun _ => rfl | _ + 3 => fun h => by cases h
  mkC := G_mk
  ofStr := fun t => match t with | 0 => fun _ _ h => by cases h | 1 => fun _ _ h => by cases h | 2 => fun s xs h => by obtain rfl := Option.some.inj h; exact ofStr_u8 s | _ + 3 => fun _ _ h => by cases h
  toStr := fun t => match t with | 0 => fun _ _ h => by cases h | 1 => fun _ _ h => by cases h | 2 => fun xs s h => by obtain rfl := Option.some.inj h; exact toStr_u8 xs | _ + 3 => fun _ _ h => by cases h
  flat := fun t => match t with | 0 => fun _ _ => rfl | 1 => fun _ _ => rfl | 2 => fun _ _ => rfl | _ + 3 => fun _ _ => rfl
  ti := tis_ok
def FOk (n : Nat) (a : List (V El)) (o : List (O El)) (r : V El × List (O El)) : Prop := callT Tryd.prog C0 P0 n (List.map (denV G) a) (List.map (denO G) o) = some (denV G r.1, List.map (denO G) r.2)
theorem fok {n : Nat} {fn : Func} {R Lb : Type} {D : Nat → Lb → Option R} {start : PT R Lb} {o : R → V El × List (O El)} {args : List (V El)} {objs : List (O El)} {k : Nat} {r : R} (l : List (Pk Tryd.prog C0 P0 G)) (h0 : H) (stt : Lb → Nat × S El) (hint : Lb → H) (blk : Nat → Lb → PT R Lb)
    (hf : Tryd.prog.funcs[n]? = some fn) (h : start.run (D k) = some r) (kt : Nat → Nat → Nat := fun _ _ => 0) (hp : P0 n = none := by kernel_rfl) (hb : fn.body = some fn.body.get! := by kernel_rfl) (ho : okCode (C0 n) fn.body.get! = true := by kernel_rfl) (hids : PN.distinct (PN.ids fn.body.get!) = true := by kernel_rfl) (hn : Nat.ble args.length fn.ntmps = true := by kernel_rfl)
    (D0 : ∀ x, D 0 x = none := by intro x; rfl) (DS : ∀ k x, D (k + 1) x = (blk k x).run (D k) := by intro k x; rfl)
    (hT : ∀ k x, resume ⟨G, evK l k, C0 n, kt⟩ (stt x).1 fn.body.get! (stt x).2 (hint x) (endK ⟨G, evK l k, C0 n, kt⟩ fn objs.length) = some ((blk k x).lay (outL o) (jumpL stt)) := by intro k x; cases x <;> kernel_rfl)
    (h0T : PN.exec ⟨G, evK l k, C0 n, kt⟩ fn.body.get! (startS fn.ntmps args objs) h0 (endK ⟨G, evK l k, C0 n, kt⟩ fn objs.length) = start.lay (outL o) (jumpL stt) := by kernel_rfl) : FOk n args objs (o r) :=
  fn_ok (D := D) (blk := blk) G_ok (fun k => evK_ok l k) hp hf hb ho hids rfl (Nat.le_of_ble_eq_true hn) D0 DS hT h0T h
theorem fok0 {n : Nat} {fn : Func} {R : Type} {start : PT R Empty} {o : R → V El × List (O El)} {args : List (V El)} {objs : List (O El)} {k : Nat} {r : R} (l : List (Pk Tryd.prog C0 P0 G)) (h0 : H)
    (hf : Tryd.prog.funcs[n]? = some fn) (h : start.run Empty.elim = some r) (kt : Nat → Nat → Nat := fun _ _ => 0) (hp : P0 n = none := by kernel_rfl) (hb : fn.body = some fn.body.get! := by kernel_rfl) (ho : okCode (C0 n) fn.body.get! = true := by kernel_rfl) (hids : PN.distinct (PN.ids fn.body.get!) = true := by kernel_rfl) (hn : Nat.ble args.length fn.ntmps = true := by kernel_rfl)
    (h0T : PN.exec ⟨G, evK l k, C0 n, kt⟩ fn.body.get! (startS fn.ntmps args objs) h0 (endK ⟨G, evK l k, C0 n, kt⟩ fn objs.length) = start.lay (outL o) (jumpL (Empty.elim : Empty → Nat × S El)) := by kernel_rfl) : FOk n args objs (o r) :=
  fn_ok0 (k := k) (E := evK l) G_ok (fun k => evK_ok l k) hp hf hb ho hids rfl (Nat.le_of_ble_eq_true hn) h0T h
end Go.Proofs.YtbfgmnjhikaagaaDoor.P
namespace Go.Proofs.YtbfgmnjhikaagaaDoor.P
open Go Go.Proofs.YtbfgmnjhikaagaaDoor.PM Go.Proofs.YtbfgmnjhikaagaaDoor.PN Go.Proofs
set_option maxRecDepth 100000
set_option linter.unusedVariables false
theorem f16_ok {k a r} (h : f16 k a = some r) : FOk 16 [.id .u8 1 a] [] (f16.o r) :=
 fok0 [] (.both (.l (.l .all)) (.r (.r .all))) (k := k) (o := f16.o) Tryd.func16 h
def pf16 : Pk Tryd.prog C0 P0 G := ⟨16, sf16, fun k => sum_auto (@f16_ok k)⟩
end Go.Proofs.YtbfgmnjhikaagaaDoor.P
namespace Go.Proofs.YtbfgmnjhikaagaaDoor.P
open Go Go.Proofs.YtbfgmnjhikaagaaDoor.PM Go.Proofs.YtbfgmnjhikaagaaDoor.PN Go.Proofs
set_option maxRecDepth 100000
set_option linter.unusedVariables false
theorem f10_ok {k a b r} (h : f10 k a b = some r) : FOk 10 [.s a, .id .i64 2 b] [] (f10.o r) :=
 fok [pf16] (.both (.l (.l (.l .all))) (.r (.r (.r (.both (.l (.l (.l (.l (.l .all))))) (.r (.r (.r (.both (.l (.l (.r (.l (.r .all))))) (.r (.r (.r (.r (.r .all)))))))))))))) f10.st (fun _ => .all) (D := f10.D) f10.blk (o := f10.o) Tryd.func10 h
def pf10 : Pk Tryd.prog C0 P0 G := ⟨10, sf10, fun k => sum_auto (@f10_ok k)⟩
end Go.Proofs.YtbfgmnjhikaagaaDoor.P
namespace Go.Proofs.YtbfgmnjhikaagaaDoor.P
open Go Go.Proofs.YtbfgmnjhikaagaaDoor.PM Go.Proofs.YtbfgmnjhikaagaaDoor.PN Go.Proofs
set_option maxRecDepth 100000
set_option linter.unusedVariables false
theorem f33_ok {k a b c r} (h : f33 k a b c = some r) : FOk 33 [.id .i64 1 a, .id .i64 2 b, .id .i64 3 c] [] (f33.o r) :=
 fok0 [] (.both (.l (.l (.l .all))) (.r (.r (.r .all)))) (k := k) (o := f33.o) Tryd.func33 h
def pf33 : Pk Tryd.prog C0 P0 G := ⟨33, sf33, fun k => sum_auto (@f33_ok k)⟩
end Go.Proofs.YtbfgmnjhikaagaaDoor.P
namespace Go.Proofs.YtbfgmnjhikaagaaDoor.P
open Go Go.Proofs.YtbfgmnjhikaagaaDoor.PM Go.Proofs.YtbfgmnjhikaagaaDoor.PN Go.Proofs
set_option maxRecDepth 100000
set_option linter.unusedVariables false
theorem f23_ok {k a b r} (h : f23 k a b = some r) : FOk 23 [.sl 0 a [], .id .i64 2 b] [] (f23.o r) :=
 fok [pf33] .all f23.st f23.hint (D := f23.D) f23.blk (o := f23.o) Tryd.func23 h
def pf23 : Pk Tryd.prog C0 P0 G := ⟨23, sf23, fun k => sum_auto (@f23_ok k)⟩
end Go.Proofs.YtbfgmnjhikaagaaDoor.P
namespace Go.Proofs.YtbfgmnjhikaagaaDoor.P
open Go Go.Proofs.YtbfgmnjhikaagaaDoor.PM Go.Proofs.YtbfgmnjhikaagaaDoor.PN Go.Proofs
set_option maxRecDepth 100000
set_option linter.unusedVariables false
theorem f24_ok {k a b r} (h : f24 k a b = some r) : FOk 24 [.sl 0 a [], .id .i64 2 b] [] (f24.o r) :=
 fok [] .all f24.st (fun _ => .all) (D := f24.D) f24.blk (o := f24.o) Tryd.func24 h
def pf24 : Pk Tryd.prog C0 P0 G := ⟨24, sf24, fun k => sum_auto (@f24_ok k)⟩
end Go.Proofs.YtbfgmnjhikaagaaDoor.P
namespace Go.Proofs.YtbfgmnjhikaagaaDoor.P
open Go Go.Proofs.YtbfgmnjhikaagaaDoor.PM Go.Proofs.YtbfgmnjhikaagaaDoor.PN Go.Proofs
set_option maxRecDepth 100000
set_option linter.unusedVariables false
theorem f17_ok {k a b r} (h : f17 k a b = some r) : FOk 17 [.agg [.sl 0 a [], .sl 0 b []]] [] (f17.o r) :=
 fok [pf23, pf24] (.both (.l (.l (.l (.l .all)))) (.r (.r (.skip (.r (.r (.both (.l (.l (.skip (.l (.l .all))))) (.r (.r (.r (.r .all))))))))))) f17.st (fun _ => .all) (D := f17.D) f17.blk (o := f17.o) Tryd.func17 h
def pf17 : Pk Tryd.prog C0 P0 G := ⟨17, sf17, fun k => sum_auto (@f17_ok k)⟩
end Go.Proofs.YtbfgmnjhikaagaaDoor.P
namespace Go.Proofs.YtbfgmnjhikaagaaDoor.P
open Go Go.Proofs.YtbfgmnjhikaagaaDoor.PM Go.Proofs.YtbfgmnjhikaagaaDoor.PN Go.Proofs
set_option maxRecDepth 100000
set_option linter.unusedVariables false
theorem f18_ok {k a r} (h : f18 k a = some r) : FOk 18 [.id .i64 1 a] [] (f18.o r) :=
 fok [] .all f18.st (fun _ => .all) (D := f18.D) f18.blk (o := f18.o) Tryd.func18 h
def pf18 : Pk Tryd.prog C0 P0 G := ⟨18, sf18, fun k => sum_auto (@f18_ok k)⟩
end Go.Proofs.YtbfgmnjhikaagaaDoor.P
namespace Go.Proofs.YtbfgmnjhikaagaaDoor.P
open Go Go.Proofs.YtbfgmnjhikaagaaDoor.PM Go.Proofs.YtbfgmnjhikaagaaDoor.PN Go.Proofs
set_option maxRecDepth 100000
set_option linter.unusedVariables false
theorem f11_ok {k a b r} (h : f11 k a b = some r) : FOk 11 [.agg [.sl 0 a [], .sl 0 b []]] [] (f11.o r) :=
 fok [pf17, pf18] .all f11.st (fun _ => .all) (D := f11.D) f11.blk (o := f11.o) Tryd.func11 h
def pf11 : Pk Tryd.prog C0 P0 G := ⟨11, sf11, fun k => sum_auto (@f11_ok k)⟩
end Go.Proofs.YtbfgmnjhikaagaaDoor.P
namespace Go.Proofs.YtbfgmnjhikaagaaDoor.P
open Go Go.Proofs.YtbfgmnjhikaagaaDoor.PM Go.Proofs.YtbfgmnjhikaagaaDoor.PN Go.Proofs
set_option maxRecDepth 100000
set_option linter.unusedVariables false
theorem f9_ok {k a b r} (h : f9 k a b = some r) : FOk 9 [.s a, .id .u8 2 b] [] (f9.o r) :=
 fok [] .all f9.st f9.hint (D := f9.D) f9.blk (o := f9.o) Tryd.func9 h
def pf9 : Pk Tryd.prog C0 P0 G := ⟨9, sf9, fun k => sum_auto (@f9_ok k)⟩
end Go.Proofs.YtbfgmnjhikaagaaDoor.P
namespace Go.Proofs.YtbfgmnjhikaagaaDoor.P
open Go Go.Proofs.YtbfgmnjhikaagaaDoor.PM Go.Proofs.YtbfgmnjhikaagaaDoor.PN Go.Proofs
set_option maxRecDepth 100000
set_option linter.unusedVariables false
theorem f4_ok {k a r} (h : f4 k a = some r) : FOk 4 [.s a] [] (f4.o r) :=
 fok [pf9, pf10, pf11] .all f4.st f4.hint (D := f4.D) f4.blk (o := f4.o) Tryd.func4 h
def pf4 : Pk Tryd.prog C0 P0 G := ⟨4, sf4, fun k => sum_auto (@f4_ok k)⟩
end Go.Proofs.YtbfgmnjhikaagaaDoor.P
namespace Go.Proofs.YtbfgmnjhikaagaaDoor.P
open Go Go.Proofs.YtbfgmnjhikaagaaDoor.PM Go.Proofs.YtbfgmnjhikaagaaDoor.PN Go.Proofs
set_option maxRecDepth 100000
set_option linter.unusedVariables false
theorem f19_ok {k a0_0 a1_0 r} (h : f19 k a0_0 a1_0 = some r) : callT Tryd.prog C0 P0 19 [.sc (.string a0_0), .sc (.string a1_0)] [] = some (.win 0 0 r.length, [Ob.mkRow 1 (r.map fun x => .sc (.string x))]) := by
 unfold f19 at h
 obtain ⟨c, h⟩ := ite_l h
 obtain rfl := Option.some.inj h
 exact callT_prim (d := splD) rfl (if_pos c)
def pf19 : Pk Tryd.prog C0 P0 G := ⟨19, sf19, fun k => sum_auto (@f19_ok k)⟩
end Go.Proofs.YtbfgmnjhikaagaaDoor.P
namespace Go.Proofs.YtbfgmnjhikaagaaDoor.P
open Go Go.Proofs.YtbfgmnjhikaagaaDoor.PM Go.Proofs.YtbfgmnjhikaagaaDoor.PN Go.Proofs
set_option maxRecDepth 100000
set_option linter.unusedVariables false
theorem f20_ok {k a0_0 a1_0 a2_0 r} (h : f20 k a0_0 a1_0 a2_0 = some r) : callT Tryd.prog C0 P0 20 [.sc (.string a0_0), .sc (.int .i64 a1_0), .sc (.int .i64 a2_0)] [] = some (.tup [.sc (.int .i64 r.1), .ifc r.2], []) := by
 unfold f20 at h
 obtain ⟨c, h⟩ := ite_l h
 obtain rfl := Option.some.inj h
 exact callT_prim (d := pintD) rfl (if_pos c)
def pf20 : Pk Tryd.prog C0 P0 G := ⟨20, sf20, fun k => sum_auto (@f20_ok k)⟩
end Go.Proofs.YtbfgmnjhikaagaaDoor.P
namespace Go.Proofs.YtbfgmnjhikaagaaDoor.P
open Go Go.Proofs.YtbfgmnjhikaagaaDoor.PM Go.Proofs.YtbfgmnjhikaagaaDoor.PN Go.Proofs
set_option maxRecDepth 100000
set_option linter.unusedVariables false
theorem f55_ok {k a b c r} (h : f55 k a b c = some r) : FOk 55 [.id .i64 1 a, .id .i64 2 b, .id .i64 3 c] [] (f55.o r) :=
 fok0 [] (.both (.l (.l (.l .all))) (.r (.r (.r .all)))) (k := k) (o := f55.o) Tryd.func55 h
def pf55 : Pk Tryd.prog C0 P0 G := ⟨55, sf55, fun k => sum_auto (@f55_ok k)⟩
end Go.Proofs.YtbfgmnjhikaagaaDoor.P
namespace Go.Proofs.YtbfgmnjhikaagaaDoor.P
open Go Go.Proofs.YtbfgmnjhikaagaaDoor.PM Go.Proofs.YtbfgmnjhikaagaaDoor.PN Go.Proofs
set_option maxRecDepth 100000
set_option linter.unusedVariables false
theorem f42_ok {k a r} (h : f42 k a = some r) : FOk 42 [.id .i64 1 a] [] (f42.o r) :=
 fok0 [pf55] .all (k := k) (o := f42.o) Tryd.func42 h
def pf42 : Pk Tryd.prog C0 P0 G := ⟨42, sf42, fun k => sum_auto (@f42_ok k)⟩
end Go.Proofs.YtbfgmnjhikaagaaDoor.P
namespace Go.Proofs.YtbfgmnjhikaagaaDoor.P
open Go Go.Proofs.YtbfgmnjhikaagaaDoor.PM Go.Proofs.YtbfgmnjhikaagaaDoor.PN Go.Proofs
set_option maxRecDepth 100000
set_option linter.unusedVariables false
theorem f28_ok {k a r} (h : f28 k a = some r) : FOk 28 [.sl 0 a []] [] (f28.o r) :=
 fok [pf42] .all f28.st f28.hint (D := f28.D) f28.blk (o := f28.o) Tryd.func28 h
def pf28 : Pk Tryd.prog C0 P0 G := ⟨28, sf28, fun k => sum_auto (@f28_ok k)⟩
end Go.Proofs.YtbfgmnjhikaagaaDoor.P
namespace Go.Proofs.YtbfgmnjhikaagaaDoor.P
open Go Go.Proofs.YtbfgmnjhikaagaaDoor.PM Go.Proofs.YtbfgmnjhikaagaaDoor.PN Go.Proofs
set_option maxRecDepth 100000
set_option linter.unusedVariables false
theorem f44_ok {k a b r} (h : f44 k a b = some r) : FOk 44 [.sl 0 a [], .id .i64 2 b] [] (f44.o r) :=
 fok [] .all f44.st (fun _ => .all) (D := f44.D) f44.blk (o := f44.o) Tryd.func44 h
def pf44 : Pk Tryd.prog C0 P0 G := ⟨44, sf44, fun k => sum_auto (@f44_ok k)⟩
end Go.Proofs.YtbfgmnjhikaagaaDoor.P
namespace Go.Proofs.YtbfgmnjhikaagaaDoor.P
open Go Go.Proofs.YtbfgmnjhikaagaaDoor.PM Go.Proofs.YtbfgmnjhikaagaaDoor.PN Go.Proofs
set_option maxRecDepth 100000
set_option linter.unusedVariables false
theorem f31_ok {k a b r} (h : f31 k a b = some r) : FOk 31 [.sl 0 a [], .id .i64 2 b] [] (f31.o r) :=
 fok0 [pf44] .all (k := k) (o := f31.o) Tryd.func31 h
def pf31 : Pk Tryd.prog C0 P0 G := ⟨31, sf31, fun k => sum_auto (@f31_ok k)⟩
end Go.Proofs.YtbfgmnjhikaagaaDoor.P
namespace Go.Proofs.YtbfgmnjhikaagaaDoor.P
open Go Go.Proofs.YtbfgmnjhikaagaaDoor.PM Go.Proofs.YtbfgmnjhikaagaaDoor.PN Go.Proofs
set_option maxRecDepth 100000
set_option linter.unusedVariables false
theorem f30_ok {k a o0_0 o0_1 r} (h : f30 k a o0_0 o0_1 = some r) : FOk 30 [.id .i64 1 a, .ptr 0 (.l 0) 0] [.box true true 0 2 true [.sl 0 o0_0 [], .sl 0 o0_1 []]] (f30.o o0_0 o0_1 r) :=
 fok0 [pf31] .all (k := k) (o := (f30.o o0_0 o0_1)) Tryd.func30 h
def pf30 : Pk Tryd.prog C0 P0 G := ⟨30, sf30, fun k => sum_auto (@f30_ok k)⟩
end Go.Proofs.YtbfgmnjhikaagaaDoor.P
namespace Go.Proofs.YtbfgmnjhikaagaaDoor.P
open Go Go.Proofs.YtbfgmnjhikaagaaDoor.PM Go.Proofs.YtbfgmnjhikaagaaDoor.PN Go.Proofs
set_option maxRecDepth 100000
set_option linter.unusedVariables false
theorem f43_ok {k a o0_0 o0_1 r} (h : f43 k a o0_0 o0_1 = some r) : FOk 43 [.sl 0 a [], .fn 30 [.ptr 0 (.l 0) 0]] [.box true true 0 2 true [.sl 0 o0_0 [], .sl 0 o0_1 []]] (f43.o r) :=
 fok [pf30] .all f43.st (fun _ => .all) (D := f43.D) f43.blk (o := f43.o) Tryd.func43 h
def pf43 : Pk Tryd.prog C0 P0 G := ⟨43, sf43, fun k => sum_auto (@f43_ok k)⟩
end Go.Proofs.YtbfgmnjhikaagaaDoor.P
namespace Go.Proofs.YtbfgmnjhikaagaaDoor.P
open Go Go.Proofs.YtbfgmnjhikaagaaDoor.PM Go.Proofs.YtbfgmnjhikaagaaDoor.PN Go.Proofs
set_option maxRecDepth 100000
set_option linter.unusedVariables false
theorem f29_ok {k a o0_0 o0_1 r} (h : f29 k a o0_0 o0_1 = some r) : FOk 29 [.sl 0 a [], .fn 30 [.ptr 0 (.l 0) 0]] [.box true true 0 2 true [.sl 0 o0_0 [], .sl 0 o0_1 []]] (f29.o r) :=
 fok0 [pf43] .all (k := k) (o := f29.o) Tryd.func29 h
def pf29 : Pk Tryd.prog C0 P0 G := ⟨29, sf29, fun k => sum_auto (@f29_ok k)⟩
end Go.Proofs.YtbfgmnjhikaagaaDoor.P
namespace Go.Proofs.YtbfgmnjhikaagaaDoor.P
open Go Go.Proofs.YtbfgmnjhikaagaaDoor.PM Go.Proofs.YtbfgmnjhikaagaaDoor.PN Go.Proofs
set_option maxRecDepth 100000
set_option linter.unusedVariables false
theorem f21_ok {k a b r} (h : f21 k a b = some r) : FOk 21 [.agg [.sl 0 a [], .sl 0 b []]] [] (f21.o r) :=
 fok0 [pf28, pf29] (.both (.l (.l (.skip (.l (.both (.l (.l (.skip (.l (.both (.l (.l (.l (.skip (.l (.l .all)))))) (.r (.r (.r (.r (.r .all)))))))))) (.r (.r (.r .all)))))))) (.r (.r (.r .all)))) (k := k) (o := f21.o) Tryd.func21 h
def pf21 : Pk Tryd.prog C0 P0 G := ⟨21, sf21, fun k => sum_auto (@f21_ok k)⟩
end Go.Proofs.YtbfgmnjhikaagaaDoor.P
namespace Go.Proofs.YtbfgmnjhikaagaaDoor.P
open Go Go.Proofs.YtbfgmnjhikaagaaDoor.PM Go.Proofs.YtbfgmnjhikaagaaDoor.PN Go.Proofs
set_option maxRecDepth 100000
set_option linter.unusedVariables false
theorem f56_ok {k a r} (h : f56 k a = some r) : FOk 56 [.id .i64 1 a] [] (f56.o r) :=
 fok0 [] .all (k := k) (o := f56.o) Tryd.func56 h
def pf56 : Pk Tryd.prog C0 P0 G := ⟨56, sf56, fun k => sum_auto (@f56_ok k)⟩
end Go.Proofs.YtbfgmnjhikaagaaDoor.P
namespace Go.Proofs.YtbfgmnjhikaagaaDoor.P
open Go Go.Proofs.YtbfgmnjhikaagaaDoor.PM Go.Proofs.YtbfgmnjhikaagaaDoor.PN Go.Proofs
set_option maxRecDepth 100000
set_option linter.unusedVariables false
theorem f45_ok {k a b r} (h : f45 k a b = some r) : FOk 45 [.id .i64 1 a, .id .i64 2 b] [] (f45.o r) :=
 fok0 [pf56] (.both (.both (.l (.l (.both .all (.r .all)))) (.r (.r (.l .all)))) .all) (k := k) (o := f45.o) Tryd.func45 h
def pf45 : Pk Tryd.prog C0 P0 G := ⟨45, sf45, fun k => sum_auto (@f45_ok k)⟩
end Go.Proofs.YtbfgmnjhikaagaaDoor.P
namespace Go.Proofs.YtbfgmnjhikaagaaDoor.P
open Go Go.Proofs.YtbfgmnjhikaagaaDoor.PM Go.Proofs.YtbfgmnjhikaagaaDoor.PN Go.Proofs
set_option maxRecDepth 100000
set_option linter.unusedVariables false
theorem f32_ok {k a b r} (h : f32 k a b = some r) : FOk 32 [.id .i64 1 a, .id .i64 2 b] [] (f32.o r) :=
 fok0 [pf45] .all (k := k) (o := f32.o) Tryd.func32 h
def pf32 : Pk Tryd.prog C0 P0 G := ⟨32, sf32, fun k => sum_auto (@f32_ok k)⟩
end Go.Proofs.YtbfgmnjhikaagaaDoor.P
namespace Go.Proofs.YtbfgmnjhikaagaaDoor.P
open Go Go.Proofs.YtbfgmnjhikaagaaDoor.PM Go.Proofs.YtbfgmnjhikaagaaDoor.PN Go.Proofs
set_option maxRecDepth 100000
set_option linter.unusedVariables false
theorem f22_ok {k a b r} (h : f22 k a b = some r) : FOk 22 [.agg [.sl 0 a [], .sl 0 b []]] [] (f22.o r) :=
 fok [pf32] .all f22.st (fun _ => .all) (D := f22.D) f22.blk (o := f22.o) Tryd.func22 h
def pf22 : Pk Tryd.prog C0 P0 G := ⟨22, sf22, fun k => sum_auto (@f22_ok k)⟩
end Go.Proofs.YtbfgmnjhikaagaaDoor.P
namespace Go.Proofs.YtbfgmnjhikaagaaDoor.P
open Go Go.Proofs.YtbfgmnjhikaagaaDoor.PM Go.Proofs.YtbfgmnjhikaagaaDoor.PN Go.Proofs
set_option maxRecDepth 100000
set_option linter.unusedVariables false
theorem f12_ok {k a r} (h : f12 k a = some r) : FOk 12 [.s a] [] (f12.o r) :=
 fok [pf19, pf20, pf21, pf22] .all f12.st f12.hint (D := f12.D) f12.blk (o := f12.o) Tryd.func12 h
def pf12 : Pk Tryd.prog C0 P0 G := ⟨12, sf12, fun k => sum_auto (@f12_ok k)⟩
end Go.Proofs.YtbfgmnjhikaagaaDoor.P
namespace Go.Proofs.YtbfgmnjhikaagaaDoor.P
open Go Go.Proofs.YtbfgmnjhikaagaaDoor.PM Go.Proofs.YtbfgmnjhikaagaaDoor.PN Go.Proofs
set_option maxRecDepth 100000
set_option linter.unusedVariables false
theorem f5_ok {k a r} (h : f5 k a = some r) : FOk 5 [.s a] [] (f5.o r) :=
 fok0 [pf12] .all (k := k) (o := f5.o) Tryd.func5 h
def pf5 : Pk Tryd.prog C0 P0 G := ⟨5, sf5, fun k => sum_auto (@f5_ok k)⟩
end Go.Proofs.YtbfgmnjhikaagaaDoor.P
namespace Go.Proofs.YtbfgmnjhikaagaaDoor.P
open Go Go.Proofs.YtbfgmnjhikaagaaDoor.PM Go.Proofs.YtbfgmnjhikaagaaDoor.PN Go.Proofs
set_option maxRecDepth 100000
set_option linter.unusedVariables false
theorem f13_ok {k a b r} (h : f13 k a b = some r) : FOk 13 [.sl 0 a [], .sl 0 b []] [] (f13.o r) :=
 fok [] .all f13.st (fun _ => .all) (D := f13.D) f13.blk (o := f13.o) Tryd.func13 h
def pf13 : Pk Tryd.prog C0 P0 G := ⟨13, sf13, fun k => sum_auto (@f13_ok k)⟩
end Go.Proofs.YtbfgmnjhikaagaaDoor.P
namespace Go.Proofs.YtbfgmnjhikaagaaDoor.P
open Go Go.Proofs.YtbfgmnjhikaagaaDoor.PM Go.Proofs.YtbfgmnjhikaagaaDoor.PN Go.Proofs
set_option maxRecDepth 100000
set_option linter.unusedVariables false
theorem f6_ok {k a b c d r} (h : f6 k a b c d = some r) : FOk 6 [.agg [.sl 0 a [], .sl 0 b []], .agg [.sl 0 c [], .sl 0 d []]] [] (f6.o r) :=
 fok0 [pf13] .all (k := k) (o := f6.o) Tryd.func6 h
def pf6 : Pk Tryd.prog C0 P0 G := ⟨6, sf6, fun k => sum_auto (@f6_ok k)⟩
end Go.Proofs.YtbfgmnjhikaagaaDoor.P
namespace Go.Proofs.YtbfgmnjhikaagaaDoor.P
open Go Go.Proofs.YtbfgmnjhikaagaaDoor.PM Go.Proofs.YtbfgmnjhikaagaaDoor.PN Go.Proofs
set_option maxRecDepth 100000
set_option linter.unusedVariables false
theorem f14_ok {k a o0 r} (h : f14 k a o0 = some r) : FOk 14 [.win 0 true (.l 0) (.d 0 o0.length), .id .i64 2 a] [.row true true true 0 0 o0 none] (f14.o r) :=
 fok [] .all f14.st (fun _ => .all) (D := f14.D) f14.blk (o := f14.o) Tryd.func14 h
def pf14 : Pk Tryd.prog C0 P0 G := ⟨14, sf14, fun k => sum_auto (@f14_ok k)⟩
end Go.Proofs.YtbfgmnjhikaagaaDoor.P
namespace Go.Proofs.YtbfgmnjhikaagaaDoor.P
open Go Go.Proofs.YtbfgmnjhikaagaaDoor.PM Go.Proofs.YtbfgmnjhikaagaaDoor.PN Go.Proofs
set_option maxRecDepth 100000
set_option linter.unusedVariables false
theorem f7_ok {k a o0 o1 r} (h : f7 k a o0 o1 = some r) : FOk 7 [.agg [.win 0 true (.l 0) (.d 0 o0.length), .win 1 true (.l 0) (.d 0 o1.length)], .id .i64 2 a] [.row true true true 0 0 o0 none, .row true true true 0 0 o1 none] (f7.o r) :=
 fok0 [pf14] .all (k := k) (o := f7.o) Tryd.func7 h
def pf7 : Pk Tryd.prog C0 P0 G := ⟨7, sf7, fun k => sum_auto (@f7_ok k)⟩
end Go.Proofs.YtbfgmnjhikaagaaDoor.P
namespace Go.Proofs.YtbfgmnjhikaagaaDoor.P
open Go Go.Proofs.YtbfgmnjhikaagaaDoor.PM Go.Proofs.YtbfgmnjhikaagaaDoor.PN Go.Proofs
set_option maxRecDepth 100000
set_option linter.unusedVariables false
theorem f15_ok {k a b r} (h : f15 k a b = some r) : FOk 15 [.sl 0 a [], .id .i64 2 b] [] (f15.o r) :=
 fok [] .all f15.st (fun _ => .all) (D := f15.D) f15.blk (o := f15.o) Tryd.func15 h
def pf15 : Pk Tryd.prog C0 P0 G := ⟨15, sf15, fun k => sum_auto (@f15_ok k)⟩
end Go.Proofs.YtbfgmnjhikaagaaDoor.P
namespace Go.Proofs.YtbfgmnjhikaagaaDoor.P
open Go Go.Proofs.YtbfgmnjhikaagaaDoor.PM Go.Proofs.YtbfgmnjhikaagaaDoor.PN Go.Proofs
set_option maxRecDepth 100000
set_option linter.unusedVariables false
theorem f8_ok {k a b c r} (h : f8 k a b c = some r) : FOk 8 [.agg [.sl 0 a [], .sl 0 b []], .id .i64 2 c] [] (f8.o r) :=
 fok0 [pf15] .all (k := k) (o := f8.o) Tryd.func8 h
def pf8 : Pk Tryd.prog C0 P0 G := ⟨8, sf8, fun k => sum_auto (@f8_ok k)⟩
end Go.Proofs.YtbfgmnjhikaagaaDoor.P
namespace Go.Proofs.YtbfgmnjhikaagaaDoor.P
open Go Go.Proofs.YtbfgmnjhikaagaaDoor.PM Go.Proofs.YtbfgmnjhikaagaaDoor.PN Go.Proofs
set_option maxRecDepth 100000
set_option linter.unusedVariables false
theorem f3_ok {k a r} (h : f3 k a = some r) : FOk 3 [.s a] [] (f3.o r) :=
 fok0 [pf4, pf5, pf6, pf7, pf8] (.both .all (.skip (.bindr (Bool × (List Int) × (List Int)) fun t2 => (.bindr (Bool) fun t3 => (.both (.l (.l (.l (.both (.skip (.bindr (Int) fun t5 => (.both .all (.both (.re (Bool × (List Int) × (List Int)) t2 (.re (Bool) t3 (.l (.l (.l (.l (.l (.re (Int) t5 (.r (.l .all)))))))))) .all)))) .all)))) (.r (.r (.r .all)))))))) (k := k) (o := f3.o) Tryd.func3 h
theorem f3_okT {k : Nat} {a : ByteArray} {r : Bool} (h : f3 k a = some r) : callT Tryd.prog C0 P0 3 [T.sc (.string a)] [] = some (denV G (f3.o r).1, []) := f3_ok h
end Go.Proofs.YtbfgmnjhikaagaaDoor.P
namespace Go.Proofs.YtbfgmnjhikaagaaDoor.PM
open Go Go.Shelf Go.RowKit Go.Proofs
variable {P : Program} {ρ : Go.Shelf.Ren}
set_option maxHeartbeats 1000000 in
theorem split_one (L : Lays.n146 P ρ) (hi9 : (P.info? (ρ.t 9)).map (fun i => (i.zero, i.size, i.bytes)) = some (some (.string ByteArray.empty), 1, 16)) (s : ByteArray) (c : UInt8) (w : World) (hs : s.size < 4294967281) :
 Calls P (ρ.f 146) #[.string s, .string ⟨#[c]⟩] w fun e w' =>
  e = .returned (.slice (some ⟨w.heap.size, 0, none⟩) (Lib.countB s ⟨#[c]⟩ + 1) (Lib.countB s ⟨#[c]⟩ + 1)) ∧ w' = w.alloc (.cells ((Lib.splitB ⟨#[c]⟩ 0 (Lib.countB s ⟨#[c]⟩) s).map Value.string).toArray (ρ.t 9)) := by
 have h1 : 1 ≤ (⟨#[c]⟩ : ByteArray).size := Nat.le_refl 1
 have hle := Lib.countB_le ⟨#[c]⟩ h1 s.size s (Nat.le_refl _)
 have hlen := Lib.splitB_all ⟨#[c]⟩ h1 0 _ s rfl
 have hI : ∀ (x : ByteArray) (d : Array Value), x.size ≤ s.size → Calls P (ρ.f 143) #[.string x, .string ⟨#[c]⟩] (w.alloc (.cells d (ρ.t 9))) fun e w' => e = .returned (.int .i64 (Lib.indexB x ⟨#[c]⟩)) ∧ w' = w.alloc (.cells d (ρ.t 9)) := fun x d _ => by
  refine (Any.strings_Index_one { L with } x c _).mono fun e w' ⟨he, hw⟩ => ⟨?_, hw⟩
  rw [he]
  show _ = Ending.returned (Value.int .i64 (Lib.index x.data.toList [c]))
  rw [Lib.index_one]
 have hC : Calls P (ρ.f 138) #[.string s, .string ⟨#[c]⟩] w fun e w' => e = .returned (.int .i64 (Lib.countB s ⟨#[c]⟩)) ∧ w' = w := by
  refine (Any.strings_Count_one { L with } s c w).mono fun e w' ⟨he, hw⟩ => ⟨?_, hw⟩
  rw [he]
  show _ = Ending.returned (Value.int .i64 ((Lib.count s.data.toList [c] : Nat) : Int))
  rw [Lib.count_one]
  rfl
 have k := Any.strings_genSplit_core { L with } hi9 s ⟨#[c]⟩ 0 (-1) (Lib.countB s ⟨#[c]⟩ + 1) w hs h1 (Nat.zero_le _) hI hC (by decide) (by decide) (by rw [if_pos (by decide)]; omega)
 rw [Nat.add_sub_cancel, hlen] at k
 have e2 : Lib.cellsOf (Lib.splitB ⟨#[c]⟩ 0 (Lib.countB s ⟨#[c]⟩) s) (Lib.countB s ⟨#[c]⟩ + 1) = ((Lib.splitB ⟨#[c]⟩ 0 (Lib.countB s ⟨#[c]⟩) s).map Value.string).toArray := by rw [← hlen]; exact Lib.cellsOf_full _
 rw [e2] at k
 have t3 := L.t3; have t9 := L.t9; have t31 := L.t31
 have a3 := L.a3; have a9 := L.a9; have a31 := L.a31
 have z3 := L.z3; have v3 := L.v3; have z9 := L.z9; have v9 := L.v9; have z31 := L.z31; have v31 := L.v31
 have e221 : ∀ args w, (callFunc (ρ.f 221) args).run P w = .ok (.enter (ρ.f 221) args) w := enters_of L.f221 (by kernel_rfl) rfl
 go_enter L.f146, Body.n146_ntmps ρ
 go_wp2_with (go_at_fn (ρ.f 221); refine k.mono ?_; rintro e w' ⟨rfl, hw⟩; rw [hw])
 go_ret
 exact ⟨rfl, rfl⟩
theorem split_calls (L : Lays.n146 P ρ) (hi9 : (P.info? (ρ.t 9)).map (fun i => (i.zero, i.size, i.bytes)) = some (some (.string ByteArray.empty), 1, 16)) (s sep : ByteArray) (w : World) (h1 : sep.size = 1) (hs : s.size ≤ 4194304) :
 Calls P (ρ.f 146) #[.string s, .string sep] w fun e w' => ∃ ty, e = .returned (.slice (some ⟨w.heap.size, 0, none⟩) (splV s sep).length (splV s sep).length) ∧ w' = w.alloc (.cells ((splV s sep).map Value.string).toArray ty) := by
 obtain ⟨c, rfl⟩ := Lib.one_byte sep h1
 refine (split_one L hi9 s c w (by omega)).mono fun e w' ⟨he, hw⟩ => ⟨_, ?_, hw⟩
 rw [he]
 unfold splV
 rw [Lib.splitB_all ⟨#[c]⟩ (Nat.le_refl 1) 0 _ s rfl]
theorem pint_calls (L : LaysC.n174 P ρ) (g15 : isGlob P (ρ.g 15) = true) (g16 : isGlob P (ρ.g 16) = true) (s : ByteArray) (w : World) (N : Nat → Prop) (G : GlobOk P w N) (hs : s.size ≤ 281474976710656) :
 Calls P (ρ.f 174) #[.string s, .int .i64 10, .int .i64 64] w fun e w' => ∃ ev, e = .returned (.tuple #[.int .i64 (pintV s).1, ev]) ∧ IfcV (pintV s).2 ev ∧ Below w.heap.size w w' := by
 unfold pintV
 cases h : Lib.parseIntB 64 s.data.toList with
 | ok v =>
  refine (Any.strconv_ParseInt_10_at64_ok L s (by omega) v h w).mono ?_
  rintro e w' ⟨rfl, hw⟩
  refine ⟨_, rfl, rfl, ?_⟩
  rcases hw with rfl | ⟨t, rfl⟩
  · exact Below.refl _ _
  · exact Lib.bytesWorld_below _ _ _
 | range =>
  obtain ⟨_, u, x, hv⟩ := G _ g16
  refine (Any.strconv_ParseInt_10_at64_range L s hs h _ w hv (.inr ⟨u, x, rfl⟩)).mono ?_
  rintro e w' ⟨n, rfl, _, _, hb⟩
  exact ⟨_, rfl, ⟨_, _, rfl⟩, hb⟩
 | _ =>
  obtain ⟨_, u, x, hv⟩ := G _ g15
  refine (Any.strconv_ParseInt_10_at64_syntax L s hs h _ w hv (.inr ⟨u, x, rfl⟩)).mono ?_
  rintro e w' ⟨n, rfl, _, _, hb⟩
  exact ⟨_, rfl, ⟨_, _, rfl⟩, hb⟩
end Go.Proofs.YtbfgmnjhikaagaaDoor.PM
namespace Go.Proofs
open Go.Shelf
def Tryd.lays146_ren : Go.Shelf.Ren := ⟨fun | 146 => 19 | 221 => 25 | 268 => 34 | 138 => 35 | 143 => 36 | 195 => 46 | 197 => 47 | 218 => 48 | 219 => 49 | 260 => 60 | 217 => 61 | 225 => 62 | 224 => 63 | 267 => 64 | 266 => 71 | 314 => 72 | n => n, fun | 9 => 9 | 31 => 30 | 3 => 3 | 4 => 4 | 0 => 0 | 105 => 68 | 21 => 21 | 5 => 5 | 46 => 61 | 119 => 93 | 139 => 96 | 138 => 95 | 146 => 97 | 51 => 89 | n => n, fun | 1 => 2 | 3 => 4 | 4 => 5 | n => n⟩
theorem Tryd.lays146 : Go.Proofs.Lays.n146 Tryd.prog Tryd.lays146_ren := {
  mixed := by kernel_rfl
  f138 := Tryd.func35.trans (congrArg some (by kernel_rfl))
  f143 := Tryd.func36.trans (congrArg some (by kernel_rfl))
  f146 := Tryd.func19.trans (congrArg some (by kernel_rfl))
  f195 := Tryd.func46.trans (congrArg some (by kernel_rfl))
  f197 := Tryd.func47.trans (congrArg some (by kernel_rfl))
  f217 := Tryd.func61.trans (congrArg some (by kernel_rfl))
  f218 := Tryd.func48.trans (congrArg some (by kernel_rfl))
  f219 := Tryd.func49.trans (congrArg some (by kernel_rfl))
  f221 := Tryd.func25.trans (congrArg some (by kernel_rfl))
  f224 := Tryd.func63.trans (congrArg some (by kernel_rfl))
  f225 := Tryd.func62.trans (congrArg some (by kernel_rfl))
  f260 := Tryd.func60.trans (congrArg some (by kernel_rfl))
  f266 := Tryd.func71.trans (congrArg some (by kernel_rfl))
  f267 := Tryd.func64.trans (congrArg some (by kernel_rfl))
  f268 := Tryd.func34.trans (congrArg some (by kernel_rfl))
  f314 := Tryd.func72.trans (congrArg some (by kernel_rfl))
  t0 := Tryd.underlying0
  a0 := Tryd.isAgg0
  z0 := Tryd.sizeOf0
  v0 := Tryd.zeroValue0
  t3 := Tryd.underlying3
  a3 := Tryd.isAgg3
  z3 := Tryd.sizeOf3
  v3 := Tryd.zeroValue3
  t4 := Tryd.underlying4
  a4 := Tryd.isAgg4
  z4 := Tryd.sizeOf4
  v4 := Tryd.zeroValue4
  t5 := Tryd.underlying5
  a5 := Tryd.isAgg5
  z5 := Tryd.sizeOf5
  v5 := Tryd.zeroValue5
  t9 := Tryd.underlying9
  a9 := Tryd.isAgg9
  z9 := Tryd.sizeOf9
  v9 := Tryd.zeroValue9
  t21 := Tryd.underlying21
  a21 := Tryd.isAgg21
  z21 := Tryd.sizeOf21
  v21 := Tryd.zeroValue21
  t31 := Tryd.underlying30
  a31 := Tryd.isAgg30
  z31 := Tryd.sizeOf30
  v31 := Tryd.zeroValue30
  t46 := Tryd.underlying61
  a46 := Tryd.isAgg61
  z46 := Tryd.sizeOf61
  v46 := Tryd.zeroValue61
  t51 := Tryd.underlying89
  a51 := Tryd.isAgg89
  z51 := Tryd.sizeOf89
  v51 := Tryd.zeroValue89
  t105 := Tryd.underlying68
  a105 := Tryd.isAgg68
  z105 := Tryd.sizeOf68
  v105 := Tryd.zeroValue68
  t119 := Tryd.underlying93
  a119 := Tryd.isAgg93
  z119 := Tryd.sizeOf93
  t138 := Tryd.underlying95
  a138 := Tryd.isAgg95
  z138 := Tryd.sizeOf95
  v138 := Tryd.zeroValue95
  t139 := Tryd.underlying96
  a139 := Tryd.isAgg96
  z139 := Tryd.sizeOf96
  v139 := Tryd.zeroValue96
  t146 := Tryd.underlying97
  a146 := Tryd.isAgg97
  z146 := Tryd.sizeOf97
  v146 := Tryd.zeroValue97
  g1 := by kernel_rfl
  g3 := by kernel_rfl
  g4 := by kernel_rfl }
def Tryd.laysC174_ren : Go.Shelf.Ren := ⟨fun | 174 => 20 | 247 => 26 | 245 => 27 | 287 => 37 | 279 => 38 | 280 => 39 | 281 => 40 | 282 => 41 | 321 => 50 | 322 => 51 | 316 => 52 | 171 => 54 | 205 => 53 | 243 => 65 | 246 => 45 | 283 => 56 | 284 => 57 | 285 => 58 | 286 => 59 | 129 => 67 | 317 => 66 | 318 => 68 | 319 => 69 | 320 => 70 | 337 => 73 | 338 => 74 | n => n, fun | 9 => 9 | 3 => 3 | 2 => 2 | 75 => 42 | 85 => 43 | 4 => 4 | 167 => 57 | 5 => 5 | 53 => 58 | 175 => 59 | 46 => 61 | 168 => 62 | 37 => 47 | 0 => 0 | 210 => 74 | 21 => 21 | 127 => 83 | 145 => 86 | 143 => 84 | 171 => 77 | 173 => 80 | 212 => 88 | 51 => 89 | 20 => 20 | 213 => 90 | 232 => 100 | 233 => 101 | 80 => 102 | n => n, fun | 15 => 0 | 16 => 1 | 17 => 3 | 18 => 6 | 19 => 7 | n => n⟩
theorem Tryd.laysC174 : Go.Proofs.LaysC.n174 Tryd.prog Tryd.laysC174_ren := {
  mixed := by kernel_rfl
  f129 := Tryd.func67.trans (congrArg some (by kernel_rfl))
  f171 := Tryd.func54.trans (congrArg some (by kernel_rfl))
  f174 := Tryd.func20.trans (congrArg some (by kernel_rfl))
  f205 := Tryd.func53.trans (congrArg some (by kernel_rfl))
  f243 := Tryd.func65.trans (congrArg some (by kernel_rfl))
  f245 := Tryd.func27.trans (congrArg some (by kernel_rfl))
  f246 := Tryd.func45.trans (congrArg some (by kernel_rfl))
  f247 := Tryd.func26.trans (congrArg some (by kernel_rfl))
  f279 := Tryd.func38.trans (congrArg some (by kernel_rfl))
  f280 := Tryd.func39.trans (congrArg some (by kernel_rfl))
  f281 := Tryd.func40.trans (congrArg some (by kernel_rfl))
  f282 := Tryd.func41.trans (congrArg some (by kernel_rfl))
  f283 := Tryd.func56.trans (congrArg some (by kernel_rfl))
  f284 := Tryd.func57.trans (congrArg some (by kernel_rfl))
  f285 := Tryd.func58.trans (congrArg some (by kernel_rfl))
  f286 := Tryd.func59.trans (congrArg some (by kernel_rfl))
  f287 := Tryd.func37.trans (congrArg some (by kernel_rfl))
  f316 := Tryd.func52.trans (congrArg some (by kernel_rfl))
  f317 := Tryd.func66.trans (congrArg some (by kernel_rfl))
  f318 := Tryd.func68.trans (congrArg some (by kernel_rfl))
  f319 := Tryd.func69.trans (congrArg some (by kernel_rfl))
  f320 := Tryd.func70.trans (congrArg some (by kernel_rfl))
  f321 := Tryd.func50.trans (congrArg some (by kernel_rfl))
  f322 := Tryd.func51.trans (congrArg some (by kernel_rfl))
  f337 := Tryd.func73.trans (congrArg some (by kernel_rfl))
  f338 := Tryd.func74.trans (congrArg some (by kernel_rfl))
  t0 := Tryd.underlying0
  a0 := Tryd.isAgg0
  z0 := Tryd.sizeOf0
  v0 := Tryd.zeroValue0
  t2 := Tryd.underlying2
  a2 := Tryd.isAgg2
  z2 := Tryd.sizeOf2
  v2 := Tryd.zeroValue2
  t3 := Tryd.underlying3
  a3 := Tryd.isAgg3
  z3 := Tryd.sizeOf3
  v3 := Tryd.zeroValue3
  t4 := Tryd.underlying4
  a4 := Tryd.isAgg4
  z4 := Tryd.sizeOf4
  v4 := Tryd.zeroValue4
  t5 := Tryd.underlying5
  a5 := Tryd.isAgg5
  z5 := Tryd.sizeOf5
  v5 := Tryd.zeroValue5
  t9 := Tryd.underlying9
  a9 := Tryd.isAgg9
  z9 := Tryd.sizeOf9
  v9 := Tryd.zeroValue9
  t20 := Tryd.underlying20
  a20 := Tryd.isAgg20
  z20 := Tryd.sizeOf20
  v20 := Tryd.zeroValue20
  t21 := Tryd.underlying21
  a21 := Tryd.isAgg21
  z21 := Tryd.sizeOf21
  v21 := Tryd.zeroValue21
  t37 := Tryd.underlying47
  a37 := Tryd.isAgg47
  z37 := Tryd.sizeOf47
  v37 := Tryd.zeroValue47
  t46 := Tryd.underlying61
  a46 := Tryd.isAgg61
  z46 := Tryd.sizeOf61
  v46 := Tryd.zeroValue61
  t51 := Tryd.underlying89
  a51 := Tryd.isAgg89
  z51 := Tryd.sizeOf89
  v51 := Tryd.zeroValue89
  t53 := Tryd.underlying58
  a53 := Tryd.isAgg58
  z53 := Tryd.sizeOf58
  v53 := Tryd.zeroValue58
  t75 := Tryd.underlying42
  a75 := Tryd.isAgg42
  z75 := Tryd.sizeOf42
  v75 := Tryd.zeroValue42
  t85 := Tryd.underlying43
  a85 := Tryd.isAgg43
  z85 := Tryd.sizeOf43
  v85 := Tryd.zeroValue43
  t127 := Tryd.underlying83
  a127 := Tryd.isAgg83
  z127 := Tryd.sizeOf83
  v127 := Tryd.zeroValue83
  t143 := Tryd.underlying84
  a143 := Tryd.isAgg84
  z143 := Tryd.sizeOf84
  v143 := Tryd.zeroValue84
  t145 := Tryd.underlying86
  a145 := Tryd.isAgg86
  z145 := Tryd.sizeOf86
  v145 := Tryd.zeroValue86
  t167 := Tryd.underlying57
  a167 := Tryd.isAgg57
  z167 := Tryd.sizeOf57
  v167 := Tryd.zeroValue57
  t168 := Tryd.underlying62
  a168 := Tryd.isAgg62
  z168 := Tryd.sizeOf62
  v168 := Tryd.zeroValue62
  t171 := Tryd.underlying77
  a171 := Tryd.isAgg77
  z171 := Tryd.sizeOf77
  v171 := Tryd.zeroValue77
  t173 := Tryd.underlying80
  a173 := Tryd.isAgg80
  z173 := Tryd.sizeOf80
  v173 := Tryd.zeroValue80
  t175 := Tryd.underlying59
  a175 := Tryd.isAgg59
  z175 := Tryd.sizeOf59
  v175 := Tryd.zeroValue59
  t210 := Tryd.underlying74
  a210 := Tryd.isAgg74
  z210 := Tryd.sizeOf74
  v210 := Tryd.zeroValue74
  t212 := Tryd.underlying88
  a212 := Tryd.isAgg88
  z212 := Tryd.sizeOf88
  v212 := Tryd.zeroValue88
  t213 := Tryd.underlying90
  a213 := Tryd.isAgg90
  z213 := Tryd.sizeOf90
  t232 := Tryd.underlying100
  a232 := Tryd.isAgg100
  z232 := Tryd.sizeOf100
  v232 := Tryd.zeroValue100
  t233 := Tryd.underlying101
  a233 := Tryd.isAgg101
  z233 := Tryd.sizeOf101
  v233 := Tryd.zeroValue101
  g15 := by kernel_rfl
  g16 := by kernel_rfl
  g17 := by kernel_rfl
  g18 := by kernel_rfl
  g19 := by kernel_rfl
  t80 := Tryd.underlying102
  a80 := Tryd.isAgg102
  z80 := Tryd.sizeOf102
  v80 := Tryd.zeroValue102
  i0 := by kernel_rfl
  i2 := by kernel_rfl
  i3 := by kernel_rfl
  i4 := by kernel_rfl
  i5 := by kernel_rfl
  i9 := by kernel_rfl
  i20 := by kernel_rfl
  i21 := by kernel_rfl
  i37 := by kernel_rfl
  i46 := by kernel_rfl
  i51 := by kernel_rfl
  i53 := by kernel_rfl
  i75 := by kernel_rfl
  i80 := by kernel_rfl
  i85 := by kernel_rfl
  i127 := by kernel_rfl
  i143 := by kernel_rfl
  i145 := by kernel_rfl
  i167 := by kernel_rfl
  i168 := by kernel_rfl
  i171 := by kernel_rfl
  i173 := by kernel_rfl
  i175 := by kernel_rfl
  i210 := by kernel_rfl
  i212 := by kernel_rfl
  i232 := by kernel_rfl
  i233 := by kernel_rfl
  m15 := by kernel_rfl
  m16 := by kernel_rfl
  m17 := by kernel_rfl
  m18 := by kernel_rfl
  m19 := by kernel_rfl
  c0 := by kernel_rfl
  c2 := by kernel_rfl
  c3 := by kernel_rfl
  c4 := by kernel_rfl
  c5 := by kernel_rfl
  c9 := by kernel_rfl
  c20 := by kernel_rfl
  c21 := by kernel_rfl
  c37 := by kernel_rfl
  c46 := by kernel_rfl
  c51 := by kernel_rfl
  c53 := by kernel_rfl
  c75 := by kernel_rfl
  c80 := by kernel_rfl
  c85 := by kernel_rfl
  c127 := by kernel_rfl
  c143 := by kernel_rfl
  c145 := by kernel_rfl
  c167 := by kernel_rfl
  c168 := by kernel_rfl
  c171 := by kernel_rfl
  c173 := by kernel_rfl
  c175 := by kernel_rfl
  c210 := by kernel_rfl
  c212 := by kernel_rfl
  c213 := by kernel_rfl
  c232 := by kernel_rfl
  c233 := by kernel_rfl }
end Go.Proofs
namespace Go.Proofs.YtbfgmnjhikaagaaDoor.P
open Go Go.Proofs.YtbfgmnjhikaagaaDoor.PM Go.Proofs
theorem fnOk_of {P : Program} {f : FuncId} {fn : Func} (h : P.funcs[f]? = some fn) (h1 : (fn.name == "runtime.NumGoroutine") = false) (h2 : fn.body.isNone = false) : FnOk P f := ⟨fn, h, h1, h2⟩
theorem pintW (s : ByteArray) (w : World) (N : Nat → Prop) (G : GlobOk Tryd.prog w N) (hs : s.size ≤ 281474976710656) : Calls Tryd.prog 20 #[.string s, .int .i64 10, .int .i64 64] w fun e w' => ∃ ev, e = .returned (.tuple #[.int .i64 (pintV s).1, ev]) ∧ IfcV (pintV s).2 ev ∧ RowKit.Below w.heap.size w w' :=
  pint_calls Tryd.laysC174 (by kernel_rfl) (by kernel_rfl) s w N G hs
theorem splW (s sep : ByteArray) (w : World) (h1 : sep.size = 1) (hs : s.size ≤ 4194304) : Calls Tryd.prog 19 #[.string s, .string sep] w fun e w' => ∃ ty, e = .returned (.slice (some ⟨w.heap.size, 0, none⟩) (splV s sep).length (splV s sep).length) ∧ w' = w.alloc (.cells ((splV s sep).map Value.string).toArray ty) :=
  split_calls Tryd.lays146 (by kernel_rfl) s sep w h1 hs
end Go.Proofs.YtbfgmnjhikaagaaDoor.P
namespace Go.Proofs.YtbfgmnjhikaagaaDoor.P
open Go Go.Proofs.YtbfgmnjhikaagaaDoor.PM Go.Proofs.YtbfgmnjhikaagaaDoor.PN Go.Proofs
set_option maxRecDepth 100000
set_option linter.unusedVariables false
theorem prims_ok : PrimOk Tryd.prog P0 := by
 intro f D hD args objs r objs' h
 unfold P0 at hD
 split at hD
 · rename_i hf
   subst hf
   obtain rfl := Option.some.inj hD
   exact spl_ok (fnOk_of Tryd.func19 rfl rfl) splW h
 split at hD
 · rename_i hf
   subst hf
   obtain rfl := Option.some.inj hD
   exact pint_ok (fnOk_of Tryd.func20 rfl rfl) pintW h
 cases hD
end Go.Proofs.YtbfgmnjhikaagaaDoor.P
