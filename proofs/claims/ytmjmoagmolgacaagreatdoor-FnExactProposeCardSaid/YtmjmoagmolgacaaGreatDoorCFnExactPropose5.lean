/- Part of the proof of FnExactPropose: no statement of its own. -/
import Derived.Handy
import Derived.Lib.SplitLaws
import Derived.Test.YtmjmoagmolgacaaGreatDoorCFnExactPropose4
set_option linter.unusedVariables false
set_option linter.unusedSimpArgs false
namespace Go.Proofs.YtmjmoagmolgacaaGreatDoor.P
open Go Go.Proofs.YtmjmoagmolgacaaGreatDoor.PM Go.Proofs
open Go.Proofs.YtmjmoagmolgacaaGreatDoor.PN (PT)
theorem wr {n : Int} (h1 : -9223372036854775808 ≤ n) (h2 : n ≤ 9223372036854775807) : IntKind.i64.wrap n = n := wrap_i64 h1 h2
theorem wr1 {i : Nat} (h : i ≤ 4611686018427387904) : IntKind.i64.wrap ((i : Int) + 1) = ((i + 1 : Nat) : Int) := by rw [wr (by omega) (by omega)]; omega
theorem scan {R Lb : Type} {blk : Nat → Lb → PT R Lb} {L : Nat → Lb} {n : Nat} {res : Nat → R} (hs : ∀ i, i ≤ n → (i < n → Ev (fun k => PT.iter blk k (L (i + 1))) (res (i + 1))) → Ev (fun k => (blk k (L i)).run (PT.iter blk k)) (res i)) : ∀ i, i ≤ n → Ev (fun k => PT.iter blk k (L i)) (res i) := by
  have key : ∀ d i, n - i = d → i ≤ n → Ev (fun k => PT.iter blk k (L i)) (res i) := by
    intro d
    induction d with
    | zero => intro i h1 h2; exact Ev.round (hs i h2 fun h => by omega)
    | succ d ih => intro i h1 h2; exact Ev.round (hs i h2 fun h => ih (i + 1) (by omega) (by omega))
  exact fun i h => key _ i rfl h
def inB (b c a : Int) : Bool := decide (b ≤ a) && decide (a ≤ c)
theorem l1In_ev (a b c : Int) : Ev (fun k => f29 k a b c) (inB b c a) := by
  unfold f29 f29.start inB
  simp only [PT.run, dite_eq_ite]
  exact Ev.ite (fun h => Ev.ret' (by rw [decide_eq_true h]; rfl)) (fun h => Ev.ret' (by rw [decide_eq_false h]; rfl))
theorem in_ev (a b c : Int) : Ev (fun k => f36 k a b c) (inB b c a) := by
  unfold f36 f36.start inB
  simp only [PT.run, dite_eq_ite]
  exact Ev.ite (fun h => Ev.ret' (by rw [decide_eq_true h]; rfl)) (fun h => Ev.ret' (by rw [decide_eq_false h]; rfl))
theorem isNodeId_ev (a : Int) : Ev (fun k => f37 k a) (inB 1 50 a) := by
  simp only [f37, f37.start, PT.run]
  exact Ev.bind (in_ev a 1 50) (Ev.ret _)
theorem isNumber_ev (a : Int) : Ev (fun k => f113 k a) (inB 0 1000000000000 a) := by
  simp only [f113, f113.start, PT.run]
  exact Ev.bind (in_ev a 0 1000000000000) (Ev.ret _)
def idAt (l : List Int) (i : Nat) : Bool := inB 1 50 (at' l (i : Int)) && (decide (i = 0) || decide (at' l ((i : Int) - 1) < at' l (i : Int)))
def hasI (l : List Int) (x : Int) : Bool := anyFrom (fun y => y == x) l 0
theorem l9Ids_loop (l : List Int) (hl : l.length ≤ 4194304) : ∀ i, i ≤ l.length → Ev (fun k => f90.D k (.l4 l (i : Int))) (allFrom (idAt l) i l.length) := by
  refine scan fun i hi ih => ?_
  simp only [f90.blk, PT.run, dite_eq_ite]
  refine Ev.ite (fun h => ?_) (fun h => Ev.ret' (allFrom_end _ (by omega)).symm)
  have hlt : i < l.length := by omega
  have ih := ih hlt
  rw [← wr1 (by omega)] at ih
  refine Ev.pos (by omega) (Ev.bind (l1In_ev _ _ _) ?_)
  rw [allFrom_step _ hlt, idAt]
  cases hb : inB 1 50 (at' l (i : Int)) with
  | false => exact Ev.neg (by simp) (Ev.ret' (by simp))
  | true =>
    refine Ev.pos rfl ?_
    by_cases h0 : i = 0
    · refine Ev.neg (by omega) ?_
      rw [decide_eq_true h0]
      simpa using ih
    · refine Ev.pos (by omega) ?_
      rw [wr (n := (i : Int) - 1) (by omega) (by omega)]
      refine Ev.pos (by omega) (Ev.pos (by omega) ?_)
      by_cases h1 : at' l ((i : Int) - 1) < at' l (i : Int)
      · refine Ev.neg (by omega) ?_
        rw [decide_eq_true h1]
        simpa using ih
      · refine Ev.pos (by omega) (Ev.ret' ?_)
        rw [decide_eq_false h1, decide_eq_false h0]
        simp
theorem l9Ids_ev (l : List Int) (m : Nat) (hl : l.length ≤ 4194304) (hm : m ≤ 4194304) : Ev (fun k => f90 k l (m : Int)) (allFrom (idAt l) 0 l.length && decide (l.length ≤ m)) := by
  simp only [f90, f90.start, PT.run, dite_eq_ite]
  refine Ev.ite (fun h => Ev.ret' (by rw [decide_eq_false (p := l.length ≤ m) (by omega)]; simp)) (fun h => ?_)
  rw [decide_eq_true (p := l.length ≤ m) (by omega), Bool.and_true]
  exact l9Ids_loop l hl 0 (Nat.zero_le _)
def areB (l : List Int) : Bool := allFrom (idAt l) 0 l.length && decide (l.length ≤ 7)
theorem l9Ids7_ev (l : List Int) (hl : l.length ≤ 4194304) : Ev (fun k => f90 k l 7) (areB l) := l9Ids_ev l 7 hl (by decide)
theorem areMembers_loop (l : List Int) (hl : l.length ≤ 4194304) : ∀ i, i ≤ l.length → Ev (fun k => f93.D k (.l2 l l (l.length : Int) (i : Int))) (allFrom (idAt l) i l.length && decide (l.length ≤ 7)) := by
  refine scan fun i hi ih => ?_
  simp only [f93.blk, PT.run, dite_eq_ite]
  refine Ev.ite (fun h => ?_) (fun h => Ev.ret' ?_)
  · have hlt : i < l.length := by omega
    have ih := ih hlt
    rw [← wr1 (by omega)] at ih
    refine Ev.pos (by omega) (Ev.pos (by omega) (Ev.bind (isNodeId_ev _) ?_))
    rw [allFrom_step _ hlt, idAt]
    cases hb : inB 1 50 (at' l (i : Int)) with
    | false => exact Ev.neg (by simp) (Ev.ret' (by simp))
    | true =>
      refine Ev.pos rfl ?_
      by_cases h0 : i = 0
      · refine Ev.neg (by omega) ?_
        rw [decide_eq_true h0]
        simpa using ih
      · refine Ev.pos (by omega) ?_
        rw [wr (n := (i : Int) - 1) (by omega) (by omega)]
        refine Ev.pos (by omega) (Ev.pos (by omega) ?_)
        by_cases h1 : at' l ((i : Int) - 1) < at' l (i : Int)
        · refine Ev.neg (by omega) ?_
          rw [decide_eq_true h1]
          simpa using ih
        · refine Ev.pos (by omega) (Ev.ret' ?_)
          rw [decide_eq_false h1, decide_eq_false h0]
          simp
  · rw [allFrom_end _ (by omega), Bool.true_and]
    by_cases h7 : l.length ≤ 7
    · rw [decide_eq_true h7, decide_eq_true (by omega)]
    · rw [decide_eq_false h7, decide_eq_false (by omega)]
theorem areMembers_ev (l : List Int) (hl : l.length ≤ 4194304) : Ev (fun k => f93 k l) (areB l) := by
  simp only [f93, f93.start, PT.run]
  exact areMembers_loop l hl 0 (Nat.zero_le _)
theorem l1Ints_ev (l : List Int) (x : Int) (hl : l.length ≤ 4194304) : Ev (fun k => f30 k l x) (hasI l x) := by
  simp only [f30, f30.start, PT.run]
  have := scan (blk := f30.blk) (L := fun i => .l2 l x (i : Int)) (n := l.length) (res := anyFrom (fun y => y == x) l) (fun i hi ih => ?_) 0 (Nat.zero_le _)
  · exact this
  · simp only [f30.blk, PT.run, dite_eq_ite]
    refine Ev.ite (fun h => ?_) (fun h => Ev.ret' (anyFrom_end _ (by omega)).symm)
    have hlt : i < l.length := by omega
    have ih := ih hlt
    rw [← wr1 (by omega)] at ih
    refine Ev.pos (by omega) ?_
    rw [at_nat l i hlt, anyFrom_step _ hlt]
    by_cases h1 : l[i] = x
    · exact Ev.pos h1 (Ev.ret' (by simp [h1]))
    · exact Ev.neg h1 (ih.eq (by simp [h1]))
def idxFrom (p : Nat → Bool) : Nat → Nat → Int
  | 0, _ => -1
  | d + 1, i => if p i = true then (i : Int) else idxFrom p d (i + 1)
theorem idx_end (p : Nat → Bool) {i n : Nat} (h : n ≤ i) : idxFrom p (n - i) i = -1 := by rw [Nat.sub_eq_zero_of_le h]; rfl
theorem idx_step (p : Nat → Bool) {i n : Nat} (h : i < n) : idxFrom p (n - i) i = if p i = true then (i : Int) else idxFrom p (n - (i + 1)) (i + 1) := by
  obtain ⟨d, hd⟩ : ∃ d, n - i = d + 1 := ⟨n - i - 1, by omega⟩
  rw [hd, show n - (i + 1) = d by omega]
  rfl
theorem idx_any {α : Type} (q : α → Bool) (l : List α) (p : Nat → Bool) (hp : ∀ i (h : i < l.length), p i = q l[i]) : ∀ d i, l.length - i = d → decide (0 ≤ idxFrom p (l.length - i) i) = anyFrom q l i := by
  intro d
  induction d with
  | zero => intro i h; rw [idx_end p (by omega), anyFrom_end q (by omega)]; rfl
  | succ d ih =>
    intro i h
    rw [idx_step p (by omega), anyFrom_step q (by omega), ← hp i (by omega)]
    cases hb : p i with
    | true => rw [if_pos rfl]; simp
    | false => rw [if_neg (by simp), ih (i + 1) (by omega)]; simp
theorem Contains_ev (l : List Int) (x : Int) (hl : l.length ≤ 4194304) : Ev (fun k => f43 k l x) (hasI l x) := by
  simp only [f43, f43.start, PT.run]
  refine Ev.bind (a := idxFrom (fun i => decide (x = at' l (i : Int))) (l.length - 0) 0) ?_ (Ev.ret' ?_)
  · simp only [f101, f101.start, PT.run]
    have := scan (blk := f101.blk) (L := fun i => .l2 l x (l.length : Int) (i : Int)) (n := l.length) (res := fun i => idxFrom (fun i => decide (x = at' l (i : Int))) (l.length - i) i) (fun i hi ih => ?_) 0 (Nat.zero_le _)
    · exact this
    · simp only [f101.blk, PT.run, dite_eq_ite]
      refine Ev.ite (fun h => ?_) (fun h => Ev.ret' (idx_end _ (by omega)).symm)
      have hlt : i < l.length := by omega
      have ih := ih hlt
      rw [← wr1 (by omega)] at ih
      refine Ev.pos (by omega) (Ev.pos (by omega) ?_)
      rw [idx_step _ hlt]
      by_cases h1 : x = at' l (i : Int)
      · exact Ev.pos h1 (Ev.ret' (by rw [if_pos (decide_eq_true h1)]))
      · exact Ev.neg h1 (ih.eq (by rw [if_neg (by simpa using h1)]))
  · exact idx_any (fun y => y == x) l _ (fun i h => by rw [at_nat l i h]; exact decide_eq_decide.2 eq_comm) _ 0 rfl
theorem ContainsFunc_ev (l a b : List Int) (hl : l.length ≤ 4194304) (ha : a.length ≤ 4194304) : Ev (fun k => f94 k l a b) (anyFrom (hasI a) l 0, a, b) := by
  simp only [f94, f94.start, PT.run]
  refine Ev.bind (a := (idxFrom (fun i => hasI a (at' l (i : Int))) (l.length - 0) 0, a, b)) ?_ (Ev.ret' ?_)
  · simp only [f125, f125.start, PT.run]
    have := scan (blk := f125.blk) (L := fun i => .l2 l (l.length : Int) (i : Int) a b) (n := l.length) (res := fun i => (idxFrom (fun i => hasI a (at' l (i : Int))) (l.length - i) i, a, b)) (fun i hi ih => ?_) 0 (Nat.zero_le _)
    · exact this
    · simp only [f125.blk, PT.run, dite_eq_ite]
      refine Ev.ite (fun h => ?_) (fun h => Ev.ret' (by rw [idx_end _ (by omega)]))
      have hlt : i < l.length := by omega
      have ih := ih hlt
      rw [← wr1 (by omega)] at ih
      refine Ev.pos (by omega) (Ev.pos (by omega) (Ev.bind (a := hasI a (at' l (i : Int))) ?_ ?_))
      · simp only [f95, f95.start, PT.run]
        exact Ev.bind (Contains_ev a _ ha) (Ev.ret _)
      · rw [idx_step _ hlt]
        by_cases h1 : hasI a (at' l (i : Int)) = true
        · exact Ev.pos h1 (Ev.ret' (by rw [if_pos h1]))
        · exact Ev.neg h1 (ih.eq (by rw [if_neg h1]))
  · rw [idx_any (hasI a) l _ (fun i h => by rw [at_nat l i h]) _ 0 rfl]
def confB (a b : List Int) : Bool := decide (0 < a.length) && (areB a && (areB b && !(anyFrom (hasI a) b 0)))
theorem isConf_ev (a b : List Int) (ha : a.length ≤ 4194304) (hb : b.length ≤ 4194304) : Ev (fun k => f35 k a b) (confB a b) := by
  simp only [f35, f35.start, PT.run, dite_eq_ite]
  unfold confB
  refine Ev.ite (fun h => ?_) (fun h => Ev.ret' (by rw [decide_eq_false (by omega)]; rfl))
  rw [decide_eq_true (by omega), Bool.true_and]
  refine Ev.bind (areMembers_ev a ha) (Ev.ite (fun h1 => ?_) (fun h1 => Ev.ret' (by simp [h1])))
  rw [h1, Bool.true_and]
  refine Ev.bind (areMembers_ev b hb) (Ev.ite (fun h2 => ?_) (fun h2 => Ev.ret' (by simp [h2])))
  rw [h2, Bool.true_and]
  exact Ev.bind (ContainsFunc_ev b a b hb ha) (Ev.ret _)
theorem ConfOk_ev (a b : List Int) (ha : a.length ≤ 4194304) (hb : b.length ≤ 4194304) : Ev (fun k => f27 k a b) (confB a b) := by
  simp only [f27, f27.start, PT.run, dite_eq_ite]
  unfold confB
  refine Ev.ite (fun h => Ev.ret' (by rw [decide_eq_false (by omega)]; rfl)) (fun h => ?_)
  rw [decide_eq_true (by omega), Bool.true_and]
  refine Ev.bind (l9Ids7_ev a ha) (Ev.ite (fun h1 => ?_) (fun h1 => Ev.ret' (by simp [h1])))
  rw [h1, Bool.true_and]
  refine Ev.bind (l9Ids7_ev b hb) (Ev.ite (fun h2 => ?_) (fun h2 => Ev.ret' (by simp [h2])))
  rw [h2, Bool.true_and]
  have := scan (blk := f27.blk) (L := fun i => .l4 (i : Int) a b) (n := b.length) (res := fun i => !(anyFrom (hasI a) b i)) (fun i hi ih => ?_) 0 (Nat.zero_le _)
  · exact this
  · simp only [f27.blk, PT.run, dite_eq_ite]
    refine Ev.ite (fun h => ?_) (fun h => Ev.ret' (by rw [anyFrom_end _ (by omega)]; rfl))
    have hlt : i < b.length := by omega
    have ih := ih hlt
    rw [← wr1 (by omega)] at ih
    rw [anyFrom_step _ hlt, at_nat b i hlt]
    refine Ev.pos (by omega) (Ev.bind (l1Ints_ev a _ ha) ?_)
    by_cases h1 : hasI a b[i] = true
    · exact Ev.pos h1 (Ev.ret' (by simp [h1]))
    · exact Ev.neg h1 (ih.eq (by simp [h1]))
end Go.Proofs.YtmjmoagmolgacaaGreatDoor.P
namespace Go.Proofs.YtmjmoagmolgacaaGreatDoor.P
open Go Go.Proofs.YtmjmoagmolgacaaGreatDoor.PM Go.Proofs
open Go.Proofs.YtmjmoagmolgacaaGreatDoor.PN (PT)
def dec1 (n : Int) : ByteArray := (f102 3 n).getD default
set_option maxRecDepth 100000 in
theorem dec_ev (n : Int) (h1 : 1 ≤ n) (h2 : n ≤ 50) : (∀ m, f102 (m + 3) n = some (dec1 n)) ∧ (∀ m, f100 m n 10 = some (dec1 n)) ∧ (dec1 n).size ≤ 2 := by
  have h : n = 1 ∨ n = 2 ∨ n = 3 ∨ n = 4 ∨ n = 5 ∨ n = 6 ∨ n = 7 ∨ n = 8 ∨ n = 9 ∨ n = 10 ∨ n = 11 ∨ n = 12 ∨ n = 13 ∨ n = 14 ∨ n = 15 ∨ n = 16 ∨ n = 17 ∨ n = 18 ∨ n = 19 ∨ n = 20 ∨ n = 21 ∨ n = 22 ∨ n = 23 ∨ n = 24 ∨ n = 25 ∨ n = 26 ∨ n = 27 ∨ n = 28 ∨ n = 29 ∨ n = 30 ∨ n = 31 ∨ n = 32 ∨ n = 33 ∨ n = 34 ∨ n = 35 ∨ n = 36 ∨ n = 37 ∨ n = 38 ∨ n = 39 ∨ n = 40 ∨ n = 41 ∨ n = 42 ∨ n = 43 ∨ n = 44 ∨ n = 45 ∨ n = 46 ∨ n = 47 ∨ n = 48 ∨ n = 49 ∨ n = 50 := by omega
  rcases h with rfl | rfl | rfl | rfl | rfl | rfl | rfl | rfl | rfl | rfl | rfl | rfl | rfl | rfl | rfl | rfl | rfl | rfl | rfl | rfl | rfl | rfl | rfl | rfl | rfl | rfl | rfl | rfl | rfl | rfl | rfl | rfl | rfl | rfl | rfl | rfl | rfl | rfl | rfl | rfl | rfl | rfl | rfl | rfl | rfl | rfl | rfl | rfl | rfl | rfl <;> exact ⟨fun m => by kernel_rfl, fun m => by kernel_rfl, of_decide_eq_true (by kernel_rfl)⟩
theorem l1Dec_ev (n : Int) (h1 : 1 ≤ n) (h2 : n ≤ 50) : Ev (fun k => f102 k n) (dec1 n) := Ev.plus 3 (dec_ev n h1 h2).1
theorem Format_ev (n : Int) (h1 : 1 ≤ n) (h2 : n ≤ 50) : Ev (fun k => f100 k n 10) (dec1 n) := Ev.plus 0 (dec_ev n h1 h2).2.1
def txt (s : ByteArray) (l : List Int) : ByteArray := l.foldl (fun s n => s ++ (⟨#[32]⟩ : ByteArray) ++ dec1 n) s
def oks (l : List Int) : Prop := ∀ i : Nat, i < l.length → 1 ≤ at' l (i : Int) ∧ at' l (i : Int) ≤ 50
theorem sp_size : (⟨#[32]⟩ : ByteArray).size = 1 := rfl
theorem txt_step (s : ByteArray) (l : List Int) (i : Nat) (h : i < l.length) : txt s (l.drop i) = txt (s ++ (⟨#[32]⟩ : ByteArray) ++ dec1 (at' l (i : Int))) (l.drop (i + 1)) := by
  rw [at_nat l i h, List.drop_eq_getElem_cons h]; rfl
theorem txt_end (s : ByteArray) (l : List Int) (i : Nat) (h : l.length ≤ i) : txt s (l.drop i) = s := by rw [List.drop_eq_nil_of_le h]; rfl
theorem bsz (a b : ByteArray) : (a ++ b).size = a.size + b.size := ByteArray.size_append
def tail1 (s : ByteArray) (b : List Int) : ByteArray := if 0 < b.length then txt (s ++ ⟨#[32, 108]⟩) b else s
theorem spec_l11 (a b : List Int) (hb : b.length ≤ 7) (ok : oks b) (d : Nat) : ∀ (i : Nat) (s : ByteArray), b.length - i = d → i ≤ b.length → s.size + 3 * d ≤ 1000 → Ev (fun k => f46.D k (.l11 s (i : Int) a b)) (txt s (b.drop i)) := by
  induction d with
  | zero =>
    intro i s hd hi hs
    refine Ev.round ?_
    simp only [f46.blk, PT.run, dite_eq_ite]
    exact Ev.neg (by omega) (Ev.ret' (txt_end s b i (by omega)).symm)
  | succ d ih =>
    intro i s hd hi hs
    obtain ⟨o1, o2⟩ := ok i (by omega)
    have hz := (dec_ev _ o1 o2).2.2
    have hn := ih (i + 1) (s ++ (⟨#[32]⟩ : ByteArray) ++ dec1 (at' b (i : Int))) (by omega) (by omega) (by rw [bsz, bsz, sp_size]; omega)
    rw [← wr1 (by omega)] at hn
    rw [txt_step s b i (by omega)]
    refine Ev.round ?_
    simp only [f46.blk, PT.run, dite_eq_ite]
    refine Ev.pos (by omega) (Ev.pos (by rw [sp_size]; omega) (Ev.pos (by omega) (Ev.bind (l1Dec_ev _ o1 o2) (Ev.pos ?_ hn))))
    rw [bsz, sp_size]; omega
theorem spec_l5 (a b : List Int) (ha : a.length ≤ 7) (hb : b.length ≤ 7) (oka : oks a) (okb : oks b) (d : Nat) : ∀ (i : Nat) (s : ByteArray), a.length - i = d → i ≤ a.length → s.size + 3 * d ≤ 900 → Ev (fun k => f46.D k (.l5 s (i : Int) a b)) (tail1 (txt s (a.drop i)) b) := by
  induction d with
  | zero =>
    intro i s hd hi hs
    rw [txt_end s a i (by omega)]
    refine Ev.round ?_
    simp only [f46.blk, PT.run, dite_eq_ite]
    refine Ev.neg (by omega) (Ev.ite (fun h => Ev.pos (by rw [show (⟨#[32, 108]⟩ : ByteArray).size = 2 from rfl]; omega) ?_) (fun h => ?_))
    · have := spec_l11 a b hb okb _ 0 (s ++ ⟨#[32, 108]⟩) rfl (Nat.zero_le _) (by rw [bsz, show (⟨#[32, 108]⟩ : ByteArray).size = 2 from rfl]; omega)
      rw [tail1, if_pos (by omega)]
      exact this
    · have := spec_l11 a b hb okb _ 0 s rfl (Nat.zero_le _) (by omega)
      rw [tail1, if_neg (by omega)]
      rw [txt_end s b 0 (by omega)] at this
      exact this
  | succ d ih =>
    intro i s hd hi hs
    obtain ⟨o1, o2⟩ := oka i (by omega)
    have hz := (dec_ev _ o1 o2).2.2
    have hn := ih (i + 1) (s ++ (⟨#[32]⟩ : ByteArray) ++ dec1 (at' a (i : Int))) (by omega) (by omega) (by rw [bsz, bsz, sp_size]; omega)
    rw [← wr1 (by omega)] at hn
    rw [txt_step s a i (by omega)]
    refine Ev.round ?_
    simp only [f46.blk, PT.run, dite_eq_ite]
    refine Ev.pos (by omega) (Ev.pos (by rw [sp_size]; omega) (Ev.pos (by omega) (Ev.bind (l1Dec_ev _ o1 o2) (Ev.pos ?_ hn))))
    rw [bsz, sp_size]; omega
theorem impl_l10 (b : List Int) (hb : b.length ≤ 7) (ok : oks b) (d : Nat) : ∀ (i : Nat) (s : ByteArray), b.length - i = d → i ≤ b.length → s.size + 3 * d ≤ 1000 → Ev (fun k => f41.D k (.l10 s b (b.length : Int) (i : Int))) (txt s (b.drop i)) := by
  induction d with
  | zero =>
    intro i s hd hi hs
    refine Ev.round ?_
    simp only [f41.blk, PT.run, dite_eq_ite]
    exact Ev.neg (by omega) (Ev.ret' (txt_end s b i (by omega)).symm)
  | succ d ih =>
    intro i s hd hi hs
    obtain ⟨o1, o2⟩ := ok i (by omega)
    have hz := (dec_ev _ o1 o2).2.2
    have hn := ih (i + 1) (s ++ (⟨#[32]⟩ : ByteArray) ++ dec1 (at' b (i : Int))) (by omega) (by omega) (by rw [bsz, bsz, sp_size]; omega)
    rw [← wr1 (by omega), ByteArray.append_assoc] at hn
    rw [txt_step s b i (by omega), ByteArray.append_assoc]
    refine Ev.round ?_
    simp only [f41.blk, PT.run, dite_eq_ite]
    refine Ev.pos (by omega) (Ev.pos (by omega) (Ev.pos (by omega) (Ev.bind (Format_ev _ o1 o2) (Ev.pos ?_ (Ev.pos ?_ hn)))))
    · rw [sp_size]; omega
    · rw [bsz, sp_size]; omega
theorem impl_l3 (a b : List Int) (ha : a.length ≤ 7) (hb : b.length ≤ 7) (oka : oks a) (okb : oks b) (d : Nat) : ∀ (i : Nat) (s : ByteArray), a.length - i = d → i ≤ a.length → s.size + 3 * d ≤ 900 → Ev (fun k => f41.D k (.l3 s a (a.length : Int) (i : Int) a b)) (tail1 (txt s (a.drop i)) b) := by
  induction d with
  | zero =>
    intro i s hd hi hs
    rw [txt_end s a i (by omega)]
    refine Ev.round ?_
    simp only [f41.blk, PT.run, dite_eq_ite]
    refine Ev.neg (by omega) (Ev.ite (fun h => Ev.pos (by rw [show (⟨#[32, 108]⟩ : ByteArray).size = 2 from rfl]; omega) ?_) (fun h => ?_))
    · have := impl_l10 b hb okb _ 0 (s ++ ⟨#[32, 108]⟩) rfl (Nat.zero_le _) (by rw [bsz, show (⟨#[32, 108]⟩ : ByteArray).size = 2 from rfl]; omega)
      rw [tail1, if_pos (by omega)]
      exact this
    · have := impl_l10 b hb okb _ 0 s rfl (Nat.zero_le _) (by omega)
      rw [tail1, if_neg (by omega)]
      rw [txt_end s b 0 (by omega)] at this
      exact this
  | succ d ih =>
    intro i s hd hi hs
    obtain ⟨o1, o2⟩ := oka i (by omega)
    have hz := (dec_ev _ o1 o2).2.2
    have hn := ih (i + 1) (s ++ (⟨#[32]⟩ : ByteArray) ++ dec1 (at' a (i : Int))) (by omega) (by omega) (by rw [bsz, bsz, sp_size]; omega)
    rw [← wr1 (by omega), ByteArray.append_assoc] at hn
    rw [txt_step s a i (by omega), ByteArray.append_assoc]
    refine Ev.round ?_
    simp only [f41.blk, PT.run, dite_eq_ite]
    refine Ev.pos (by omega) (Ev.pos (by omega) (Ev.pos (by omega) (Ev.bind (Format_ev _ o1 o2) (Ev.pos ?_ (Ev.pos ?_ hn)))))
    · rw [sp_size]; omega
    · rw [bsz, sp_size]; omega
theorem are_oks {l : List Int} (h : areB l = true) : oks l ∧ l.length ≤ 7 := by
  unfold areB at h
  rw [Bool.and_eq_true] at h
  refine ⟨fun i hi => ?_, of_decide_eq_true h.2⟩
  have := (allFrom_iff _ _ _).1 h.1 i (Nat.zero_le _) hi
  unfold idAt inB at this
  simp only [Bool.and_eq_true, decide_eq_true_eq] at this
  exact this.1
theorem confB_oks {a b : List Int} (h : confB a b = true) : (oks a ∧ a.length ≤ 7) ∧ (oks b ∧ b.length ≤ 7) := by
  unfold confB at h
  simp only [Bool.and_eq_true] at h
  exact ⟨are_oks h.2.1, are_oks h.2.2.1⟩
def ctext (a b : List Int) : ByteArray := tail1 (txt ⟨#[118]⟩ a) b
theorem ConfText_ev (a b : List Int) (ha : a.length ≤ 4194304) (hb : b.length ≤ 4194304) : Ev (fun k => f46 k a b) (if confB a b = true then ctext a b else ⟨#[]⟩) := by
  simp only [f46, f46.start, PT.run, dite_eq_ite]
  refine Ev.bind (ConfOk_ev a b ha hb) ?_
  by_cases h : confB a b = true
  · obtain ⟨⟨h1, h2⟩, h3, h4⟩ := confB_oks h
    rw [if_pos h]
    exact Ev.pos h (spec_l5 a b h2 h4 h1 h3 _ 0 ⟨#[118]⟩ rfl (Nat.zero_le _) (by rw [show (⟨#[118]⟩ : ByteArray).size = 1 from rfl]; omega))
  · rw [if_neg h]
    exact Ev.neg h (Ev.ret _)
theorem confText_ev (a b : List Int) (h : confB a b = true) : Ev (fun k => f41 k a b) (ctext a b) := by
  simp only [f41, f41.start, PT.run, dite_eq_ite]
  obtain ⟨⟨h1, h2⟩, h3, h4⟩ := confB_oks h
  exact impl_l3 a b h2 h4 h1 h3 _ 0 ⟨#[118]⟩ rfl (Nat.zero_le _) (by rw [show (⟨#[118]⟩ : ByteArray).size = 1 from rfl]; omega)
end Go.Proofs.YtmjmoagmolgacaaGreatDoor.P
namespace Go.Proofs.YtmjmoagmolgacaaGreatDoor.P
open Go Go.Proofs.YtmjmoagmolgacaaGreatDoor.PM Go.Proofs
open Go.Proofs.YtmjmoagmolgacaaGreatDoor.PN (PT)
abbrev wV : ByteArray := ⟨#[118]⟩
abbrev wL : ByteArray := ⟨#[108]⟩
def parseI (ws : List ByteArray) : Nat → Nat → Bool → List Int → List Int → Option (List Int × List Int)
  | 0, _, _, v, l => some (v, l)
  | d + 1, i, g, v, l =>
    let w := at' ws (i : Int)
    if i = 0 ∧ strEq w wV = true then parseI ws d (i + 1) g v l
    else if strEq w wL = true then parseI ws d (i + 1) true v l
    else if (pintV w).2 = true then none
    else if g = true then parseI ws d (i + 1) g v (l ++ [(pintV w).1])
    else parseI ws d (i + 1) g (v ++ [(pintV w).1]) l
def finC (t : ByteArray) : Option (List Int × List Int) → Bool × List Int × List Int
  | none => (false, [], [])
  | some (v, l) => if confB v l = true ∧ strEq (ctext v l) t = true then (true, v, l) else (false, [], [])
def labI (ws : List ByteArray) (t : ByteArray) (i : Int) (g : Bool) (v l : List Int) : f40.L := match g, v, l with
  | false, [], _ => .l4 ws t (ws.length : Int) i
  | false, a :: v, _ => .l4v3 ws (a :: v) t (ws.length : Int) i
  | true, [], [] => .l4v1 ws t (ws.length : Int) i
  | true, [], b :: l => .l4v2 ws (b :: l) t (ws.length : Int) i
  | true, a :: v, [] => .l4v4 ws (a :: v) t (ws.length : Int) i
  | true, a :: v, b :: l => .l4v5 ws (a :: v) (b :: l) t (ws.length : Int) i
theorem pint_ev (w : ByteArray) (h : w.size ≤ 4194304) : Ev (fun k => f99 k w 10 64) (pintV w) := by
  unfold f99
  exact Ev.pos ⟨rfl, rfl, by omega⟩ (Ev.ret _)
theorem fin_ev (t : ByteArray) (v l : List Int) (hv : v.length ≤ 4194304) (hl : l.length ≤ 4194304) :
    Ev (fun k => (f35 k v l).bind fun t1 => if t1 = true then (f41 k v l).bind fun t2 => if strEq t2 t = true then some (true, v, l) else some (false, [], []) else some (false, [], [])) (finC t (some (v, l))) := by
  refine Ev.bind (isConf_ev v l hv hl) ?_
  show Ev _ (if confB v l = true ∧ strEq (ctext v l) t = true then (true, v, l) else (false, [], []))
  by_cases h : confB v l = true
  · refine Ev.pos h (Ev.bind (confText_ev v l h) ?_)
    by_cases h2 : strEq (ctext v l) t = true
    · exact Ev.pos h2 (Ev.ret' (by rw [if_pos ⟨h, h2⟩]))
    · exact Ev.neg h2 (Ev.ret' (by rw [if_neg fun x => h2 x.2]))
  · exact Ev.neg h (Ev.ret' (by rw [if_neg fun x => h x.1]))
theorem parseI_v {ws : List ByteArray} {d i : Nat} {g : Bool} {v l : List Int} (h0 : i = 0) (h : strEq (at' ws (i : Int)) wV = true) : parseI ws d (i + 1) g v l = parseI ws (d + 1) i g v l := by rw [parseI.eq_2, if_pos ⟨h0, h⟩]
theorem parseI_l {ws : List ByteArray} {d i : Nat} {g : Bool} {v l : List Int} (h0 : ¬ (i = 0 ∧ strEq (at' ws (i : Int)) wV = true)) (h : strEq (at' ws (i : Int)) wL = true) : parseI ws d (i + 1) true v l = parseI ws (d + 1) i g v l := by rw [parseI.eq_2, if_neg h0, if_pos h]
theorem parseI_e {ws : List ByteArray} {d i : Nat} {g : Bool} {v l : List Int} (h0 : ¬ (i = 0 ∧ strEq (at' ws (i : Int)) wV = true)) (h : ¬ strEq (at' ws (i : Int)) wL = true) (he : (pintV (at' ws (i : Int))).2 = true) : none = parseI ws (d + 1) i g v l := by rw [parseI.eq_2, if_neg h0, if_neg h, if_pos he]
theorem parseI_a {ws : List ByteArray} {d i : Nat} {v l : List Int} (h0 : ¬ (i = 0 ∧ strEq (at' ws (i : Int)) wV = true)) (h : ¬ strEq (at' ws (i : Int)) wL = true) (he : ¬ (pintV (at' ws (i : Int))).2 = true) : parseI ws d (i + 1) true v (l ++ [(pintV (at' ws (i : Int))).1]) = parseI ws (d + 1) i true v l := by rw [parseI.eq_2, if_neg h0, if_neg h, if_neg he, if_pos rfl]
theorem parseI_b {ws : List ByteArray} {d i : Nat} {v l : List Int} (h0 : ¬ (i = 0 ∧ strEq (at' ws (i : Int)) wV = true)) (h : ¬ strEq (at' ws (i : Int)) wL = true) (he : ¬ (pintV (at' ws (i : Int))).2 = true) : parseI ws d (i + 1) false (v ++ [(pintV (at' ws (i : Int))).1]) l = parseI ws (d + 1) i false v l := by rw [parseI.eq_2, if_neg h0, if_neg h, if_neg he, if_neg (by simp)]
set_option maxHeartbeats 4000000 in
theorem readI_loop (ws : List ByteArray) (t : ByteArray) (hn : ws.length ≤ 4194304) (hw : ∀ i : Nat, i < ws.length → (at' ws (i : Int)).size ≤ 4194304) (d : Nat) : ∀ (i : Nat) (g : Bool) (v l : List Int), ws.length - i = d → i ≤ ws.length → (g = false → l = []) → v.length + l.length ≤ i →
    Ev (fun k => f40.D k (labI ws t (i : Int) g v l)) (finC t (parseI ws d i g v l)) := by
  induction d with
  | zero =>
    intro i g v l hd hi hg hs
    have hE := fin_ev t v l (by omega) (by omega)
    unfold parseI
    refine Ev.round ?_
    cases g with
    | false =>
      obtain rfl := hg rfl
      cases v with
      | nil => simp only [labI, f40.blk, PT.run, dite_eq_ite]; exact Ev.neg (by omega) hE
      | cons a v => simp only [labI, f40.blk, PT.run, dite_eq_ite]; exact Ev.neg (by omega) hE
    | true =>
      cases v with
      | nil =>
        cases l with
        | nil => simp only [labI, f40.blk, PT.run, dite_eq_ite]; exact Ev.neg (by omega) hE
        | cons b l => simp only [labI, f40.blk, PT.run, dite_eq_ite]; exact Ev.neg (by omega) hE
      | cons a v =>
        cases l with
        | nil => simp only [labI, f40.blk, PT.run, dite_eq_ite]; exact Ev.neg (by omega) hE
        | cons b l => simp only [labI, f40.blk, PT.run, dite_eq_ite]; exact Ev.neg (by omega) hE
  | succ d ih =>
    intro i g v l hd hi hg hs
    have ih1 := ih (i + 1) g v l (by omega) (by omega) hg (by omega)
    have ih2 := ih (i + 1) true v l (by omega) (by omega) (by simp) (by omega)
    have ih3 := fun x : Int => ih (i + 1) true v (l ++ [x]) (by omega) (by omega) (by simp) (by rw [List.length_append, List.length_singleton]; omega)
    have ih4 := fun (x : Int) (e : l = []) => ih (i + 1) false (v ++ [x]) l (by omega) (by omega) (fun _ => e) (by rw [List.length_append, List.length_singleton]; omega)
    have hz := hw i (by omega)
    rw [← wr1 (by omega)] at ih1 ih2 ih3 ih4
    generalize hr : parseI ws (d + 1) i g v l = r
    have e1 : ∀ (h0 : i = 0) (h : strEq (at' ws (i : Int)) wV = true), parseI ws d (i + 1) g v l = r := fun h0 h => (parseI_v h0 h).trans hr
    have e2 : ∀ (h0 : ¬ (i = 0 ∧ strEq (at' ws (i : Int)) wV = true)) (h : strEq (at' ws (i : Int)) wL = true), parseI ws d (i + 1) true v l = r := fun h0 h => (parseI_l h0 h).trans hr
    have e3 : ∀ (h0 : ¬ (i = 0 ∧ strEq (at' ws (i : Int)) wV = true)) (h : ¬ strEq (at' ws (i : Int)) wL = true) (he : (pintV (at' ws (i : Int))).2 = true), none = r := fun h0 h he => (parseI_e h0 h he).trans hr
    have e4 : ∀ (hg : g = true) (h0 : ¬ (i = 0 ∧ strEq (at' ws (i : Int)) wV = true)) (h : ¬ strEq (at' ws (i : Int)) wL = true) (he : ¬ (pintV (at' ws (i : Int))).2 = true), parseI ws d (i + 1) true v (l ++ [(pintV (at' ws (i : Int))).1]) = r := fun hg h0 h he => by subst hg; exact (parseI_a h0 h he).trans hr
    have e5 : ∀ (hg : g = false) (h0 : ¬ (i = 0 ∧ strEq (at' ws (i : Int)) wV = true)) (h : ¬ strEq (at' ws (i : Int)) wL = true) (he : ¬ (pintV (at' ws (i : Int))).2 = true), parseI ws d (i + 1) false (v ++ [(pintV (at' ws (i : Int))).1]) l = r := fun hg h0 h he => by subst hg; exact (parseI_b h0 h he).trans hr
    clear hr ih
    refine Ev.round ?_
    cases g with
    | false =>
      obtain rfl := hg rfl
      cases v with
      | nil =>
        simp only [labI, f40.blk, PT.run, dite_eq_ite, List.cons_append]
        simp only [labI, List.nil_append, List.cons_append] at ih1 ih2 ih3 ih4 e1 e2 e3 e4 e5
        refine Ev.pos (by omega) (Ev.pos (by omega) (Ev.pos (by omega) (Ev.ite (fun h0 => Ev.ite (fun hv => ih1.eq (by rw [e1 (by omega) hv])) fun hv => Ev.ite (fun hl => ih2.eq (by rw [e2 (fun x => hv x.2) hl])) fun hl => Ev.bind (pint_ev _ hz) (Ev.ite (fun he => Ev.ret' (by rw [← e3 (fun x => hv x.2) hl he]; rfl)) fun he => ?_)) fun h0 => Ev.ite (fun hl => ih2.eq (by rw [e2 (fun x => h0 (by omega)) hl])) fun hl => Ev.bind (pint_ev _ hz) (Ev.ite (fun he => Ev.ret' (by rw [← e3 (fun x => h0 (by omega)) hl he]; rfl)) fun he => ?_))))
        · exact ((ih4 _ trivial).eq (by rw [e5 trivial (fun x => hv x.2) hl he]))
        · exact ((ih4 _ trivial).eq (by rw [e5 trivial (fun x => h0 (by omega)) hl he]))
      | cons a v =>
        simp only [labI, f40.blk, PT.run, dite_eq_ite, List.cons_append]
        simp only [labI, List.nil_append, List.cons_append] at ih1 ih2 ih3 ih4 e1 e2 e3 e4 e5
        refine Ev.pos (by omega) (Ev.pos (by omega) (Ev.pos (by omega) (Ev.ite (fun h0 => Ev.ite (fun hv => ih1.eq (by rw [e1 (by omega) hv])) fun hv => Ev.ite (fun hl => ih2.eq (by rw [e2 (fun x => hv x.2) hl])) fun hl => Ev.bind (pint_ev _ hz) (Ev.ite (fun he => Ev.ret' (by rw [← e3 (fun x => hv x.2) hl he]; rfl)) fun he => ?_)) fun h0 => Ev.ite (fun hl => ih2.eq (by rw [e2 (fun x => h0 (by omega)) hl])) fun hl => Ev.bind (pint_ev _ hz) (Ev.ite (fun he => Ev.ret' (by rw [← e3 (fun x => h0 (by omega)) hl he]; rfl)) fun he => ?_))))
        · exact Ev.pos (by omega) ((ih4 _ trivial).eq (by rw [e5 trivial (fun x => hv x.2) hl he]))
        · exact Ev.pos (by omega) ((ih4 _ trivial).eq (by rw [e5 trivial (fun x => h0 (by omega)) hl he]))
    | true =>
      cases v with
      | nil =>
        cases l with
        | nil =>
          simp only [labI, f40.blk, PT.run, dite_eq_ite, List.cons_append]
          simp only [labI, List.nil_append, List.cons_append] at ih1 ih2 ih3 ih4 e1 e2 e3 e4 e5
          refine Ev.pos (by omega) (Ev.pos (by omega) (Ev.pos (by omega) (Ev.ite (fun h0 => Ev.ite (fun hv => ih1.eq (by rw [e1 (by omega) hv])) fun hv => Ev.ite (fun hl => ih2.eq (by rw [e2 (fun x => hv x.2) hl])) fun hl => Ev.bind (pint_ev _ hz) (Ev.ite (fun he => Ev.ret' (by rw [← e3 (fun x => hv x.2) hl he]; rfl)) fun he => ?_)) fun h0 => Ev.ite (fun hl => ih2.eq (by rw [e2 (fun x => h0 (by omega)) hl])) fun hl => Ev.bind (pint_ev _ hz) (Ev.ite (fun he => Ev.ret' (by rw [← e3 (fun x => h0 (by omega)) hl he]; rfl)) fun he => ?_))))
          · exact ((ih3 _).eq (by rw [e4 trivial (fun x => hv x.2) hl he]))
          · exact ((ih3 _).eq (by rw [e4 trivial (fun x => h0 (by omega)) hl he]))
        | cons b l =>
          simp only [labI, f40.blk, PT.run, dite_eq_ite, List.cons_append]
          simp only [labI, List.nil_append, List.cons_append] at ih1 ih2 ih3 ih4 e1 e2 e3 e4 e5
          refine Ev.pos (by omega) (Ev.pos (by omega) (Ev.pos (by omega) (Ev.ite (fun h0 => Ev.ite (fun hv => ih1.eq (by rw [e1 (by omega) hv])) fun hv => Ev.ite (fun hl => ih2.eq (by rw [e2 (fun x => hv x.2) hl])) fun hl => Ev.bind (pint_ev _ hz) (Ev.ite (fun he => Ev.ret' (by rw [← e3 (fun x => hv x.2) hl he]; rfl)) fun he => ?_)) fun h0 => Ev.ite (fun hl => ih2.eq (by rw [e2 (fun x => h0 (by omega)) hl])) fun hl => Ev.bind (pint_ev _ hz) (Ev.ite (fun he => Ev.ret' (by rw [← e3 (fun x => h0 (by omega)) hl he]; rfl)) fun he => ?_))))
          · exact Ev.pos (by omega) ((ih3 _).eq (by rw [e4 trivial (fun x => hv x.2) hl he]))
          · exact Ev.pos (by omega) ((ih3 _).eq (by rw [e4 trivial (fun x => h0 (by omega)) hl he]))
      | cons a v =>
        cases l with
        | nil =>
          simp only [labI, f40.blk, PT.run, dite_eq_ite, List.cons_append]
          simp only [labI, List.nil_append, List.cons_append] at ih1 ih2 ih3 ih4 e1 e2 e3 e4 e5
          refine Ev.pos (by omega) (Ev.pos (by omega) (Ev.pos (by omega) (Ev.ite (fun h0 => Ev.ite (fun hv => ih1.eq (by rw [e1 (by omega) hv])) fun hv => Ev.ite (fun hl => ih2.eq (by rw [e2 (fun x => hv x.2) hl])) fun hl => Ev.bind (pint_ev _ hz) (Ev.ite (fun he => Ev.ret' (by rw [← e3 (fun x => hv x.2) hl he]; rfl)) fun he => ?_)) fun h0 => Ev.ite (fun hl => ih2.eq (by rw [e2 (fun x => h0 (by omega)) hl])) fun hl => Ev.bind (pint_ev _ hz) (Ev.ite (fun he => Ev.ret' (by rw [← e3 (fun x => h0 (by omega)) hl he]; rfl)) fun he => ?_))))
          · exact ((ih3 _).eq (by rw [e4 trivial (fun x => hv x.2) hl he]))
          · exact ((ih3 _).eq (by rw [e4 trivial (fun x => h0 (by omega)) hl he]))
        | cons b l =>
          simp only [labI, f40.blk, PT.run, dite_eq_ite, List.cons_append]
          simp only [labI, List.nil_append, List.cons_append] at ih1 ih2 ih3 ih4 e1 e2 e3 e4 e5
          refine Ev.pos (by omega) (Ev.pos (by omega) (Ev.pos (by omega) (Ev.ite (fun h0 => Ev.ite (fun hv => ih1.eq (by rw [e1 (by omega) hv])) fun hv => Ev.ite (fun hl => ih2.eq (by rw [e2 (fun x => hv x.2) hl])) fun hl => Ev.bind (pint_ev _ hz) (Ev.ite (fun he => Ev.ret' (by rw [← e3 (fun x => hv x.2) hl he]; rfl)) fun he => ?_)) fun h0 => Ev.ite (fun hl => ih2.eq (by rw [e2 (fun x => h0 (by omega)) hl])) fun hl => Ev.bind (pint_ev _ hz) (Ev.ite (fun he => Ev.ret' (by rw [← e3 (fun x => h0 (by omega)) hl he]; rfl)) fun he => ?_))))
          · exact Ev.pos (by omega) ((ih3 _).eq (by rw [e4 trivial (fun x => hv x.2) hl he]))
          · exact Ev.pos (by omega) ((ih3 _).eq (by rw [e4 trivial (fun x => h0 (by omega)) hl he]))
theorem splitB_size (sep : ByteArray) : ∀ (k : Nat) (s w : ByteArray), w ∈ Lib.splitB sep 0 k s → w.size ≤ s.size
  | 0, s, w, h => by simp [Lib.splitB] at h; rw [h]; exact Nat.le_refl _
  | k + 1, s, w, h => by
    unfold Lib.splitB at h
    split at h
    · simp at h; rw [h]; exact Nat.le_refl _
    · rcases List.mem_cons.1 h with h | h
      · rw [h, ByteArray.size_extract]; omega
      · have := splitB_size sep k _ w h
        rw [ByteArray.size_extract] at this
        omega
theorem readConf_ev (t : ByteArray) (ht : t.size ≤ 1048576) : Ev (fun k => f40 k t) (finC t (parseI (splV t ⟨#[32]⟩) (splV t ⟨#[32]⟩).length 0 false [] [])) := by
  simp only [f40, f40.start, PT.run]
  have hc : Lib.countB t ⟨#[32]⟩ ≤ t.size := Lib.countB_le ⟨#[32]⟩ (Nat.le_refl 1) t.size t (Nat.le_refl _)
  have hlen : (splV t ⟨#[32]⟩).length ≤ 4194304 := by unfold splV; rw [Lib.splitB_all ⟨#[32]⟩ (Nat.le_refl 1) 0 _ t rfl]; omega
  refine Ev.bind (a := splV t ⟨#[32]⟩) ?_ ?_
  · unfold f98
    exact Ev.pos ⟨rfl, by omega⟩ (Ev.ret _)
  · refine readI_loop (splV t ⟨#[32]⟩) t hlen (fun i hi => ?_) _ 0 false [] [] rfl (Nat.zero_le _) (fun _ => rfl) (Nat.zero_le _)
    rw [at_nat _ i hi]
    have := splitB_size _ _ _ _ (List.getElem_mem hi)
    omega
end Go.Proofs.YtmjmoagmolgacaaGreatDoor.P
namespace Go.Proofs.YtmjmoagmolgacaaGreatDoor.P
open Go Go.Proofs.YtmjmoagmolgacaaGreatDoor.PM Go.Proofs
open Go.Proofs.YtmjmoagmolgacaaGreatDoor.PN (PT)
def digB (c : Int) : Bool := inB 48 57 c
theorem l1Digit_ev (c : Int) : Ev (fun k => f104 k c) (digB c) := by
  simp only [f104, f104.start, PT.run, dite_eq_ite, digB, inB]
  exact Ev.ite (fun h => Ev.ret' (by rw [decide_eq_true h]; rfl)) (fun h => Ev.ret' (by rw [decide_eq_false h]; rfl))
def numF (w : ByteArray) : Nat → Nat → Int → Int
  | 0, _, n => if 50 < n then -1 else n
  | d + 1, i, n => if digB (byteAt w (i : Int)) = true then numF w d (i + 1) (n * 10 + (byteAt w (i : Int) - 48)) else -1
def numV (w : ByteArray) : Int := if w.size < 1 then -1 else if 15 < w.size then -1 else if 1 < w.size ∧ byteAt w 0 = 48 then -1 else numF w w.size 0 0
theorem num_loop (w : ByteArray) (hw : w.size ≤ 15) (d : Nat) : ∀ (i : Nat) (n : Int), w.size - i = d → i ≤ w.size → 0 ≤ n → n < ((10 ^ i : Nat) : Int) → Ev (fun k => f50.D k (.l5 w 50 n (i : Int))) (numF w d i n) := by
  induction d with
  | zero =>
    intro i n hd hi h0 h1
    refine Ev.round ?_
    simp only [f50.blk, PT.run, dite_eq_ite]
    refine Ev.neg (by omega) ?_
    unfold numF
    exact Ev.ite (fun h => Ev.ret' (by rw [if_pos h])) (fun h => Ev.ret' (by rw [if_neg h]))
  | succ d ih =>
    intro i n hd hi h0 h1
    refine Ev.round ?_
    simp only [f50.blk, PT.run, dite_eq_ite]
    refine Ev.pos (by omega) (Ev.pos (by omega) (Ev.bind (l1Digit_ev _) ?_))
    unfold numF
    refine Ev.ite (fun h => ?_) (fun h => Ev.ret' (by rw [if_neg h]))
    rw [if_pos h]
    have hb := h
    unfold digB inB at hb
    simp only [Bool.and_eq_true, decide_eq_true_eq] at hb
    have hp : (10 : Nat) ^ (i + 1) = 10 ^ i * 10 := Nat.pow_succ ..
    have hq : (10 : Nat) ^ i ≤ 10 ^ 14 := Nat.pow_le_pow_right (by decide) (by omega)
    have hn := ih (i + 1) (n * 10 + (byteAt w (i : Int) - 48)) (by omega) (by omega) (by omega) (by rw [hp]; generalize (10 : Nat) ^ i = M at *; omega)
    rw [← wr1 (by omega)] at hn
    have h14 : (10 : Nat) ^ 14 = 100000000000000 := by decide
    have e1 : IntKind.u8.wrap (byteAt w (i : Int) - 48) = byteAt w (i : Int) - 48 := by rw [IntKind.wrap_u8]; omega
    have e2 : IntKind.i64.wrap (byteAt w (i : Int) - 48) = byteAt w (i : Int) - 48 := wr (by omega) (by omega)
    have e3 : IntKind.i64.wrap (n * 10) = n * 10 := by generalize (10 : Nat) ^ i = M at *; exact wr (by omega) (by omega)
    have e4 : IntKind.i64.wrap (n * 10 + (byteAt w (i : Int) - 48)) = n * 10 + (byteAt w (i : Int) - 48) := by generalize (10 : Nat) ^ i = M at *; exact wr (by omega) (by omega)
    rw [e1, e2, e3, e4]
    exact hn
theorem l1Number_ev (w : ByteArray) (hw : w.size ≤ 4194304) : Ev (fun k => f50 k w 50) (numV w) := by
  simp only [f50, f50.start, PT.run, dite_eq_ite]
  unfold numV
  refine Ev.ite (fun h => Ev.ret' (by rw [if_pos (by omega)])) (fun h => ?_)
  rw [if_neg (by omega)]
  refine Ev.ite (fun h1 => Ev.ret' (by rw [if_pos (by omega)])) (fun h1 => ?_)
  rw [if_neg (by omega)]
  have hl := num_loop w (by omega) _ 0 0 rfl (Nat.zero_le _) (by omega) (by decide)
  by_cases h2 : 1 < w.size
  · refine Ev.pos (by omega) ?_
    refine Ev.ite (fun h3 => Ev.ret' (by rw [if_pos ⟨h2, h3⟩])) (fun h3 => ?_)
    rw [if_neg fun x => h3 x.2]
    exact hl
  · refine Ev.neg (by omega) ?_
    rw [if_neg fun x => h2 x.1]
    exact hl
def cutF (s : ByteArray) : Nat → Nat → Nat → List ByteArray
  | 0, i, m => [s.extract m i]
  | d + 1, i, m => if byteAt s (i : Int) = 32 then s.extract m i :: cutF s d (i + 1) (i + 1) else cutF s d (i + 1) m
theorem cutF_length (s : ByteArray) : ∀ (d i m : Nat), (cutF s d i m).length ≤ d + 1
  | 0, _, _ => Nat.le_refl _
  | d + 1, i, m => by
    unfold cutF
    split
    · have := cutF_length s d (i + 1) (i + 1)
      simp only [List.length_cons]; omega
    · have := cutF_length s d (i + 1) m
      omega
theorem cutF_size (s : ByteArray) : ∀ (d i m : Nat) (w : ByteArray), w ∈ cutF s d i m → w.size ≤ s.size
  | 0, i, m, w, h => by simp [cutF] at h; rw [h, ByteArray.size_extract]; omega
  | d + 1, i, m, w, h => by
    unfold cutF at h
    split at h
    · rcases List.mem_cons.1 h with h | h
      · rw [h, ByteArray.size_extract]; omega
      · exact cutF_size s d _ _ w h
    · exact cutF_size s d _ _ w h
theorem cut_loop (s : ByteArray) (hs : s.size ≤ 1048576) (d : Nat) : ∀ (i m : Nat) (q : List ByteArray), s.size - i = d → i ≤ s.size → m ≤ i → q.length ≤ i → Ev (fun k => f49.D k (.l4 q s 32 (m : Int) (i : Int))) (q ++ cutF s d i m) := by
  induction d with
  | zero =>
    intro i m q hd hi hm hq
    refine Ev.round ?_
    simp only [f49.blk, PT.run, dite_eq_ite]
    refine Ev.pos (by omega) (Ev.pos (by omega) (Ev.pos (by omega) (Ev.pos (by omega) (Ev.pos (by omega) ?_))))
    refine Ev.round ?_
    simp only [f49.blk, PT.run, dite_eq_ite]
    rw [wr1 (by omega)]
    refine Ev.neg (by omega) (Ev.ret' ?_)
    simp [cutF]
  | succ d ih =>
    intro i m q hd hi hm hq
    refine Ev.round ?_
    simp only [f49.blk, PT.run, dite_eq_ite]
    refine Ev.pos (by omega) (Ev.neg (by omega) (Ev.pos (by omega) (Ev.pos (by omega) ?_)))
    unfold cutF
    refine Ev.ite (fun h => ?_) (fun h => ?_)
    · rw [if_pos h]
      have hn := ih (i + 1) (i + 1) (q ++ [s.extract m i]) (by omega) (by omega) (Nat.le_refl _) (by rw [List.length_append, List.length_singleton]; omega)
      rw [← wr1 (by omega), List.append_assoc, List.singleton_append] at hn
      exact Ev.pos (by omega) (Ev.pos (by omega) (Ev.pos (by omega) hn))
    · rw [if_neg h]
      have hn := ih (i + 1) m q (by omega) (by omega) (by omega) (by omega)
      rw [← wr1 (by omega)] at hn
      exact hn
def cutV (s : ByteArray) : List ByteArray := cutF s s.size 0 0
theorem l3Cut_ev (s : ByteArray) (hs : s.size ≤ 1048576) : Ev (fun k => f49 k s 32) (cutV s) := by
  simp only [f49, f49.start, PT.run]
  have := cut_loop s hs _ 0 0 [] rfl (Nat.zero_le _) (Nat.le_refl _) (Nat.le_refl _)
  unfold cutV
  simpa using this
def parseS (ws : List ByteArray) : Nat → Nat → Bool → List Int → List Int → List Int × List Int
  | 0, _, _, v, l => (v, l)
  | d + 1, i, g, v, l =>
    let w := at' ws (i : Int)
    if strEq w wL = true ∧ ¬ g = true then parseS ws d (i + 1) true v l
    else if g = true then parseS ws d (i + 1) g v (l ++ [numV w])
    else parseS ws d (i + 1) g (v ++ [numV w]) l
def finS (t : ByteArray) (p : List Int × List Int) : Bool × List Int × List Int :=
  if strEq (if confB p.1 p.2 = true then ctext p.1 p.2 else ⟨#[]⟩) t = true ∧ ¬ strEq t ⟨#[]⟩ = true then (true, p.1, p.2) else (false, [], [])
def labS (ws : List ByteArray) (t : ByteArray) (i : Int) (g : Bool) (v l : List Int) : f15.L := match v, l with
  | [], [] => .l7 ws t g i
  | [], b :: l => .l7v1 ws (b :: l) t g i
  | a :: v, b :: l => .l7v2 ws (a :: v) (b :: l) t g i
  | a :: v, [] => .l7v3 ws (a :: v) t g i
theorem finS_ev (t : ByteArray) (v l : List Int) (hv : v.length ≤ 4194304) (hl : l.length ≤ 4194304) :
    Ev (fun k => (f46 k v l).bind fun t1 => if strEq t1 t = true then (if strEq t ⟨#[]⟩ = true then some (false, [], []) else some (true, v, l)) else some (false, [], [])) (finS t (v, l)) := by
  refine Ev.bind (ConfText_ev v l hv hl) ?_
  unfold finS
  refine Ev.ite (fun h => Ev.ite (fun h2 => Ev.ret' (by rw [if_neg fun x => x.2 h2])) (fun h2 => Ev.ret' (by rw [if_pos ⟨h, h2⟩]))) (fun h => Ev.ret' (by rw [if_neg fun x => h x.1]))
set_option maxHeartbeats 4000000 in
theorem readS_loop (ws : List ByteArray) (t : ByteArray) (hn : ws.length ≤ 4194304) (hw : ∀ i : Nat, i < ws.length → (at' ws (i : Int)).size ≤ 4194304) (d : Nat) : ∀ (i : Nat) (g : Bool) (v l : List Int), ws.length - i = d → i ≤ ws.length → v.length + l.length ≤ i →
    Ev (fun k => f15.D k (labS ws t (i : Int) g v l)) (finS t (parseS ws d i g v l)) := by
  induction d with
  | zero =>
    intro i g v l hd hi hs
    have hE := finS_ev t v l (by omega) (by omega)
    unfold parseS
    refine Ev.round ?_
    cases v with
    | nil =>
      cases l with
      | nil => simp only [labS, f15.blk, PT.run, dite_eq_ite]; exact Ev.neg (by omega) hE
      | cons b l => simp only [labS, f15.blk, PT.run, dite_eq_ite]; exact Ev.neg (by omega) hE
    | cons a v =>
      cases l with
      | nil => simp only [labS, f15.blk, PT.run, dite_eq_ite]; exact Ev.neg (by omega) hE
      | cons b l => simp only [labS, f15.blk, PT.run, dite_eq_ite]; exact Ev.neg (by omega) hE
  | succ d ih =>
    intro i g v l hd hi hs
    have ih2 := ih (i + 1) true v l (by omega) (by omega) (by omega)
    have ih3 := ih (i + 1) g v (l ++ [numV (at' ws (i : Int))]) (by omega) (by omega) (by rw [List.length_append, List.length_singleton]; omega)
    have ih4 := ih (i + 1) g (v ++ [numV (at' ws (i : Int))]) l (by omega) (by omega) (by rw [List.length_append, List.length_singleton]; omega)
    have hz := hw i (by omega)
    have hN := l1Number_ev _ hz
    rw [← wr1 (by omega)] at ih2 ih3 ih4
    have e : parseS ws (d + 1) i g v l = if strEq (at' ws (i : Int)) wL = true ∧ ¬ g = true then parseS ws d (i + 1) true v l else if g = true then parseS ws d (i + 1) g v (l ++ [numV (at' ws (i : Int))]) else parseS ws d (i + 1) g (v ++ [numV (at' ws (i : Int))]) l := rfl
    rw [e]
    clear ih e
    refine Ev.round ?_
    have a1 : strEq (at' ws (i : Int)) wL = true → ¬ g = true → (if strEq (at' ws (i : Int)) wL = true ∧ ¬ g = true then parseS ws d (i + 1) true v l else if g = true then parseS ws d (i + 1) g v (l ++ [numV (at' ws (i : Int))]) else parseS ws d (i + 1) g (v ++ [numV (at' ws (i : Int))]) l) = parseS ws d (i + 1) true v l := fun h1 h2 => if_pos ⟨h1, h2⟩
    have a2 : g = true → (if strEq (at' ws (i : Int)) wL = true ∧ ¬ g = true then parseS ws d (i + 1) true v l else if g = true then parseS ws d (i + 1) g v (l ++ [numV (at' ws (i : Int))]) else parseS ws d (i + 1) g (v ++ [numV (at' ws (i : Int))]) l) = parseS ws d (i + 1) g v (l ++ [numV (at' ws (i : Int))]) := fun h1 => by rw [if_neg fun x => x.2 h1, if_pos h1]
    have a3 : ¬ strEq (at' ws (i : Int)) wL = true → ¬ g = true → (if strEq (at' ws (i : Int)) wL = true ∧ ¬ g = true then parseS ws d (i + 1) true v l else if g = true then parseS ws d (i + 1) g v (l ++ [numV (at' ws (i : Int))]) else parseS ws d (i + 1) g (v ++ [numV (at' ws (i : Int))]) l) = parseS ws d (i + 1) g (v ++ [numV (at' ws (i : Int))]) l := fun h1 h2 => by rw [if_neg fun x => h1 x.1, if_neg h2]
    generalize (if strEq (at' ws (i : Int)) wL = true ∧ ¬ g = true then parseS ws d (i + 1) true v l else if g = true then parseS ws d (i + 1) g v (l ++ [numV (at' ws (i : Int))]) else parseS ws d (i + 1) g (v ++ [numV (at' ws (i : Int))]) l) = r at a1 a2 a3 ⊢
    cases v with
    | nil =>
      cases l with
      | nil =>
        simp only [labS, f15.blk, PT.run, dite_eq_ite, List.cons_append]
        simp only [labS, List.nil_append, List.cons_append] at ih2 ih3 ih4 a1 a2 a3
        refine Ev.pos (by omega) (Ev.pos (by omega) (Ev.ite (fun h1 => Ev.ite (fun h2 => Ev.bind hN (ih3.eq (by rw [a2 h2]))) fun h2 => ih2.eq (by rw [a1 h1 h2])) fun h1 => Ev.bind hN (Ev.ite (fun h2 => ih3.eq (by rw [a2 h2])) fun h2 => ih4.eq (by rw [a3 h1 h2]))))
      | cons b l =>
        simp only [labS, f15.blk, PT.run, dite_eq_ite, List.cons_append]
        simp only [labS, List.nil_append, List.cons_append] at ih2 ih3 ih4 a1 a2 a3
        refine Ev.pos (by omega) (Ev.pos (by omega) (Ev.ite (fun h1 => Ev.ite (fun h2 => Ev.bind hN (Ev.pos (by omega) (ih3.eq (by rw [a2 h2])))) fun h2 => ih2.eq (by rw [a1 h1 h2])) fun h1 => Ev.bind hN (Ev.ite (fun h2 => Ev.pos (by omega) (ih3.eq (by rw [a2 h2]))) fun h2 => ih4.eq (by rw [a3 h1 h2]))))
    | cons a v =>
      cases l with
      | nil =>
        simp only [labS, f15.blk, PT.run, dite_eq_ite, List.cons_append]
        simp only [labS, List.nil_append, List.cons_append] at ih2 ih3 ih4 a1 a2 a3
        refine Ev.pos (by omega) (Ev.pos (by omega) (Ev.ite (fun h1 => Ev.ite (fun h2 => Ev.bind hN (ih3.eq (by rw [a2 h2]))) fun h2 => ih2.eq (by rw [a1 h1 h2])) fun h1 => Ev.bind hN (Ev.ite (fun h2 => ih3.eq (by rw [a2 h2])) fun h2 => Ev.pos (by omega) (ih4.eq (by rw [a3 h1 h2])))))
      | cons b l =>
        simp only [labS, f15.blk, PT.run, dite_eq_ite, List.cons_append]
        simp only [labS, List.nil_append, List.cons_append] at ih2 ih3 ih4 a1 a2 a3
        refine Ev.pos (by omega) (Ev.pos (by omega) (Ev.ite (fun h1 => Ev.ite (fun h2 => Ev.bind hN (Ev.pos (by omega) (ih3.eq (by rw [a2 h2])))) fun h2 => ih2.eq (by rw [a1 h1 h2])) fun h1 => Ev.bind hN (Ev.ite (fun h2 => Ev.pos (by omega) (ih3.eq (by rw [a2 h2]))) fun h2 => Ev.pos (by omega) (ih4.eq (by rw [a3 h1 h2])))))
theorem ReadConf_ev (t : ByteArray) (ht : t.size ≤ 1048576) : Ev (fun k => f15 k t) (if 200 < t.size then (false, [], []) else finS t (parseS (cutV t) ((cutV t).length - 1) 1 false [] [])) := by
  simp only [f15, f15.start, PT.run, dite_eq_ite]
  refine Ev.ite (fun h => Ev.ret' (by rw [if_pos (by omega)])) (fun h => ?_)
  rw [if_neg (by omega)]
  have h0 : 0 < (cutV t).length := by
    unfold cutV
    cases hd : t.size with
    | zero => simp [cutF]
    | succ d =>
      have : ∀ d i m, 0 < (cutF t d i m).length := by
        intro d
        induction d with
        | zero => intro i m; simp [cutF]
        | succ d ih => intro i m; unfold cutF; split <;> simp [ih]
      exact this _ _ _
  have hl : (cutV t).length ≤ 4194304 := by have := cutF_length t t.size 0 0; unfold cutV; omega
  refine Ev.bind (l3Cut_ev t ht) (readS_loop (cutV t) t hl (fun i hi => ?_) _ 1 false [] [] rfl h0 (Nat.zero_le _))
  rw [at_nat _ i hi]
  have := cutF_size t _ _ _ _ (List.getElem_mem hi)
  omega
end Go.Proofs.YtmjmoagmolgacaaGreatDoor.P
namespace Go.Proofs.YtmjmoagmolgacaaGreatDoor.P
open Go Go.Proofs.YtmjmoagmolgacaaGreatDoor.PM Go.Proofs
abbrev bs (s : ByteArray) : List UInt8 := s.data.toList
theorem bs_inj {a b : ByteArray} (h : bs a = bs b) : a = b := ByteArray.ext (Array.toList_inj.1 h)
theorem bs_append (a b : ByteArray) : bs (a ++ b) = bs a ++ bs b := by simp [bs]
def jn (ws : List (List UInt8)) : List UInt8 := ws.flatMap fun w => 32 :: w
theorem jn_cons (w : List UInt8) (r : List (List UInt8)) : jn (w :: r) = 32 :: (w ++ jn r) := by simp [jn]
theorem jn_append (a b : List (List UInt8)) : jn (a ++ b) = jn a ++ jn b := by simp [jn]
theorem txt_bs (s : ByteArray) (l : List Int) : bs (txt s l) = bs s ++ jn (l.map fun n => bs (dec1 n)) := by
  induction l generalizing s with
  | nil => simp [txt, jn]
  | cons n r ih =>
    show bs (txt (s ++ (⟨#[32]⟩ : ByteArray) ++ dec1 n) r) = _
    rw [ih, List.map_cons, jn_cons, bs_append, bs_append, List.append_assoc, List.append_assoc]
    rfl
def tailW (l : List Int) : List ByteArray := if 0 < l.length then wL :: l.map dec1 else []
def wordsOf (v l : List Int) : List ByteArray := wV :: (v.map dec1 ++ tailW l)
theorem ctext_bs (v l : List Int) : bs (ctext v l) = bs wV ++ jn ((v.map dec1 ++ tailW l).map bs) := by
  unfold ctext tail1 tailW
  split
  · rw [txt_bs, bs_append, txt_bs, List.map_append, jn_append, List.map_cons, jn_cons, List.map_map, List.map_map, show bs (⟨#[32, 108]⟩ : ByteArray) = [32, 108] from rfl, show bs wL = [108] from rfl]
    simp [Function.comp_def]
  · rw [txt_bs, List.append_nil, List.map_map]
    rfl
theorem index_hit : ∀ (w r : List UInt8), (32 : UInt8) ∉ w → Lib.index (w ++ 32 :: r) [32] = w.length
  | [], r, _ => by rw [Lib.index_one]; rfl
  | b :: w, r, h => by
    have h1 : (32 : UInt8) ∉ w := fun x => h (List.mem_cons_of_mem _ x)
    have h2 : ¬ b = 32 := fun x => h (by rw [x]; exact List.mem_cons_self)
    have ih := index_hit w r h1
    rw [Lib.index_one] at ih ⊢
    show Lib.indexByte (b :: (w ++ 32 :: r)) 32 = _
    unfold Lib.indexByte
    rw [ih, if_neg (by simpa using h2), if_neg (by simp), List.length_cons]
    omega
theorem count_jn (r : List (List UInt8)) (hr : ∀ x ∈ r, (32 : UInt8) ∉ x) : (jn r).count 32 = r.length := by
  induction r with
  | nil => rfl
  | cons a r ih =>
    rw [jn_cons, List.count_cons_self, List.count_append, ih fun x hx => hr x (List.mem_cons_of_mem _ hx), List.count_eq_zero.2 (hr a List.mem_cons_self), List.length_cons]
    omega
theorem splitK_jn : ∀ (r : List (List UInt8)) (w : List UInt8), (32 : UInt8) ∉ w → (∀ x ∈ r, (32 : UInt8) ∉ x) → Lib.splitK [32] 0 r.length (w ++ jn r) = w :: r
  | [], w, hw, _ => by simp [jn, Lib.splitK]
  | a :: r, w, hw, hr => by
    have h1 := index_hit w (a ++ jn r) hw
    rw [jn_cons, List.length_cons]
    unfold Lib.splitK
    rw [h1, if_neg (by simp)]
    have : ((w.length : Int)).toNat = w.length := Int.toNat_natCast _
    rw [this, Nat.add_zero, List.take_left' rfl, show w.length + ([32] : List UInt8).length = w.length + 1 from rfl, List.drop_append, List.drop_of_length_le (Nat.le_succ _)]
    rw [show w.length + 1 - w.length = 1 by omega, List.drop_one, List.tail_cons, List.nil_append, splitK_jn r a (hr a List.mem_cons_self) fun x hx => hr x (List.mem_cons_of_mem _ hx)]
theorem map_bs_inj : ∀ {a b : List ByteArray}, a.map bs = b.map bs → a = b
  | [], [], _ => rfl
  | [], _ :: _, h => by simp at h
  | _ :: _, [], h => by simp at h
  | x :: a, y :: b, h => by
    rw [List.map_cons, List.map_cons] at h
    injection h with h1 h2
    rw [bs_inj h1, map_bs_inj h2]
theorem splV_words (t w : ByteArray) (r : List ByteArray) (ht : bs t = bs w ++ jn (r.map bs)) (hw : (32 : UInt8) ∉ bs w) (hr : ∀ x ∈ r, (32 : UInt8) ∉ bs x) : splV t ⟨#[32]⟩ = w :: r := by
  apply map_bs_inj
  have hr' : ∀ x ∈ r.map bs, (32 : UInt8) ∉ x := fun x hx => by obtain ⟨y, hy, rfl⟩ := List.mem_map.1 hx; exact hr y hy
  unfold splV
  have h1 := Lib.splitB_data ⟨#[32]⟩ 0 (Lib.countB t ⟨#[32]⟩) t
  have h2 : Lib.countB t ⟨#[32]⟩ = r.length := by
    show Lib.count (bs t) [32] = _
    rw [Lib.count_one, ht, List.count_append, List.count_eq_zero.2 hw, count_jn _ hr', List.length_map]
    omega
  rw [h2] at h1 ⊢
  refine (show List.map bs _ = _ from h1).trans ?_
  show Lib.splitK [32] 0 r.length (bs t) = _
  rw [ht]
  have := splitK_jn (r.map bs) (bs w) hw hr'
  rw [List.length_map] at this
  rw [this]
  rfl
def cutL : List UInt8 → List UInt8 → List (List UInt8)
  | [], c => [c]
  | b :: r, c => if b = 32 then c :: cutL r [] else cutL r (c ++ [b])
theorem byteAt_eq32 (s : ByteArray) (i : Nat) (h : i < s.size) : byteAt s (i : Int) = 32 ↔ (bs s)[i]'(by rw [← Lib.size_eq]; exact h) = 32 := by
  have e : byteAt s (i : Int) = (((bs s)[i]'(by rw [← Lib.size_eq]; exact h)).toNat : Int) := by
    unfold byteAt
    rw [Int.toNat_natCast, getElem?_pos s i h]
    rfl
  rw [e]
  constructor
  · intro h1
    apply UInt8.toNat_inj.1
    show _ = 32
    omega
  · intro h1; rw [h1]; rfl
theorem cutF_L (s : ByteArray) : ∀ (d i m : Nat), s.size - i = d → i ≤ s.size → m ≤ i → (cutF s d i m).map bs = cutL ((bs s).drop i) (((bs s).drop m).take (i - m))
  | 0, i, m, hd, hi, hm => by
    have hz : s.size = (bs s).length := Lib.size_eq s
    rw [List.drop_of_length_le (by omega)]
    simp [cutF, cutL, bs, Lib.extract_data]
  | d + 1, i, m, hd, hi, hm => by
    have hz : s.size = (bs s).length := Lib.size_eq s
    have hlt : i < (bs s).length := by omega
    rw [List.drop_eq_getElem_cons hlt]
    unfold cutF cutL
    have hb := byteAt_eq32 s i (by omega)
    by_cases h : byteAt s (i : Int) = 32
    · rw [if_pos h, if_pos (hb.1 h), List.map_cons, cutF_L s d (i + 1) (i + 1) (by omega) (by omega) (Nat.le_refl _), Nat.sub_self, List.take_zero]
      simp [bs, Lib.extract_data]
    · rw [if_neg h, if_neg fun x => h (hb.2 x), cutF_L s d (i + 1) m (by omega) (by omega) (by omega)]
      congr 1
      rw [show i + 1 - m = (i - m) + 1 by omega, List.take_add_one, List.getElem?_drop, show m + (i - m) = i by omega, List.getElem?_eq_getElem hlt]
      rfl
theorem cutL_word : ∀ (w r c : List UInt8), (32 : UInt8) ∉ w → cutL (w ++ r) c = cutL r (c ++ w)
  | [], r, c, _ => by simp
  | b :: w, r, c, h => by
    have h1 : (32 : UInt8) ∉ w := fun x => h (List.mem_cons_of_mem _ x)
    have h2 : ¬ b = 32 := fun x => h (by rw [x]; exact List.mem_cons_self)
    rw [List.cons_append]
    show (if b = 32 then c :: cutL (w ++ r) [] else cutL (w ++ r) (c ++ [b])) = _
    rw [if_neg h2, cutL_word w r _ h1, List.append_assoc]
    rfl
theorem cutL_jn : ∀ (r : List (List UInt8)) (w : List UInt8), (32 : UInt8) ∉ w → (∀ x ∈ r, (32 : UInt8) ∉ x) → cutL (w ++ jn r) [] = w :: r
  | [], w, hw, _ => by rw [cutL_word w _ _ hw]; rfl
  | a :: r, w, hw, hr => by
    rw [cutL_word w _ _ hw, jn_cons]
    show (if (32 : UInt8) = 32 then ([] ++ w) :: cutL (a ++ jn r) [] else _) = _
    rw [if_pos rfl, cutL_jn r a (hr a List.mem_cons_self) fun x hx => hr x (List.mem_cons_of_mem _ hx)]
    rfl
theorem cutV_words (t w : ByteArray) (r : List ByteArray) (ht : bs t = bs w ++ jn (r.map bs)) (hw : (32 : UInt8) ∉ bs w) (hr : ∀ x ∈ r, (32 : UInt8) ∉ bs x) : cutV t = w :: r := by
  apply map_bs_inj
  unfold cutV
  rw [cutF_L t t.size 0 0 (Nat.sub_zero _) (Nat.zero_le _) (Nat.le_refl _), List.drop_zero, Nat.sub_self, List.take_zero, ht, cutL_jn _ _ hw fun x hx => by obtain ⟨y, hy, rfl⟩ := List.mem_map.1 hx; exact hr y hy]
  rfl
theorem dec_reads (n : Int) (h1 : 1 ≤ n) (h2 : n ≤ 50) : (32 : UInt8) ∉ bs (dec1 n) ∧ ¬ strEq (dec1 n) wL = true ∧ pintV (dec1 n) = (n, false) ∧ numV (dec1 n) = n := by
  have h : n = 1 ∨ n = 2 ∨ n = 3 ∨ n = 4 ∨ n = 5 ∨ n = 6 ∨ n = 7 ∨ n = 8 ∨ n = 9 ∨ n = 10 ∨ n = 11 ∨ n = 12 ∨ n = 13 ∨ n = 14 ∨ n = 15 ∨ n = 16 ∨ n = 17 ∨ n = 18 ∨ n = 19 ∨ n = 20 ∨ n = 21 ∨ n = 22 ∨ n = 23 ∨ n = 24 ∨ n = 25 ∨ n = 26 ∨ n = 27 ∨ n = 28 ∨ n = 29 ∨ n = 30 ∨ n = 31 ∨ n = 32 ∨ n = 33 ∨ n = 34 ∨ n = 35 ∨ n = 36 ∨ n = 37 ∨ n = 38 ∨ n = 39 ∨ n = 40 ∨ n = 41 ∨ n = 42 ∨ n = 43 ∨ n = 44 ∨ n = 45 ∨ n = 46 ∨ n = 47 ∨ n = 48 ∨ n = 49 ∨ n = 50 := by omega
  rcases h with rfl | rfl | rfl | rfl | rfl | rfl | rfl | rfl | rfl | rfl | rfl | rfl | rfl | rfl | rfl | rfl | rfl | rfl | rfl | rfl | rfl | rfl | rfl | rfl | rfl | rfl | rfl | rfl | rfl | rfl | rfl | rfl | rfl | rfl | rfl | rfl | rfl | rfl | rfl | rfl | rfl | rfl | rfl | rfl | rfl | rfl | rfl | rfl | rfl | rfl <;> exact ⟨of_decide_eq_true (by kernel_rfl), of_decide_eq_true (by kernel_rfl), by kernel_rfl, by kernel_rfl⟩
theorem tailW_ok (l : List Int) (hl : oks l) : ∀ x ∈ tailW l, (32 : UInt8) ∉ bs x := fun x hx => by
  unfold tailW at hx
  split at hx
  · rcases List.mem_cons.1 hx with rfl | hx
    · exact of_decide_eq_true (by kernel_rfl)
    · obtain ⟨n, hn, rfl⟩ := List.mem_map.1 hx
      obtain ⟨i, hi, rfl⟩ := List.getElem_of_mem hn
      have := hl i hi
      rw [at_nat l i hi] at this
      exact (dec_reads _ this.1 this.2).1
  · simp at hx
theorem words_ok (v l : List Int) (hv : oks v) (hl : oks l) : ∀ x ∈ v.map dec1 ++ tailW l, (32 : UInt8) ∉ bs x := fun x hx => by
  rcases List.mem_append.1 hx with hx | hx
  · obtain ⟨n, hn, rfl⟩ := List.mem_map.1 hx
    obtain ⟨i, hi, rfl⟩ := List.getElem_of_mem hn
    have := hv i hi
    rw [at_nat v i hi] at this
    exact (dec_reads _ this.1 this.2).1
  · exact tailW_ok l hl x hx
def PL : List ByteArray → Bool → List Int → List Int → Option (List Int × List Int)
  | [], _, v, l => some (v, l)
  | w :: r, g, v, l => if strEq w wL = true then PL r true v l else if (pintV w).2 = true then none else if g = true then PL r g v (l ++ [(pintV w).1]) else PL r g (v ++ [(pintV w).1]) l
def SL : List ByteArray → Bool → List Int → List Int → List Int × List Int
  | [], _, v, l => (v, l)
  | w :: r, g, v, l => if strEq w wL = true ∧ ¬ g = true then SL r true v l else if g = true then SL r g v (l ++ [numV w]) else SL r g (v ++ [numV w]) l
theorem parseI_PL (ws : List ByteArray) : ∀ (d i : Nat) (g : Bool) (v l : List Int), 0 < i → ws.length - i = d → i ≤ ws.length → parseI ws d i g v l = PL (ws.drop i) g v l
  | 0, i, g, v, l, h0, hd, hi => by rw [List.drop_of_length_le (by omega)]; rfl
  | d + 1, i, g, v, l, h0, hd, hi => by
    have hlt : i < ws.length := by omega
    rw [List.drop_eq_getElem_cons hlt]
    unfold parseI PL
    rw [at_nat ws i hlt]
    simp only [parseI_PL ws d (i + 1) _ _ _ (Nat.succ_pos _) (by omega) (by omega), show ¬ i = 0 by omega, false_and, if_false]
theorem parseS_SL (ws : List ByteArray) : ∀ (d i : Nat) (g : Bool) (v l : List Int), ws.length - i = d → i ≤ ws.length → parseS ws d i g v l = SL (ws.drop i) g v l
  | 0, i, g, v, l, hd, hi => by rw [List.drop_of_length_le (by omega)]; rfl
  | d + 1, i, g, v, l, hd, hi => by
    have hlt : i < ws.length := by omega
    rw [List.drop_eq_getElem_cons hlt]
    unfold parseS SL
    rw [at_nat ws i hlt]
    simp only [parseS_SL ws d (i + 1) _ _ _ (by omega) (by omega)]
theorem oks_cons {n : Int} {r : List Int} (h : oks (n :: r)) : (1 ≤ n ∧ n ≤ 50) ∧ oks r := by
  refine ⟨?_, fun i hi => ?_⟩
  · have := h 0 (by simp)
    rw [at_nat _ 0 (by simp)] at this
    simpa using this
  · have := h (i + 1) (by simpa using hi)
    rw [at_nat _ (i + 1) (by simpa using hi)] at this
    rw [at_nat _ i hi]
    simpa using this
theorem PL_v (T : List ByteArray) : ∀ (r a : List Int), oks r → PL (r.map dec1 ++ T) false a [] = PL T false (a ++ r) []
  | [], a, _ => by simp
  | n :: r, a, h => by
    obtain ⟨h1, h2⟩ := oks_cons h
    obtain ⟨_, e1, e2, _⟩ := dec_reads n h1.1 h1.2
    rw [List.map_cons, List.cons_append, PL, if_neg e1, e2, if_neg (by simp), if_neg (by simp), PL_v T r _ h2, List.append_assoc]
    rfl
theorem PL_l (v : List Int) : ∀ (r a : List Int), oks r → PL (r.map dec1) true v a = some (v, a ++ r)
  | [], a, _ => by simp [PL]
  | n :: r, a, h => by
    obtain ⟨h1, h2⟩ := oks_cons h
    obtain ⟨_, e1, e2, _⟩ := dec_reads n h1.1 h1.2
    rw [List.map_cons, PL, if_neg e1, e2, if_neg (by simp), if_pos rfl, PL_l v r _ h2, List.append_assoc]
    rfl
theorem SL_v (T : List ByteArray) : ∀ (r a : List Int), oks r → SL (r.map dec1 ++ T) false a [] = SL T false (a ++ r) []
  | [], a, _ => by simp
  | n :: r, a, h => by
    obtain ⟨h1, h2⟩ := oks_cons h
    obtain ⟨_, e1, _, e2⟩ := dec_reads n h1.1 h1.2
    rw [List.map_cons, List.cons_append, SL, if_neg fun x => e1 x.1, if_neg (by simp), e2, SL_v T r _ h2, List.append_assoc]
    rfl
theorem SL_l (v : List Int) : ∀ (r a : List Int), oks r → SL (r.map dec1) true v a = (v, a ++ r)
  | [], a, _ => by simp [SL]
  | n :: r, a, h => by
    obtain ⟨h1, h2⟩ := oks_cons h
    obtain ⟨_, e1, _, e2⟩ := dec_reads n h1.1 h1.2
    rw [List.map_cons, SL, if_neg fun x => e1 x.1, if_pos rfl, e2, SL_l v r _ h2, List.append_assoc]
    rfl
theorem words_I (v l : List Int) (hv : oks v) (hl : oks l) : parseI (wordsOf v l) (wordsOf v l).length 0 false [] [] = some (v, l) := by
  have h0 : (wordsOf v l).length = (v.map dec1 ++ tailW l).length + 1 := rfl
  rw [h0, ← parseI_v (ws := wordsOf v l) rfl (strEq_self wV), parseI_PL _ _ 1 _ _ _ (by decide) (by rw [h0]; omega) (by rw [h0]; omega)]
  show PL (v.map dec1 ++ tailW l) false [] [] = _
  rw [PL_v _ _ _ hv, List.nil_append]
  unfold tailW
  split
  · rw [PL, if_pos (strEq_self wL), PL_l _ _ _ hl]; rfl
  · rename_i h
    have : l = [] := List.eq_nil_of_length_eq_zero (by omega)
    rw [this]; rfl
theorem words_S (v l : List Int) (hv : oks v) (hl : oks l) : parseS (wordsOf v l) ((wordsOf v l).length - 1) 1 false [] [] = (v, l) := by
  have h0 : (wordsOf v l).length = (v.map dec1 ++ tailW l).length + 1 := rfl
  rw [parseS_SL _ _ 1 _ _ _ rfl (by rw [h0]; omega)]
  show SL (v.map dec1 ++ tailW l) false [] [] = _
  rw [SL_v _ _ _ hv, List.nil_append]
  unfold tailW
  split
  · rw [SL, if_pos ⟨strEq_self wL, by simp⟩, SL_l _ _ _ hl]; rfl
  · rename_i h
    have : l = [] := List.eq_nil_of_length_eq_zero (by omega)
    rw [this]; rfl
theorem txt_size (s : ByteArray) (l : List Int) (hl : oks l) : (txt s l).size ≤ s.size + 3 * l.length := by
  induction l generalizing s with
  | nil => exact Nat.le_refl _
  | cons n r ih =>
    obtain ⟨h1, h2⟩ := oks_cons hl
    have hz := (dec_ev n h1.1 h1.2).2.2
    have := ih (s ++ (⟨#[32]⟩ : ByteArray) ++ dec1 n) h2
    rw [bsz, bsz, sp_size] at this
    show (txt (s ++ (⟨#[32]⟩ : ByteArray) ++ dec1 n) r).size ≤ _
    rw [List.length_cons]
    omega
theorem ctext_size {v l : List Int} (h : confB v l = true) : 0 < (ctext v l).size ∧ (ctext v l).size ≤ 200 := by
  obtain ⟨⟨h1, h2⟩, h3, h4⟩ := confB_oks h
  have e : (ctext v l).size = (bs (ctext v l)).length := Lib.size_eq _
  refine ⟨by rw [e, ctext_bs, List.length_append, show (bs wV).length = 1 from rfl]; omega, ?_⟩
  unfold ctext tail1
  have a1 := txt_size ⟨#[118]⟩ v h1
  rw [show (⟨#[118]⟩ : ByteArray).size = 1 from rfl] at a1
  split
  · have a2 := txt_size (txt ⟨#[118]⟩ v ++ ⟨#[32, 108]⟩) l h3
    rw [bsz, show (⟨#[32, 108]⟩ : ByteArray).size = 2 from rfl] at a2
    omega
  · omega
def rc (t : ByteArray) : Bool × List Int × List Int := finC t (parseI (splV t ⟨#[32]⟩) (splV t ⟨#[32]⟩).length 0 false [] [])
theorem rc_two (t : ByteArray) (ht : t.size ≤ 1048576) : Ev (fun k => f15 k t) (rc t) ∧ ((rc t).1 = true → confB (rc t).2.1 (rc t).2.2 = true ∧ ctext (rc t).2.1 (rc t).2.2 = t) ∧ ((rc t).1 = false → (rc t).2 = ([], [])) := by
  suffices h : ∃ r : Bool × List Int × List Int, rc t = r ∧ Ev (fun k => f15 k t) r ∧ (r.1 = true → confB r.2.1 r.2.2 = true ∧ ctext r.2.1 r.2.2 = t) ∧ (r.1 = false → r.2 = ([], [])) by
    obtain ⟨r, rfl, h⟩ := h
    exact h
  have hS := ReadConf_ev t ht
  by_cases h : ∃ v l, confB v l = true ∧ ctext v l = t
  · obtain ⟨v, l, hc, rfl⟩ := h
    obtain ⟨⟨h1, _⟩, h3, _⟩ := confB_oks hc
    obtain ⟨z0, z1⟩ := ctext_size hc
    have e1 : splV (ctext v l) ⟨#[32]⟩ = wordsOf v l := splV_words _ _ _ (ctext_bs v l) (of_decide_eq_true (by kernel_rfl)) (words_ok v l h1 h3)
    have e2 : cutV (ctext v l) = wordsOf v l := cutV_words _ _ _ (ctext_bs v l) (of_decide_eq_true (by kernel_rfl)) (words_ok v l h1 h3)
    refine ⟨(true, v, l), ?_, hS.eq ?_, fun _ => ⟨hc, rfl⟩, (fun x => by cases x)⟩
    · unfold rc; rw [e1, words_I v l h1 h3]
      show (if confB v l = true ∧ strEq (ctext v l) (ctext v l) = true then (true, v, l) else (false, [], [])) = _
      rw [if_pos ⟨hc, strEq_self _⟩]
    · rw [e2, words_S v l h1 h3, if_neg (by omega)]
      show (if strEq (if confB v l = true then ctext v l else ⟨#[]⟩) (ctext v l) = true ∧ ¬ strEq (ctext v l) ⟨#[]⟩ = true then (true, v, l) else (false, [], [])) = _
      rw [if_pos hc, if_pos ⟨strEq_self _, fun x => by rw [(strEq_iff _ _).1 x] at z0; exact absurd z0 (by decide)⟩]
  · refine ⟨(false, [], []), ?_, hS.eq ?_, (fun x => by cases x), fun _ => rfl⟩
    · unfold rc; cases hp : parseI (splV t ⟨#[32]⟩) (splV t ⟨#[32]⟩).length 0 false [] [] with
      | none => rfl
      | some p =>
        obtain ⟨v, l⟩ := p
        show (if confB v l = true ∧ strEq (ctext v l) t = true then (true, v, l) else (false, [], [])) = _
        rw [if_neg fun x => h ⟨v, l, x.1, (strEq_iff _ _).1 x.2⟩]
    · split
      · rfl
      · unfold finS
        rw [if_neg]
        rintro ⟨x1, x2⟩
        have x1 := (strEq_iff _ _).1 x1
        split at x1
        · rename_i hc; exact h ⟨_, _, hc, x1⟩
        · exact x2 (by rw [← x1]; exact strEq_self _)
end Go.Proofs.YtmjmoagmolgacaaGreatDoor.P
namespace Go.Proofs.YtmjmoagmolgacaaGreatDoor.P
open Go Go.Proofs.YtmjmoagmolgacaaGreatDoor.PM Go.Proofs
open Go.Proofs.YtmjmoagmolgacaaGreatDoor.PN (PT)
def kindB (x : S81) : Bool := if x.f1 = 0 then strEq x.f2 ⟨#[]⟩ else if x.f1 = 1 then true else if x.f1 = 2 then (rc x.f2).1 else false
def entB (x : S81) : Bool := inB 1 1000000000000 x.f0 && (inB 0 9 x.f1 && decide (x.f2.size ≤ 4000))
def toldB (x : S81) : Bool := entB x && kindB x
theorem l5Entry_ev (x : S81) : Ev (fun k => f107 k x.f0 x.f1 x.f2) (entB x) := by
  simp only [f107, f107.start, PT.run, dite_eq_ite]
  unfold entB
  refine Ev.bind (l1In_ev _ _ _) (Ev.ite (fun h => ?_) (fun h => Ev.ret' (by simp [h])))
  rw [h, Bool.true_and]
  refine Ev.bind (l1In_ev _ _ _) (Ev.ite (fun h1 => Ev.ret' ?_) (fun h1 => Ev.ret' (by simp [h1])))
  rw [h1, Bool.true_and]
  exact decide_eq_decide.2 (by omega)
theorem isEntry_ev (x : S81) : Ev (fun k => f115 k x.f0 x.f1 x.f2) (entB x) := by
  simp only [f115, f115.start, PT.run, dite_eq_ite]
  unfold entB
  refine Ev.bind (in_ev _ _ _) (Ev.ite (fun h => ?_) (fun h => Ev.ret' (by simp [h])))
  rw [h, Bool.true_and]
  refine Ev.bind (in_ev _ _ _) (Ev.ite (fun h1 => Ev.ret' ?_) (fun h1 => Ev.ret' (by simp [h1])))
  rw [h1, Bool.true_and]
  exact decide_eq_decide.2 (by omega)
theorem entB_size {x : S81} (h : entB x = true) : x.f2.size ≤ 4000 := by
  unfold entB at h
  simp only [Bool.and_eq_true, decide_eq_true_eq] at h
  exact h.2.2
theorem l10Entry_ev (x : S81) : Ev (fun k => f57 k x.f0 x.f1 x.f2) (toldB x) := by
  simp only [f57, f57.start, PT.run, dite_eq_ite]
  unfold toldB
  refine Ev.bind (l5Entry_ev x) (Ev.ite (fun h => ?_) (fun h => Ev.ret' (by simp [h])))
  rw [h, Bool.true_and]
  unfold kindB
  refine Ev.ite (fun h0 => Ev.ret' (by rw [if_pos h0])) (fun h0 => ?_)
  rw [if_neg h0]
  refine Ev.ite (fun h1 => Ev.ret' (by rw [if_pos h1])) (fun h1 => ?_)
  rw [if_neg h1]
  refine Ev.ite (fun h2 => ?_) (fun h2 => Ev.ret' (by rw [if_neg h2]))
  rw [if_pos h2]
  have := entB_size h
  exact Ev.bind (rc_two x.f2 (by omega)).1 (Ev.ret _)
theorem isTold_ev (x : S81) : Ev (fun k => f69 k x.f0 x.f1 x.f2) (toldB x) := by
  simp only [f69, f69.start, PT.run, dite_eq_ite]
  unfold toldB
  refine Ev.bind (isEntry_ev x) (Ev.ite (fun h => ?_) (fun h => Ev.ret' (by simp [h])))
  rw [h, Bool.true_and]
  unfold kindB
  refine Ev.ite (fun h0 => Ev.ret' (by rw [if_pos h0])) (fun h0 => ?_)
  rw [if_neg h0]
  refine Ev.ite (fun h1 => Ev.ret' (by rw [if_pos h1])) (fun h1 => ?_)
  rw [if_neg h1]
  refine Ev.ite (fun h2 => ?_) (fun h2 => Ev.ret' (by rw [if_neg h2]))
  rw [if_pos h2]
  have := entB_size h
  exact Ev.bind (readConf_ev x.f2 (by omega)) (Ev.ret _)
def confF (g i : List Int) (l : List S81) : Nat → List Int × List Int
  | 0 => (g, i)
  | d + 1 => if (at' l (d : Int)).f1 = 2 then (rc (at' l (d : Int)).f2).2 else confF g i l d
def SzL (l : List S81) : Prop := l.length ≤ 1048576 ∧ ∀ i : Nat, i < l.length → (at' l (i : Int)).f2.size ≤ 1048576
section
variable (a b c d e : Int) (g i : List Int) (j : ByteArray) (l : List S81) (m n p : Int) (u : List Int) (v : List S88)
theorem l9Copy_ev (hg : g.length ≤ 4194304) (hi : i.length ≤ 4194304) : Ev (fun k => f28 k g i) (g, i) := by
  simp only [f28, f28.start, PT.run, dite_eq_ite]
  exact Ev.pos (by omega) (Ev.pos (by omega) (Ev.ret _))
theorem l10Conf_ev (hl : SzL l) (hg : g.length ≤ 4194304) (hi : i.length ≤ 4194304) : Ev (fun k => f60 k a b c d e g i j l m n p u v) (confF g i l l.length) := by
  have key : ∀ q : Nat, q ≤ l.length → Ev (fun k => f60.D k (.l2 ((q : Int) - 1) a b c d e g i j l m n p u v)) (confF g i l q) := by
    intro q
    induction q with
    | zero =>
      intro _
      refine Ev.round ?_
      simp only [f60.blk, PT.run, dite_eq_ite]
      exact Ev.neg (by omega) (Ev.bind (l9Copy_ev g i hg hi) (Ev.ret _))
    | succ q ih =>
      intro hq
      have hz := hl.1
      have ih := ih (by omega)
      refine Ev.round ?_
      simp only [f60.blk, PT.run, dite_eq_ite]
      rw [show ((q + 1 : Nat) : Int) - 1 = (q : Int) by omega]
      refine Ev.pos (by omega) (Ev.pos (by omega) ?_)
      unfold confF
      refine Ev.ite (fun h => ?_) (fun h => ?_)
      · rw [if_pos h]
        exact Ev.bind (rc_two _ (hl.2 q (by omega))).1 (Ev.ret _)
      · rw [if_neg h, wr (by omega) (by omega)]
        exact ih
  simp only [f60, f60.start, PT.run]
  have hz := hl.1
  rw [wr (by omega) (by omega)]
  exact key _ (Nat.le_refl _)
theorem confNow_ev (hl : SzL l) : Ev (fun k => f117 k a b c d e g i j l m n p u v) (confF g i l l.length) := by
  have key : ∀ q : Nat, q ≤ l.length → Ev (fun k => f117.D k (.l2 ((q : Int) - 1) a b c d e g i j l m n p u v)) (confF g i l q) := by
    intro q
    induction q with
    | zero =>
      intro _
      refine Ev.round ?_
      simp only [f117.blk, PT.run, dite_eq_ite]
      exact Ev.neg (by omega) (Ev.ret _)
    | succ q ih =>
      intro hq
      have hz := hl.1
      have ih := ih (by omega)
      refine Ev.round ?_
      simp only [f117.blk, PT.run, dite_eq_ite]
      rw [show ((q + 1 : Nat) : Int) - 1 = (q : Int) by omega]
      refine Ev.pos (by omega) (Ev.pos (by omega) ?_)
      unfold confF
      refine Ev.ite (fun h => ?_) (fun h => ?_)
      · rw [if_pos h]
        exact Ev.bind (readConf_ev _ (hl.2 q (by omega))) (Ev.ret _)
      · rw [if_neg h, wr (by omega) (by omega)]
        exact ih
  simp only [f117, f117.start, PT.run]
  have hz := hl.1
  rw [wr (by omega) (by omega)]
  exact key _ (Nat.le_refl _)
end
def memF (v l : List Int) (id : Int) : Nat → Int → List Int
  | 0, _ => []
  | d + 1, x => if x ≠ id ∧ (hasI v x || hasI l x) = true then x :: memF v l id d (x + 1) else memF v l id d (x + 1)
theorem memF_length (v l : List Int) (id : Int) : ∀ (d : Nat) (x : Int), (memF v l id d x).length ≤ d
  | 0, _ => Nat.le_refl _
  | d + 1, x => by
    have := memF_length v l id d (x + 1)
    unfold memF
    split
    · simp only [List.length_cons]; omega
    · omega
theorem l10Members_ev (v l : List Int) (id : Int) (hv : v.length ≤ 4194304) (hl : l.length ≤ 4194304) : Ev (fun k => f59 k v l id) (memF v l id 50 1) := by
  have key : ∀ (d : Nat) (x : Int) (q : List Int), x + d = 51 → 1 ≤ x → q.length ≤ 50 - d → d ≤ 50 → Ev (fun k => f59.D k (.l3 q id x v l)) (q ++ memF v l id d x) := by
    intro d
    induction d with
    | zero =>
      intro x q h1 h2 _ _
      refine Ev.round ?_
      simp only [f59.blk, PT.run, dite_eq_ite]
      exact Ev.neg (by omega) (Ev.ret' (by simp [memF]))
    | succ d ih =>
      intro x q h1 h2 h3 h4
      have i1 := ih (x + 1) q (by omega) (by omega) (by omega) (by omega)
      have i2 := ih (x + 1) (q ++ [x]) (by omega) (by omega) (by rw [List.length_append, List.length_singleton]; omega) (by omega)
      rw [List.append_assoc, List.singleton_append] at i2
      refine Ev.round ?_
      simp only [f59.blk, PT.run, dite_eq_ite]
      rw [wr (n := x + 1) (by omega) (by omega)]
      refine Ev.pos (by omega) ?_
      unfold memF
      refine Ev.ite (fun h => ?_) (fun h => ?_)
      · rw [if_neg fun y => y.1 h]; exact i1
      · refine Ev.bind (l1Ints_ev v x hv) (Ev.ite (fun h5 => ?_) (fun h5 => ?_))
        · rw [if_pos ⟨h, by rw [h5]; rfl⟩]
          exact Ev.pos (by omega) i2
        · refine Ev.bind (l1Ints_ev l x hl) (Ev.ite (fun h6 => ?_) (fun h6 => ?_))
          · rw [if_pos ⟨h, by rw [h6]; simp⟩]
            exact Ev.pos (by omega) i2
          · rw [if_neg fun y => by simp [h5, h6] at y]
            exact i1
  simp only [f59, f59.start, PT.run]
  have := key 50 1 [] (by omega) (by omega) (Nat.zero_le _) (by omega)
  simpa using this
theorem sorted_ext : ∀ {a b : List Int}, a.Pairwise (· < ·) → b.Pairwise (· < ·) → (∀ x, x ∈ a ↔ x ∈ b) → a = b
  | [], [], _, _, _ => rfl
  | [], y :: b, _, _, h => by have := (h y).2 List.mem_cons_self; simp at this
  | x :: a, [], _, _, h => by have := (h x).1 List.mem_cons_self; simp at this
  | x :: a, y :: b, ha, hb, h => by
    obtain ⟨a1, a2⟩ := List.pairwise_cons.1 ha
    obtain ⟨b1, b2⟩ := List.pairwise_cons.1 hb
    have e : x = y := by
      rcases List.mem_cons.1 ((h x).1 List.mem_cons_self) with e | e
      · exact e
      · rcases List.mem_cons.1 ((h y).2 List.mem_cons_self) with e' | e'
        · exact e'.symm
        · have := b1 x e
          have := a1 y e'
          omega
    subst e
    rw [sorted_ext a2 b2 fun z => ?_]
    constructor
    · intro hz
      rcases List.mem_cons.1 ((h z).1 (List.mem_cons_of_mem _ hz)) with e | e
      · have := a1 z hz; omega
      · exact e
    · intro hz
      rcases List.mem_cons.1 ((h z).2 (List.mem_cons_of_mem _ hz)) with e | e
      · have := b1 z hz; omega
      · exact e
theorem hasI_iff (l : List Int) (x : Int) : hasI l x = true ↔ x ∈ l := by
  unfold hasI anyFrom
  rw [List.drop_zero, List.any_eq_true]
  constructor
  · rintro ⟨y, h1, h2⟩
    rw [← beq_iff_eq.1 h2]; exact h1
  · intro h; exact ⟨x, h, beq_self_eq_true x⟩
theorem memF_mem (v l : List Int) (id : Int) : ∀ (d : Nat) (x y : Int), y ∈ memF v l id d x ↔ (x ≤ y ∧ y < x + d) ∧ y ≠ id ∧ (y ∈ v ∨ y ∈ l)
  | 0, x, y => by simp only [memF, List.not_mem_nil, false_iff]; omega
  | d + 1, x, y => by
    have ih := memF_mem v l id d (x + 1) y
    unfold memF
    split
    · rename_i h
      rw [List.mem_cons, ih]
      simp only [Bool.or_eq_true, hasI_iff] at h
      constructor
      · rintro (rfl | h1)
        · exact ⟨by omega, h⟩
        · exact ⟨by omega, h1.2⟩
      · rintro ⟨h1, h2⟩
        by_cases e : y = x
        · exact .inl e
        · exact .inr ⟨by omega, h2⟩
    · rename_i h
      rw [ih]
      simp only [Bool.or_eq_true, hasI_iff] at h
      constructor
      · rintro ⟨h1, h2⟩; exact ⟨by omega, h2⟩
      · rintro ⟨h1, h2⟩
        refine ⟨?_, h2⟩
        by_cases e : y = x
        · subst e; exact absurd h2 h
        · omega
theorem memF_lt (v l : List Int) (id : Int) : ∀ (d : Nat) (x : Int), (memF v l id d x).Pairwise (· < ·)
  | 0, _ => List.Pairwise.nil
  | d + 1, x => by
    unfold memF
    split
    · refine List.pairwise_cons.2 ⟨fun y hy => ?_, memF_lt v l id d (x + 1)⟩
      have := (memF_mem v l id d (x + 1) y).1 hy
      omega
    · exact memF_lt v l id d (x + 1)
theorem rising {l : List Int} (h : allFrom (idAt l) 0 l.length = true) : l.Pairwise (· < ·) ∧ ∀ x ∈ l, 1 ≤ x ∧ x ≤ 50 := by
  have h0 := (allFrom_iff _ _ _).1 h
  have hx : ∀ i (hi : i < l.length), (1 ≤ l[i] ∧ l[i] ≤ 50) ∧ (0 < i → ∀ h' : i - 1 < l.length, l[i - 1] < l[i]) := fun i hi => by
    have := h0 i (Nat.zero_le _) hi
    unfold idAt inB at this
    rw [at_nat l i hi] at this
    simp only [Bool.and_eq_true, Bool.or_eq_true, decide_eq_true_eq] at this
    refine ⟨this.1, fun h1 h' => ?_⟩
    rcases this.2 with h2 | h2
    · omega
    · rwa [show (i : Int) - 1 = ((i - 1 : Nat) : Int) by omega, at_nat l (i - 1) h'] at h2
  refine ⟨List.pairwise_iff_getElem.2 fun i j hi hj hij => ?_, fun x hm => ?_⟩
  · have : ∀ d (h1 : i + d + 1 < l.length), l[i] < l[i + d + 1] := by
      intro d
      induction d with
      | zero => intro h1; exact (hx (i + 1) h1).2 (by omega) (by simpa using hi)
      | succ d ih =>
        intro h1
        have a1 := ih (by omega)
        have a2 := (hx (i + (d + 1) + 1) h1).2 (by omega) (by omega)
        simp only [Nat.add_sub_cancel] at a2
        exact Int.lt_trans a1 a2
    have := this (j - i - 1) (by omega)
    simpa [show i + (j - i - 1) + 1 = j by omega] using this
  · obtain ⟨i, hi, rfl⟩ := List.getElem_of_mem hm
    exact (hx i hi).1
theorem members_two {v l : List Int} (h : confB v l = true) (id : Int) : (sortI (v ++ l)).filter (fun x => decide (x ≠ id)) = memF v l id 50 1 := by
  have h' := h
  unfold confB areB at h'
  simp only [Bool.and_eq_true] at h'
  obtain ⟨_, ⟨h1, _⟩, ⟨h2, _⟩, h3⟩ := h'
  obtain ⟨v1, v2⟩ := rising h1
  obtain ⟨l1, l2⟩ := rising h2
  have hp : (sortI (v ++ l)).Perm (v ++ l) := List.mergeSort_perm _ _
  have hnd : (v ++ l).Nodup := by
    refine List.nodup_append.2 ⟨v1.imp fun h => Int.ne_of_lt h, l1.imp fun h => Int.ne_of_lt h, fun x hx y hy e => ?_⟩
    subst e
    unfold anyFrom at h3
    rw [List.drop_zero, Bool.not_eq_true'] at h3
    have := List.any_eq_false.1 h3 x hy
    exact this ((hasI_iff v x).2 hx)
  have hs : (sortI (v ++ l)).Pairwise (· < ·) := by
    have a1 : (sortI (v ++ l)).Pairwise (fun x y => decide (x ≤ y) = true) := List.pairwise_mergeSort (by intro x y z; simp; omega) (by intro x y; simp; omega) _
    have a2 : (sortI (v ++ l)).Nodup := hp.nodup_iff.2 hnd
    refine (a1.and a2).imp fun ⟨h4, h5⟩ => ?_
    have := of_decide_eq_true h4
    omega
  refine sorted_ext (hs.filter _) (memF_lt _ _ _ _ _) fun x => ?_
  rw [memF_mem, List.mem_filter, hp.mem_iff, List.mem_append, decide_eq_true_eq]
  constructor
  · rintro ⟨h4, h5⟩
    refine ⟨?_, h5, h4⟩
    rcases h4 with h4 | h4
    · have := v2 x h4; omega
    · have := l2 x h4; omega
  · rintro ⟨_, h4, h5⟩; exact ⟨h5, h4⟩
end Go.Proofs.YtmjmoagmolgacaaGreatDoor.P
namespace Go.Proofs.YtmjmoagmolgacaaGreatDoor.P
open Go Go.Proofs.YtmjmoagmolgacaaGreatDoor.PM Go.Proofs
open Go.Proofs.YtmjmoagmolgacaaGreatDoor.PN (PT)
def frL (ids : List Int) (id w : Int) : List S88 := (ids.filter fun x => decide (x ≠ id)).map fun x => ⟨x, w, 0⟩
theorem frL_step (ids : List Int) (id w : Int) (i : Nat) (h : i < ids.length) : frL (ids.drop i) id w = if ids[i] = id then frL (ids.drop (i + 1)) id w else ⟨ids[i], w, 0⟩ :: frL (ids.drop (i + 1)) id w := by
  rw [List.drop_eq_getElem_cons h]
  unfold frL
  by_cases e : ids[i] = id
  · rw [if_pos e, List.filter_cons_of_neg (by simpa using e)]
  · rw [if_neg e, List.filter_cons_of_pos (by simpa using e)]
    rfl
section
variable (a b c d e : Int) (g i : List Int) (j : ByteArray) (l : List S81) (m n p : Int) (u : List Int) (v : List S88)
theorem fresh_loop (ids : List Int) (w : Int) (hi : ids.length ≤ 4194304) : ∀ (q : Nat) (r : List S88), q ≤ ids.length → r.length ≤ q → Ev (fun k => f72.D k (.l6 r ids w (ids.length : Int) (q : Int) a b c d e g i j l m n p u v)) (r ++ frL (ids.drop q) a w) := by
  have key : ∀ (f q : Nat) (r : List S88), ids.length - q = f → q ≤ ids.length → r.length ≤ q → Ev (fun k => f72.D k (.l6 r ids w (ids.length : Int) (q : Int) a b c d e g i j l m n p u v)) (r ++ frL (ids.drop q) a w) := by
    intro f
    induction f with
    | zero =>
      intro q r h1 h2 h3
      refine Ev.round ?_
      simp only [f72.blk, PT.run, dite_eq_ite]
      exact Ev.neg (by omega) (Ev.ret' (by rw [List.drop_of_length_le (by omega)]; simp [frL]))
    | succ f ih =>
      intro q r h1 h2 h3
      have hq : q < ids.length := by omega
      have i1 := ih (q + 1) r (by omega) (by omega) (by omega)
      have i2 := ih (q + 1) (r ++ [⟨ids[q], w, 0⟩]) (by omega) (by omega) (by rw [List.length_append, List.length_singleton]; omega)
      rw [← wr1 (by omega)] at i1 i2
      rw [List.append_assoc, List.singleton_append] at i2
      refine Ev.round ?_
      simp only [f72.blk, PT.run, dite_eq_ite]
      refine Ev.pos (by omega) (Ev.pos (by omega) (Ev.pos (by omega) ?_))
      rw [at_nat ids q hq, frL_step ids a w q hq]
      refine Ev.ite (fun h => ?_) (fun h => ?_)
      · rw [if_pos h]; exact i1
      · rw [if_neg h]; exact Ev.pos (by omega) i2
  exact fun q r => key _ q r rfl
theorem conf_ok (hl : SzL l) (hc : confB g i = true) (ht : ∀ q : Nat, q < l.length → toldB (at' l (q : Int)) = true) : ∀ q : Nat, q ≤ l.length → confB (confF g i l q).1 (confF g i l q).2 = true := by
  intro q
  induction q with
  | zero => intro _; exact hc
  | succ q ih =>
    intro hq
    unfold confF
    split
    · rename_i h
      have h1 := ht q (by omega)
      unfold toldB kindB at h1
      rw [if_neg (by omega), if_neg (by omega), if_pos h, Bool.and_eq_true] at h1
      exact ((rc_two _ (hl.2 q (by omega))).2.1 h1.2).1
    · exact ih (by omega)
theorem freshPeers_ev (w : Int) (hl : SzL l) (hc : confB (confF g i l l.length).1 (confF g i l l.length).2 = true) : Ev (fun k => f72 k a b c d e g i j l m n p u v w) ((memF (confF g i l l.length).1 (confF g i l l.length).2 a 50 1).map fun x => ⟨x, w, 0⟩) := by
  simp only [f72, f72.start, PT.run, dite_eq_ite]
  refine Ev.bind (confNow_ev a b c d e g i j l m n p u v hl) ?_
  obtain ⟨⟨_, h1⟩, _, h2⟩ := confB_oks hc
  have h0 : 0 < (confF g i l l.length).1.length := by
    unfold confB at hc
    simp only [Bool.and_eq_true, decide_eq_true_eq] at hc
    exact hc.1
  have hs : (sortI ((confF g i l l.length).1 ++ (confF g i l l.length).2)).length = (confF g i l l.length).1.length + (confF g i l l.length).2.length := by rw [sortI_length, List.length_append]
  refine Ev.pos (by omega) (Ev.pos (by omega) (Ev.bind (a := sortI ((confF g i l l.length).1 ++ (confF g i l l.length).2)) ?_ ?_))
  · unfold f119
    exact Ev.pos ⟨by rw [List.length_append]; omega, by rw [List.length_append]; omega⟩ (Ev.ret _)
  · refine Ev.pos hs.symm ?_
    have := fresh_loop a b c d e g i j l m n p u v (sortI ((confF g i l l.length).1 ++ (confF g i l l.length).2)) w (by omega) 0 [] (Nat.zero_le _) (Nat.le_refl _)
    rw [List.drop_zero, List.nil_append, frL, members_two hc, hs] at this
    exact this
def peerAt (ids : List Int) (v : List S88) (last : Int) (q : Nat) : Bool := decide ((at' v (q : Int)).f0 = at' ids (q : Int)) && (inB 1 (last + 1) (at' v (q : Int)).f1 && inB 0 ((at' v (q : Int)).f1 - 1) (at' v (q : Int)).f2)
def peersB (ids : List Int) (v : List S88) (last : Int) : Bool := decide (ids.length = v.length) && allFrom (peerAt ids v last) 0 v.length
theorem last_ev (hd : 0 ≤ d ∧ d ≤ 1000000000000) (hl : l.length ≤ 1048576) : Ev (fun k => f71 k a b c d e g i j l m n p u v) (d + (l.length : Int)) := by
  simp only [f71, f71.start, PT.run]
  exact Ev.ret' (wr (by omega) (by omega))
theorem l10Last_ev (hd : 0 ≤ d ∧ d ≤ 1000000000000) (hl : l.length ≤ 1048576) : Ev (fun k => f61 k a b c d e g i j l m n p u v) (d + (l.length : Int)) := by
  simp only [f61, f61.start, PT.run]
  exact Ev.ret' (wr (by omega) (by omega))
theorem l10Peers_ev (hd : 0 ≤ d ∧ d ≤ 1000000000000) (hl : SzL l) (hg : g.length ≤ 4194304) (hi : i.length ≤ 4194304) (hv : v.length ≤ 1048576) (hc : confB (confF g i l l.length).1 (confF g i l l.length).2 = true) :
    Ev (fun k => f131 k a b c d e g i j l m n p u v) (peersB (memF (confF g i l l.length).1 (confF g i l l.length).2 a 50 1) v (d + (l.length : Int))) := by
  simp only [f131, f131.start, PT.run, dite_eq_ite]
  obtain ⟨⟨_, h1⟩, _, h2⟩ := confB_oks hc
  refine Ev.bind (l10Conf_ev a b c d e g i j l m n p u v hl hg hi) (Ev.bind (l10Members_ev _ _ a (by omega) (by omega)) ?_)
  generalize memF (confF g i l l.length).1 (confF g i l l.length).2 a 50 1 = ids
  unfold peersB
  refine Ev.ite (fun h => ?_) (fun h => Ev.ret' (by rw [decide_eq_false (by omega), Bool.false_and]))
  have hn : ids.length = v.length := by omega
  rw [decide_eq_true hn, Bool.true_and]
  have := scan (blk := f131.blk) (L := fun q => .l5 ids (q : Int) a b c d e g i j l m n p u v) (n := v.length) (res := fun q => allFrom (peerAt ids v (d + (l.length : Int))) q v.length) (fun q hq ih => ?_) 0 (Nat.zero_le _)
  · exact this
  · have hz := hl.1
    simp only [f131.blk, PT.run, dite_eq_ite]
    refine Ev.ite (fun h3 => ?_) (fun h3 => Ev.ret' (allFrom_end _ (by omega)).symm)
    have hlt : q < v.length := by omega
    have ih := ih hlt
    rw [← wr1 (by omega)] at ih
    rw [allFrom_step _ hlt, peerAt]
    refine Ev.pos (by omega) (Ev.pos (by omega) (Ev.ite (fun h4 => ?_) (fun h4 => Ev.ret' (by rw [decide_eq_false h4]; rfl))))
    rw [decide_eq_true h4, Bool.true_and]
    refine Ev.bind (l10Last_ev a b c d e g i j l m n p u v hd hz) ?_
    rw [wr (n := d + (l.length : Int) + 1) (by omega) (by omega)]
    refine Ev.bind (l1In_ev _ _ _) (Ev.ite (fun h5 => ?_) (fun h5 => Ev.ret' (by simp [h5])))
    have h6 := h5
    unfold inB at h6
    simp only [Bool.and_eq_true, decide_eq_true_eq] at h6
    rw [h5, Bool.true_and, wr (n := (at' v (q : Int)).f1 - 1) (by omega) (by omega)]
    refine Ev.bind (l1In_ev _ _ _) (Ev.ite (fun h7 => ?_) (fun h7 => Ev.ret' (by simp [h7])))
    rw [h7, Bool.true_and]
    exact ih
theorem arePeers_ev (hd : 0 ≤ d ∧ d ≤ 1000000000000) (hl : SzL l) (hv : v.length ≤ 1048576) (hc : confB (confF g i l l.length).1 (confF g i l l.length).2 = true) :
    Ev (fun k => f114 k a b c d e g i j l m n p u v) (peersB (memF (confF g i l l.length).1 (confF g i l l.length).2 a 50 1) v (d + (l.length : Int))) := by
  simp only [f114, f114.start, PT.run, dite_eq_ite]
  refine Ev.bind (freshPeers_ev a b c d e g i j l m n p u v 1 hl hc) ?_
  generalize memF (confF g i l l.length).1 (confF g i l l.length).2 a 50 1 = ids
  unfold peersB
  rw [List.length_map]
  refine Ev.ite (fun h => ?_) (fun h => Ev.ret' (by rw [decide_eq_false (by omega), Bool.false_and]))
  have hn : ids.length = v.length := by omega
  rw [decide_eq_true hn, Bool.true_and]
  have := scan (blk := f114.blk) (L := fun q => .l5 (ids.map fun x => ⟨x, 1, 0⟩) v (v.length : Int) (q : Int) a b c d e g i j l m n p u v) (n := v.length) (res := fun q => allFrom (peerAt ids v (d + (l.length : Int))) q v.length) (fun q hq ih => ?_) 0 (Nat.zero_le _)
  · exact this
  · have hz := hl.1
    simp only [f114.blk, PT.run, dite_eq_ite]
    rw [List.length_map]
    refine Ev.ite (fun h3 => ?_) (fun h3 => Ev.ret' (allFrom_end _ (by omega)).symm)
    have hlt : q < v.length := by omega
    have ih := ih hlt
    rw [← wr1 (by omega)] at ih
    rw [allFrom_step _ hlt, peerAt]
    have e1 : (at' (ids.map fun x => (⟨x, 1, 0⟩ : S88)) (q : Int)).f0 = at' ids (q : Int) := by
      rw [at_nat _ q (by rw [List.length_map]; omega), at_nat ids q (by omega), List.getElem_map]
    rw [e1]
    refine Ev.pos (by omega) (Ev.pos (by omega) (Ev.pos (by omega) (Ev.ite (fun h4 => ?_) (fun h4 => Ev.ret' (by rw [decide_eq_false h4]; rfl)))))
    rw [decide_eq_true h4, Bool.true_and]
    refine Ev.bind (last_ev a b c d e g i j l m n p u v hd hz) ?_
    rw [wr (n := d + (l.length : Int) + 1) (by omega) (by omega)]
    refine Ev.bind (in_ev _ _ _) (Ev.ite (fun h5 => ?_) (fun h5 => Ev.ret' (by simp [h5])))
    have h6 := h5
    unfold inB at h6
    simp only [Bool.and_eq_true, decide_eq_true_eq] at h6
    rw [h5, Bool.true_and, wr (n := (at' v (q : Int)).f1 - 1) (by omega) (by omega)]
    refine Ev.bind (in_ev _ _ _) (Ev.ite (fun h7 => ?_) (fun h7 => Ev.ret' (by simp [h7])))
    rw [h7, Bool.true_and]
    exact ih
end
end Go.Proofs.YtmjmoagmolgacaaGreatDoor.P
namespace Go.Proofs.YtmjmoagmolgacaaGreatDoor.P
open Go Go.Proofs.YtmjmoagmolgacaaGreatDoor.PM Go.Proofs
open Go.Proofs.YtmjmoagmolgacaaGreatDoor.PN (PT)
theorem rising_len {u : List Int} (h : allFrom (idAt u) 0 u.length = true) : u.length ≤ 50 := by
  obtain ⟨h1, h2⟩ := rising h
  have key : ∀ q (hq : q < u.length), (q : Int) + 1 ≤ u[q] := by
    intro q
    induction q with
    | zero => intro hq; have := (h2 _ (List.getElem_mem hq)).1; omega
    | succ q ih =>
      intro hq
      have a1 := ih (by omega)
      have a2 := List.pairwise_iff_getElem.1 h1 q (q + 1) (by omega) hq (by omega)
      omega
  by_cases h0 : u.length = 0
  · omega
  · have a1 := key (u.length - 1) (by omega)
    have a2 := (h2 _ (List.getElem_mem (show u.length - 1 < u.length by omega))).2
    omega
def logAt (e b : Int) (l : List S81) (q : Nat) : Bool := toldB (at' l (q : Int)) && inB (if q = 0 then e else (at' l ((q : Int) - 1)).f0) b (at' l (q : Int)).f0
def logB (e b : Int) (l : List S81) : Bool := allFrom (logAt e b l) 0 l.length
def roleB (a b c d : Int) (g i : List Int) (l : List S81) (n p : Int) (u : List Int) (v : List S88) : Bool :=
  allFrom (idAt u) 0 u.length && (if n = 0 then decide (u.length = 0) && (decide (v.length = 0) && !decide (p = a))
    else if n = 1 then decide (0 < b) && (decide (v.length = 0) && (decide (c = a) && !decide (p = a)))
    else if n = 2 then decide (0 < b) && (decide (u.length = 0) && (decide (c = a) && (decide (p = a) && peersB (memF (confF g i l l.length).1 (confF g i l l.length).2 a 50 1) v (d + (l.length : Int))))) else false)
def headB (a b c d e : Int) (g i : List Int) (j : ByteArray) (l : List S81) (p : Int) : Bool :=
  inB 1 50 a && (inB 0 1000000000000 b && (inB 0 1000000000000 c && (inB 0 1000000000000 p && (inB 0 999999999500 d && (inB 0 b e && (confB g i && (decide (j.size ≤ 20000) && decide (l.length ≤ 500))))))))
def nodeB (a b c d e : Int) (g i : List Int) (j : ByteArray) (l : List S81) (m n p : Int) (u : List Int) (v : List S88) : Bool :=
  headB a b c d e g i j l p && (inB d (d + (l.length : Int)) m && (logB e b l && roleB a b c d g i l n p u v))
structure SzN (g i : List Int) (j : ByteArray) (l : List S81) (u : List Int) (v : List S88) : Prop where
  g : g.length ≤ 1048576
  i : i.length ≤ 1048576
  j : j.size ≤ 1048576
  l : SzL l
  u : u.length ≤ 1048576
  v : v.length ≤ 1048576
section
variable (a b c d e : Int) (g i : List Int) (j : ByteArray) (l : List S81) (m n p : Int) (u : List Int) (v : List S88)
theorem l10Role_ev (hz : SzN g i j l u v) (hd : 0 ≤ d ∧ d ≤ 1000000000000) (hc : confB (confF g i l l.length).1 (confF g i l l.length).2 = true) : Ev (fun k => f106 k a b c d e g i j l m n p u v) (roleB a b c d g i l n p u v) := by
  simp only [f106, f106.start, PT.run, dite_eq_ite]
  unfold roleB
  have h50 := l9Ids_ev u 50 (by have := hz.u; omega) (by decide)
  refine Ev.bind h50 (Ev.ite (fun h => ?_) (fun h => Ev.ret' ?_))
  · rw [Bool.and_eq_true] at h
    rw [h.1, Bool.true_and]
    refine Ev.ite (fun h1 => ?_) (fun h1 => ?_)
    · rw [if_pos h1]
      refine Ev.ite (fun h2 => ?_) (fun h2 => Ev.ret' (by rw [decide_eq_false (p := u.length = 0) (by omega)]; rfl))
      rw [decide_eq_true (p := u.length = 0) (by omega), Bool.true_and]
      refine Ev.ite (fun h3 => ?_) (fun h3 => Ev.ret' (by rw [decide_eq_false (p := v.length = 0) (by omega)]; rfl))
      rw [decide_eq_true (p := v.length = 0) (by omega), Bool.true_and]
      exact Ev.ret _
    · rw [if_neg h1]
      refine Ev.ite (fun h2 => ?_) (fun h2 => ?_)
      · rw [if_pos h2]
        refine Ev.ite (fun h3 => ?_) (fun h3 => Ev.ret' (by rw [decide_eq_false h3]; rfl))
        rw [decide_eq_true h3, Bool.true_and]
        refine Ev.ite (fun h4 => ?_) (fun h4 => Ev.ret' (by rw [decide_eq_false (p := v.length = 0) (by omega)]; rfl))
        rw [decide_eq_true (p := v.length = 0) (by omega), Bool.true_and]
        exact Ev.ite (fun h5 => Ev.ret' (by rw [decide_eq_true h5, Bool.true_and])) (fun h5 => Ev.ret' (by rw [decide_eq_false h5]; rfl))
      · rw [if_neg h2]
        refine Ev.ite (fun h3 => ?_) (fun h3 => Ev.ret' (by rw [if_neg h3]))
        rw [if_pos h3]
        refine Ev.ite (fun h4 => ?_) (fun h4 => Ev.ret' (by rw [decide_eq_false h4]; rfl))
        rw [decide_eq_true h4, Bool.true_and]
        refine Ev.ite (fun h5 => ?_) (fun h5 => Ev.ret' (by rw [decide_eq_false (p := u.length = 0) (by omega)]; rfl))
        rw [decide_eq_true (p := u.length = 0) (by omega), Bool.true_and]
        refine Ev.ite (fun h6 => ?_) (fun h6 => Ev.ret' (by rw [decide_eq_false h6]; rfl))
        rw [decide_eq_true h6, Bool.true_and]
        refine Ev.ite (fun h7 => ?_) (fun h7 => Ev.ret' (by rw [decide_eq_false h7]; rfl))
        rw [decide_eq_true h7, Bool.true_and]
        exact Ev.bind (l10Peers_ev a b c d e g i j l m n p u v hd hz.l (by have := hz.g; omega) (by have := hz.i; omega) hz.v hc) (Ev.ret _)
  · cases hb : allFrom (idAt u) 0 u.length with
    | false => rfl
    | true =>
      rw [hb, Bool.true_and, decide_eq_true_eq] at h
      exact absurd (rising_len hb) h
theorem log_told {e b : Int} {l : List S81} (h : logB e b l = true) : ∀ q : Nat, q < l.length → toldB (at' l (q : Int)) = true := fun q hq => by
  have := (allFrom_iff _ _ _).1 h q (Nat.zero_le _) hq
  unfold logAt at this
  rw [Bool.and_eq_true] at this
  exact this.1
theorem spec_log (hz : SzN g i j l u v) (hd : 0 ≤ d ∧ d ≤ 1000000000000) (hc : confB g i = true) : ∀ q, q ≤ l.length → allFrom (logAt e b l) 0 q = true →
    Ev (fun k => f55.D k (.l7 (if q = 0 then e else (at' l ((q : Int) - 1)).f0) (q : Int) a b c d e g i j l m n p u v)) (allFrom (logAt e b l) q l.length && roleB a b c d g i l n p u v) := by
  have hl := hz.l.1
  have key : ∀ f q, l.length - q = f → q ≤ l.length → allFrom (logAt e b l) 0 q = true →
    Ev (fun k => f55.D k (.l7 (if q = 0 then e else (at' l ((q : Int) - 1)).f0) (q : Int) a b c d e g i j l m n p u v)) (allFrom (logAt e b l) q l.length && roleB a b c d g i l n p u v) := by
    intro f
    induction f with
    | zero =>
      intro q h1 h2 h3
      obtain rfl : q = l.length := by omega
      refine Ev.round ?_
      simp only [f55.blk, PT.run, dite_eq_ite]
      refine Ev.neg (by omega) (Ev.bind (l10Role_ev a b c d e g i j l m n p u v hz hd (conf_ok g i l hz.l hc (log_told h3) _ (Nat.le_refl _))) (Ev.ret' ?_))
      rw [allFrom_end _ (Nat.le_refl _), Bool.true_and]
    | succ f ih =>
      intro q h1 h2 h3
      have hq : q < l.length := by omega
      refine Ev.round ?_
      simp only [f55.blk, PT.run, dite_eq_ite]
      refine Ev.pos (by omega) (Ev.pos (by omega) (Ev.bind (l10Entry_ev _) ?_))
      rw [allFrom_step _ hq]
      have hs : logAt e b l q = (toldB (at' l (q : Int)) && inB (if q = 0 then e else (at' l ((q : Int) - 1)).f0) b (at' l (q : Int)).f0) := rfl
      refine Ev.ite (fun h4 => ?_) (fun h4 => Ev.ret' (by rw [hs]; simp [h4]))
      refine Ev.bind (l1In_ev _ _ _) (Ev.ite (fun h5 => ?_) (fun h5 => Ev.ret' (by rw [hs]; simp [h5])))
      have h6 : logAt e b l q = true := by rw [hs, h4, h5]; rfl
      have hn := ih (q + 1) (by omega) (by omega) ((allFrom_iff _ _ _).2 fun x h7 h8 => by
        by_cases e1 : x = q
        · rw [e1]; exact h6
        · exact (allFrom_iff _ _ _).1 h3 x h7 (by omega))
      rw [if_neg (Nat.succ_ne_zero q), show ((q + 1 : Nat) : Int) - 1 = (q : Int) by omega, ← wr1 (by omega)] at hn
      rw [h6, Bool.true_and]
      exact hn
  exact fun q => key _ q rfl
theorem spec_NodeOk (hz : SzN g i j l u v) : Ev (fun k => f55 k a b c d e g i j l m n p u v) (nodeB a b c d e g i j l m n p u v) := by
  simp only [f55, f55.start, PT.run, dite_eq_ite]
  unfold nodeB headB
  refine Ev.bind (l1In_ev _ _ _) (Ev.ite (fun h1 => ?_) (fun h => Ev.ret' (by simp [h])))
  refine Ev.bind (l1In_ev _ _ _) (Ev.ite (fun h2 => ?_) (fun h => Ev.ret' (by simp [h])))
  refine Ev.bind (l1In_ev _ _ _) (Ev.ite (fun h3 => ?_) (fun h => Ev.ret' (by simp [h])))
  refine Ev.bind (l1In_ev _ _ _) (Ev.ite (fun h4 => ?_) (fun h => Ev.ret' (by simp [h])))
  refine Ev.bind (l1In_ev _ _ _) (Ev.ite (fun h5 => ?_) (fun h => Ev.ret' (by simp [h])))
  refine Ev.bind (l1In_ev _ _ _) (Ev.ite (fun h6 => ?_) (fun h => Ev.ret' (by simp [h])))
  refine Ev.bind (ConfOk_ev g i (by have := hz.g; omega) (by have := hz.i; omega)) (Ev.ite (fun h7 => ?_) (fun h => Ev.ret' (by simp [h])))
  rw [h1, h2, h3, h4, h5, h6, h7]
  simp only [Bool.true_and]
  refine Ev.ite (fun h8 => Ev.ret' (by rw [decide_eq_false (p := j.size ≤ 20000) (by omega)]; rfl)) (fun h8 => ?_)
  rw [decide_eq_true (p := j.size ≤ 20000) (by omega), Bool.true_and]
  refine Ev.ite (fun h9 => Ev.ret' (by rw [decide_eq_false (p := l.length ≤ 500) (by omega)]; rfl)) (fun h9 => ?_)
  rw [decide_eq_true (p := l.length ≤ 500) (by omega), Bool.true_and]
  have hd : 0 ≤ d ∧ d ≤ 1000000000000 := by
    unfold inB at h5
    simp only [Bool.and_eq_true, decide_eq_true_eq] at h5
    omega
  refine Ev.bind (l10Last_ev a b c d e g i j l m n p u v hd hz.l.1) (Ev.bind (l1In_ev _ _ _) (Ev.ite (fun h10 => ?_) (fun h => Ev.ret' (by simp [h]))))
  rw [h10, Bool.true_and]
  have := spec_log a b c d e g i j l m n p u v hz hd h7 0 (Nat.zero_le _) (allFrom_end _ (Nat.le_refl _))
  rw [if_pos rfl] at this
  exact this
end
end Go.Proofs.YtmjmoagmolgacaaGreatDoor.P
namespace Go.Proofs.YtmjmoagmolgacaaGreatDoor.P
open Go Go.Proofs.YtmjmoagmolgacaaGreatDoor.PM Go.Proofs
open Go.Proofs.YtmjmoagmolgacaaGreatDoor.PN (PT)
def endB (a b c d : Int) (g i : List Int) (l : List S81) (n p : Int) (v : List S88) : Bool :=
  if n = 0 then !decide (p = a) else decide (0 < b) && (decide (c = a) && (if n = 1 then !decide (p = a) else decide (p = a) && peersB (memF (confF g i l l.length).1 (confF g i l l.length).2 a 50 1) v (d + (l.length : Int))))
def voidB (n : Int) (u : List Int) (v : List S88) : Bool := (decide (n = 1) || decide (u.length = 0)) && (decide (n = 2) || decide (v.length = 0))
section
variable (a b c d e : Int) (g i : List Int) (j : ByteArray) (l : List S81) (m n p : Int) (u : List Int) (v : List S88)
theorem role_two (hn : inB 0 2 n = true) : (voidB n u v && (allFrom (idAt u) 0 u.length && endB a b c d g i l n p v)) = roleB a b c d g i l n p u v := by
  unfold inB at hn
  simp only [Bool.and_eq_true, decide_eq_true_eq] at hn
  have : n = 0 ∨ n = 1 ∨ n = 2 := by omega
  unfold voidB endB roleB
  cases allFrom (idAt u) 0 u.length <;> cases decide (u.length = 0) <;> cases decide (v.length = 0) <;> rcases this with rfl | rfl | rfl <;> simp
theorem role_out (hn : ¬ inB 0 2 n = true) : roleB a b c d g i l n p u v = false := by
  unfold inB at hn
  simp only [Bool.and_eq_true, decide_eq_true_eq] at hn
  unfold roleB
  rw [if_neg (by omega), if_neg (by omega), if_neg (by omega), Bool.and_false]
theorem end_ev (hz : SzN g i j l u v) (hd : 0 ≤ d ∧ d ≤ 1000000000000) (hn : inB 0 2 n = true) (hc : confB (confF g i l l.length).1 (confF g i l l.length).2 = true) : ∀ q, q ≤ u.length →
    Ev (fun k => f67.D k (.l14 u (u.length : Int) (q : Int) a b c d e g i j l m n p u v)) (allFrom (idAt u) q u.length && endB a b c d g i l n p v) := by
  have hu := hz.u
  unfold inB at hn
  simp only [Bool.and_eq_true, decide_eq_true_eq] at hn
  refine scan fun q hq ih => ?_
  simp only [f67.blk, PT.run, dite_eq_ite]
  refine Ev.ite (fun h => ?_) (fun h => ?_)
  · have hlt : q < u.length := by omega
    have ih := ih hlt
    rw [← wr1 (by omega)] at ih
    refine Ev.pos (by omega) (Ev.pos (by omega) (Ev.bind (isNodeId_ev _) ?_))
    rw [allFrom_step _ hlt, idAt]
    cases hb : inB 1 50 (at' u (q : Int)) with
    | false => exact Ev.neg (by simp) (Ev.ret' (by simp))
    | true =>
      refine Ev.pos rfl ?_
      by_cases h0 : q = 0
      · refine Ev.neg (by omega) ?_
        rw [decide_eq_true h0]
        simpa using ih
      · refine Ev.pos (by omega) ?_
        rw [wr (n := (q : Int) - 1) (by omega) (by omega)]
        refine Ev.pos (by omega) (Ev.pos (by omega) ?_)
        by_cases h1 : at' u ((q : Int) - 1) < at' u (q : Int)
        · refine Ev.neg (by omega) ?_
          rw [decide_eq_true h1]
          simpa using ih
        · refine Ev.pos (by omega) (Ev.ret' ?_)
          rw [decide_eq_false h1, decide_eq_false h0]
          simp
  · rw [allFrom_end _ (by omega), Bool.true_and]
    unfold endB
    refine Ev.ite (fun h1 => ?_) (fun h1 => ?_)
    · rw [if_pos h1]; exact Ev.ret _
    · rw [if_neg h1]
      refine Ev.ite (fun h2 => Ev.ret' (by rw [decide_eq_false (p := 0 < b) (by omega)]; rfl)) (fun h2 => ?_)
      rw [decide_eq_true (p := 0 < b) (by omega), Bool.true_and]
      refine Ev.ite (fun h3 => ?_) (fun h3 => Ev.ret' (by rw [decide_eq_false h3]; rfl))
      rw [decide_eq_true h3, Bool.true_and]
      refine Ev.ite (fun h4 => ?_) (fun h4 => ?_)
      · rw [if_pos h4]; exact Ev.ret _
      · rw [if_neg h4]
        refine Ev.ite (fun h5 => ?_) (fun h5 => Ev.ret' (by rw [decide_eq_false h5]; rfl))
        rw [decide_eq_true h5, Bool.true_and]
        exact Ev.bind (arePeers_ev a b c d e g i j l m n p u v hd hz.l hz.v hc) (Ev.ret _)
theorem impl_log (hz : SzN g i j l u v) (hd : 0 ≤ d ∧ d ≤ 1000000000000) (hn : inB 0 2 n = true) (hc : confB g i = true) : ∀ q, q ≤ l.length → allFrom (logAt e b l) 0 q = true →
    Ev (fun k => f67.D k (.l5 (if q = 0 then e else (at' l ((q : Int) - 1)).f0) l (l.length : Int) (q : Int) a b c d e g i j l m n p u v)) (allFrom (logAt e b l) q l.length && (inB d (d + (l.length : Int)) m && roleB a b c d g i l n p u v)) := by
  have hl := hz.l.1
  have key : ∀ f q, l.length - q = f → q ≤ l.length → allFrom (logAt e b l) 0 q = true →
    Ev (fun k => f67.D k (.l5 (if q = 0 then e else (at' l ((q : Int) - 1)).f0) l (l.length : Int) (q : Int) a b c d e g i j l m n p u v)) (allFrom (logAt e b l) q l.length && (inB d (d + (l.length : Int)) m && roleB a b c d g i l n p u v)) := by
    intro f
    induction f with
    | zero =>
      intro q h1 h2 h3
      obtain rfl : q = l.length := by omega
      have he := end_ev a b c d e g i j l m n p u v hz hd hn (conf_ok g i l hz.l hc (log_told h3) _ (Nat.le_refl _)) 0 (Nat.zero_le _)
      rw [allFrom_end _ (Nat.le_refl _), Bool.true_and, ← role_two a b c d g i l n p u v hn]
      refine Ev.round ?_
      simp only [f67.blk, PT.run, dite_eq_ite]
      refine Ev.neg (by omega) (Ev.bind (last_ev a b c d e g i j l m n p u v hd hl) (Ev.bind (in_ev _ _ _) (Ev.ite (fun h => ?_) (fun h => Ev.ret' (by simp [h])))))
      rw [h, Bool.true_and]
      unfold voidB
      refine Ev.ite (fun h4 => ?_) (fun h4 => ?_)
      · refine Ev.neg (by omega) (Ev.ite (fun h5 => Ev.ret' ?_) (fun h5 => ?_))
        · rw [decide_eq_true h4, decide_eq_false (p := n = 2) (by omega), decide_eq_false (p := v.length = 0) (by omega)]; rfl
        · rw [decide_eq_true h4, decide_eq_false (p := n = 2) (by omega), decide_eq_true (p := v.length = 0) (by omega)]
          exact he
      · refine Ev.ite (fun h5 => Ev.ret' ?_) (fun h5 => ?_)
        · rw [decide_eq_false h4, decide_eq_false (p := u.length = 0) (by omega)]; rfl
        · rw [decide_eq_false h4, decide_eq_true (p := u.length = 0) (by omega)]
          refine Ev.ite (fun h6 => ?_) (fun h6 => ?_)
          · rw [decide_eq_true h6]; exact he
          · rw [decide_eq_false h6]
            refine Ev.ite (fun h7 => Ev.ret' ?_) (fun h7 => ?_)
            · rw [decide_eq_false (p := v.length = 0) (by omega)]; rfl
            · rw [decide_eq_true (p := v.length = 0) (by omega)]
              exact he
    | succ f ih =>
      intro q h1 h2 h3
      have hq : q < l.length := by omega
      refine Ev.round ?_
      simp only [f67.blk, PT.run, dite_eq_ite]
      refine Ev.pos (by omega) (Ev.pos (by omega) (Ev.pos (by omega) (Ev.bind (isTold_ev _) ?_)))
      rw [allFrom_step _ hq]
      have hs : logAt e b l q = (toldB (at' l (q : Int)) && inB (if q = 0 then e else (at' l ((q : Int) - 1)).f0) b (at' l (q : Int)).f0) := rfl
      refine Ev.ite (fun h4 => ?_) (fun h4 => Ev.ret' (by rw [hs]; simp [h4]))
      refine Ev.bind (in_ev _ _ _) (Ev.ite (fun h5 => ?_) (fun h5 => Ev.ret' (by rw [hs]; simp [h5])))
      have h6 : logAt e b l q = true := by rw [hs, h4, h5]; rfl
      have hn := ih (q + 1) (by omega) (by omega) ((allFrom_iff _ _ _).2 fun x h7 h8 => by
        by_cases e1 : x = q
        · rw [e1]; exact h6
        · exact (allFrom_iff _ _ _).1 h3 x h7 (by omega))
      rw [if_neg (Nat.succ_ne_zero q), show ((q + 1 : Nat) : Int) - 1 = (q : Int) by omega, ← wr1 (by omega)] at hn
      rw [h6, Bool.true_and]
      exact hn
  exact fun q => key _ q rfl
theorem isNode_ev (hz : SzN g i j l u v) : Ev (fun k => f67 k a b c d e g i j l m n p u v) (nodeB a b c d e g i j l m n p u v) := by
  simp only [f67, f67.start, PT.run, dite_eq_ite]
  unfold nodeB headB
  refine Ev.bind (isNodeId_ev _) (Ev.ite (fun h1 => ?_) (fun h => Ev.ret' (by simp [h])))
  refine Ev.bind (isNumber_ev _) (Ev.ite (fun h2 => ?_) (fun h => Ev.ret' (by simp [h])))
  refine Ev.bind (isNumber_ev _) (Ev.ite (fun h3 => ?_) (fun h => Ev.ret' (by simp [h])))
  refine Ev.bind (in_ev _ _ _) (Ev.ite (fun h5 => ?_) (fun h => Ev.ret' (by simp [h])))
  refine Ev.bind (in_ev _ _ _) (Ev.ite (fun h6 => ?_) (fun h => Ev.ret' (by simp [h])))
  refine Ev.bind (isNumber_ev _) (Ev.ite (fun h4 => ?_) (fun h => Ev.ret' (by simp [h])))
  refine Ev.bind (isConf_ev g i (by have := hz.g; omega) (by have := hz.i; omega)) (Ev.ite (fun h7 => ?_) (fun h => Ev.ret' (by simp [h])))
  rw [h1, h2, h3, h4, h5, h6, h7]
  simp only [Bool.true_and]
  refine Ev.ite (fun h8 => Ev.ret' (by rw [decide_eq_false (p := l.length ≤ 500) (by omega), Bool.and_false]; rfl)) (fun h8 => ?_)
  rw [decide_eq_true (p := l.length ≤ 500) (by omega), Bool.and_true]
  refine Ev.ite (fun h9 => Ev.ret' (by rw [decide_eq_false (p := j.size ≤ 20000) (by omega)]; rfl)) (fun h9 => ?_)
  rw [decide_eq_true (p := j.size ≤ 20000) (by omega), Bool.true_and]
  have hd : 0 ≤ d ∧ d ≤ 1000000000000 := by
    unfold inB at h5
    simp only [Bool.and_eq_true, decide_eq_true_eq] at h5
    omega
  refine Ev.bind (in_ev _ _ _) (Ev.ite (fun h10 => ?_) (fun h => Ev.ret' (by rw [role_out a b c d g i l n p u v h]; simp)))
  have := impl_log a b c d e g i j l m n p u v hz hd h10 h7 0 (Nat.zero_le _) (allFrom_end _ (Nat.le_refl _))
  rw [if_pos rfl, Bool.and_left_comm] at this
  exact this
end
end Go.Proofs.YtmjmoagmolgacaaGreatDoor.P
namespace Go.Proofs.YtmjmoagmolgacaaGreatDoor.P
open Go Go.Proofs.YtmjmoagmolgacaaGreatDoor.PM Go.Proofs
open Go.Proofs.YtmjmoagmolgacaaGreatDoor.PN (PT)
def to_Entry (x : S124) : S81 := ⟨x.f0, x.f1, x.f2⟩
def to_Peer (x : S128) : S88 := ⟨x.f0, x.f1, x.f2⟩
theorem szInt64S_ev (l : List Int) (w : Int) (h0 : 0 ≤ w) (h1 : w ≤ 1048576) (hl : l.length ≤ maxLen) : ∃ r, Ev (fun k => f53 k l w) r ∧ (r < 0 ∨ (0 ≤ r ∧ r ≤ w ∧ l.length ≤ 1048576)) := by
  unfold maxLen at hl
  simp only [f53, f53.start, PT.run, dite_eq_ite]
  rw [wr (n := w - l.length) (by omega) (by omega)]
  by_cases h2 : w - l.length < 0
  · exact ⟨-1, Ev.pos h2 (Ev.ret _), .inl (by omega)⟩
  · exact ⟨_, Ev.neg h2 (Ev.ret _), .inr ⟨by omega, by omega, by omega⟩⟩
theorem szPeerS_ev (l : List S128) (w : Int) (h0 : 0 ≤ w) (h1 : w ≤ 1048576) (hl : l.length ≤ maxLen) : ∃ r, Ev (fun k => f54 k l w) r ∧ (r < 0 ∨ (0 ≤ r ∧ r ≤ w ∧ l.length ≤ 1048576)) := by
  unfold maxLen at hl
  simp only [f54, f54.start, PT.run, dite_eq_ite]
  rw [wr (n := w - l.length) (by omega) (by omega)]
  by_cases h2 : w - l.length < 0
  · exact ⟨-1, Ev.pos h2 (Ev.ret _), .inl (by omega)⟩
  · exact ⟨_, Ev.neg h2 (Ev.ret _), .inr ⟨by omega, by omega, by omega⟩⟩
theorem szConf_ev (x y : List Int) (w : Int) (h0 : 0 ≤ w) (h1 : w ≤ 1048576) (hx : x.length ≤ maxLen) (hy : y.length ≤ maxLen) : ∃ r, Ev (fun k => f51 k x y w) r ∧ (r < 0 ∨ (0 ≤ r ∧ r ≤ w ∧ x.length ≤ 1048576 ∧ y.length ≤ 1048576)) := by
  simp only [f51, f51.start, PT.run, dite_eq_ite]
  obtain ⟨r, hr, h⟩ := szInt64S_ev x w h0 h1 hx
  rcases h with h | ⟨r0, r1, r2⟩
  · exact ⟨-1, Ev.bind hr (Ev.pos h (Ev.ret _)), .inl (by omega)⟩
  obtain ⟨q, hq, h⟩ := szInt64S_ev y r r0 (by omega) hy
  rcases h with h | ⟨q0, q1, q2⟩
  · exact ⟨-1, Ev.bind hr (Ev.neg (by omega) (Ev.bind hq (Ev.pos h (Ev.ret _)))), .inl (by omega)⟩
  · exact ⟨q, Ev.bind hr (Ev.neg (by omega) (Ev.bind hq (Ev.neg (by omega) (Ev.ret _)))), .inr ⟨q0, by omega, r2, q2⟩⟩
theorem szEntry_ev (n m : Int) (y : ByteArray) (w : Int) (h0 : 0 ≤ w) (h1 : w ≤ 1048576) (hy : y.size ≤ maxLen) : ∃ r, Ev (fun k => f105 k n m y w) r ∧ (r < 0 ∨ (0 ≤ r ∧ r ≤ w ∧ y.size ≤ 1048576)) := by
  unfold maxLen at hy
  simp only [f105, f105.start, PT.run, dite_eq_ite]
  rw [wr (n := w - y.size) (by omega) (by omega)]
  by_cases h2 : w - y.size < 0
  · exact ⟨-1, Ev.pos h2 (Ev.ret _), .inl (by omega)⟩
  · exact ⟨_, Ev.neg h2 (Ev.ret _), .inr ⟨by omega, by omega, by omega⟩⟩
theorem szEntryS_loop (l : List S124) (hl : l.length ≤ 1048576) (hs : ∀ x ∈ l, x.f2.size ≤ maxLen) (d : Nat) : ∀ (i : Nat) (w : Int), l.length - i = d → i ≤ l.length → 0 ≤ w → w ≤ 1048576 →
    ∃ r, Ev (fun k => f52.D k (.l5 l w (i : Int))) r ∧ (r < 0 ∨ (0 ≤ r ∧ r ≤ w ∧ ∀ j (h : j < l.length), i ≤ j → l[j].f2.size ≤ 1048576)) := by
  induction d with
  | zero =>
    intro i w hd hi h0 h1
    refine ⟨w, Ev.round ?_, .inr ⟨h0, Int.le_refl _, fun j h1 h2 => by omega⟩⟩
    simp only [f52.blk, PT.run, dite_eq_ite]
    exact Ev.neg (by omega) (Ev.ret _)
  | succ d ih =>
    intro i w hd hi h0 h1
    have hlt : i < l.length := by omega
    obtain ⟨r, hr, h⟩ := szEntry_ev l[i].f0 l[i].f1 l[i].f2 w h0 h1 (hs _ (List.getElem_mem hlt))
    rw [← at_nat l i hlt] at hr
    rcases h with h | ⟨r0, r1, r2⟩
    · refine ⟨-1, Ev.round ?_, .inl (by omega)⟩
      simp only [f52.blk, PT.run, dite_eq_ite]
      exact Ev.pos (by omega) (Ev.pos (by omega) (Ev.bind hr (Ev.pos h (Ev.ret _))))
    · obtain ⟨q, hq, h⟩ := ih (i + 1) r (by omega) (by omega) r0 (by omega)
      rw [← wr1 (by omega)] at hq
      refine ⟨q, Ev.round ?_, h.imp_right fun ⟨q0, q1, q2⟩ => ⟨q0, by omega, fun j h3 h4 => ?_⟩⟩
      · simp only [f52.blk, PT.run, dite_eq_ite]
        exact Ev.pos (by omega) (Ev.pos (by omega) (Ev.bind hr (Ev.neg (by omega) hq)))
      · rcases Nat.lt_or_ge i j with h5 | h5
        · exact q2 j h3 h5
        · obtain rfl : i = j := by omega
          exact r2
theorem szEntryS_ev (l : List S124) (w : Int) (h0 : 0 ≤ w) (h1 : w ≤ 1048576) (hl : l.length ≤ maxLen) (hs : ∀ x ∈ l, x.f2.size ≤ maxLen) :
    ∃ r, Ev (fun k => f52 k l w) r ∧ (r < 0 ∨ (0 ≤ r ∧ r ≤ w ∧ l.length ≤ 1048576 ∧ ∀ x ∈ l, x.f2.size ≤ 1048576)) := by
  unfold maxLen at hl
  simp only [f52, f52.start, PT.run, dite_eq_ite]
  rw [wr (n := w - l.length) (by omega) (by omega)]
  by_cases h2 : w - l.length < 0
  · exact ⟨-1, Ev.pos h2 (Ev.ret _), .inl (by omega)⟩
  · obtain ⟨r, hr, h⟩ := szEntryS_loop l (by omega) hs _ 0 (w - l.length) rfl (Nat.zero_le _) (by omega) (by omega)
    refine ⟨r, Ev.neg h2 hr, h.imp_right fun ⟨q0, q1, q2⟩ => ⟨q0, by omega, by omega, fun x hx => ?_⟩⟩
    obtain ⟨j, hj, rfl⟩ := List.getElem_of_mem hx
    exact q2 j hj (Nat.zero_le _)
structure OkN (g i : List Int) (j : ByteArray) (l : List S124) (u : List Int) (v : List S128) : Prop where
  g : g.length ≤ maxLen
  i : i.length ≤ maxLen
  j : j.size ≤ maxLen
  l : l.length ≤ maxLen ∧ ∀ x ∈ l, x.f2.size ≤ maxLen
  u : u.length ≤ maxLen
  v : v.length ≤ maxLen
section
variable (a b c d e : Int) (g i : List Int) (j : ByteArray) (l : List S124) (m n p : Int) (u : List Int) (v : List S128)
theorem szNode_ev (w : Int) (h0 : 0 ≤ w) (h1 : w ≤ 1048576) (ho : OkN g i j l u v) : ∃ r, Ev (fun k => f17 k a b c d e g i j l m n p u v w) r ∧ (r < 0 ∨ (0 ≤ r ∧ r ≤ w ∧ SzN g i j (l.map to_Entry) u (v.map to_Peer))) := by
  simp only [f17, f17.start, PT.run, dite_eq_ite]
  have hj := ho.j
  unfold maxLen at hj
  obtain ⟨r, hr, h⟩ := szConf_ev g i w h0 h1 ho.g ho.i
  rcases h with h | ⟨r0, r1, r2, r3⟩
  · exact ⟨-1, Ev.bind hr (Ev.pos h (Ev.ret _)), .inl (by omega)⟩
  by_cases h2 : r - j.size < 0
  · refine ⟨-1, Ev.bind hr (Ev.neg (by omega) (Ev.pos ?_ (Ev.ret _))), .inl (by omega)⟩
    rw [wr (by omega) (by omega)]; exact h2
  obtain ⟨q, hq, h⟩ := szEntryS_ev l (r - j.size) (by omega) (by omega) ho.l.1 ho.l.2
  rw [← wr (n := r - j.size) (by omega) (by omega)] at hq
  have e2 : ¬ IntKind.i64.wrap (r - j.size) < 0 := by rw [wr (by omega) (by omega)]; exact h2
  rcases h with h | ⟨q0, q1, q2, q3⟩
  · exact ⟨-1, Ev.bind hr (Ev.neg (by omega) (Ev.neg e2 (Ev.bind hq (Ev.pos h (Ev.ret _))))), .inl (by omega)⟩
  obtain ⟨s, hs, h⟩ := szInt64S_ev u q q0 (by omega) ho.u
  rcases h with h | ⟨s0, s1, s2⟩
  · exact ⟨-1, Ev.bind hr (Ev.neg (by omega) (Ev.neg e2 (Ev.bind hq (Ev.neg (by omega) (Ev.bind hs (Ev.pos h (Ev.ret _))))))), .inl (by omega)⟩
  obtain ⟨t, ht, h⟩ := szPeerS_ev v s s0 (by omega) ho.v
  rcases h with h | ⟨t0, t1, t2⟩
  · exact ⟨-1, Ev.bind hr (Ev.neg (by omega) (Ev.neg e2 (Ev.bind hq (Ev.neg (by omega) (Ev.bind hs (Ev.neg (by omega) (Ev.bind ht (Ev.pos h (Ev.ret _))))))))), .inl (by omega)⟩
  · refine ⟨t, Ev.bind hr (Ev.neg (by omega) (Ev.neg e2 (Ev.bind hq (Ev.neg (by omega) (Ev.bind hs (Ev.neg (by omega) (Ev.bind ht (Ev.neg (by omega) (Ev.ret _))))))))), .inr ⟨t0, by omega, ?_⟩⟩
    refine ⟨r2, r3, by omega, ⟨by rw [List.length_map]; exact q2, fun x hx => ?_⟩, s2, by rw [List.length_map]; exact t2⟩
    rw [List.length_map] at hx
    rw [at_nat _ x (by rw [List.length_map]; exact hx), List.getElem_map]
    exact q3 _ (List.getElem_mem hx)
end
theorem toInt64S_ev (l : List Int) (hl : l.length ≤ 1048576) : Ev (fun k => f65 k l) l := by
  have key : ∀ i, i ≤ l.length → Ev (fun k => f65.D k (.l3 (l.take i ++ List.replicate (l.length - i) 0) l (i : Int))) l := by
    refine scan fun i hi ih => ?_
    simp only [f65.blk, PT.run, dite_eq_ite]
    refine Ev.ite (fun h => ?_) (fun h => Ev.ret' (fill_end 0 l i (by omega)))
    have ih := ih (by omega)
    rw [← fillL_step 0 l i (by omega), ← wr1 (by omega)] at ih
    refine Ev.pos (by omega) (Ev.pos (by rw [fill_length 0 l i hi]; omega) ?_)
    rw [Int.toNat_natCast, at_nat l i (by omega)]
    exact ih
  simp only [f65, f65.start, PT.run, dite_eq_ite]
  refine Ev.pos (by omega) ?_
  simpa using key 0 (Nat.zero_le _)
theorem toConf_ev (x y : List Int) (hx : x.length ≤ 1048576) (hy : y.length ≤ 1048576) : Ev (fun k => f63 k x y) (x, y) := by
  simp only [f63, f63.start, PT.run]
  exact Ev.bind (toInt64S_ev x hx) (Ev.bind (toInt64S_ev y hy) (Ev.ret _))
theorem toEntryS_ev (l : List S124) (hl : l.length ≤ 1048576) : Ev (fun k => f64 k l) (l.map to_Entry) := by
  have hm : (l.map to_Entry).length = l.length := List.length_map ..
  have key : ∀ i, i ≤ l.length → Ev (fun k => f64.D k (.l3 ((l.map to_Entry).take i ++ List.replicate ((l.map to_Entry).length - i) ⟨0, 0, ⟨#[]⟩⟩) l (i : Int))) (l.map to_Entry) := by
    refine scan fun i hi ih => ?_
    simp only [f64.blk, PT.run, dite_eq_ite]
    refine Ev.ite (fun h => ?_) (fun h => Ev.ret' (fill_end _ _ i (by omega)))
    have ih := ih (by omega)
    rw [← fillL_step _ (l.map to_Entry) i (by omega), ← wr1 (by omega)] at ih
    refine Ev.pos (by omega) (Ev.bind (a := ((at' l (i : Int)).f0, (at' l (i : Int)).f1, (at' l (i : Int)).f2)) (by simp only [f111, f111.start, PT.run]; exact Ev.ret _) (Ev.pos (by rw [fill_length _ (l.map to_Entry) i (by omega)]; omega) ?_))
    rw [Int.toNat_natCast, at_nat l i (by omega)]
    rw [List.getElem_map] at ih
    exact ih
  simp only [f64, f64.start, PT.run, dite_eq_ite]
  refine Ev.pos (by omega) ?_
  simpa using key 0 (Nat.zero_le _)
theorem toPeerS_ev (l : List S128) (hl : l.length ≤ 1048576) : Ev (fun k => f66 k l) (l.map to_Peer) := by
  have hm : (l.map to_Peer).length = l.length := List.length_map ..
  have key : ∀ i, i ≤ l.length → Ev (fun k => f66.D k (.l3 ((l.map to_Peer).take i ++ List.replicate ((l.map to_Peer).length - i) ⟨0, 0, 0⟩) l (i : Int))) (l.map to_Peer) := by
    refine scan fun i hi ih => ?_
    simp only [f66.blk, PT.run, dite_eq_ite]
    refine Ev.ite (fun h => ?_) (fun h => Ev.ret' (fill_end _ _ i (by omega)))
    have ih := ih (by omega)
    rw [← fillL_step _ (l.map to_Peer) i (by omega), ← wr1 (by omega)] at ih
    refine Ev.pos (by omega) (Ev.bind (a := ((at' l (i : Int)).f0, (at' l (i : Int)).f1, (at' l (i : Int)).f2)) (by simp only [f112, f112.start, PT.run]; exact Ev.ret _) (Ev.pos (by rw [fill_length _ (l.map to_Peer) i (by omega)]; omega) ?_))
    rw [Int.toNat_natCast, at_nat l i (by omega)]
    rw [List.getElem_map] at ih
    exact ih
  simp only [f66, f66.start, PT.run, dite_eq_ite]
  refine Ev.pos (by omega) ?_
  simpa using key 0 (Nat.zero_le _)
theorem toNode_ev (a b c d e : Int) (g i : List Int) (j : ByteArray) (l : List S124) (m n p : Int) (u : List Int) (v : List S128) (hz : SzN g i j (l.map to_Entry) u (v.map to_Peer)) :
    Ev (fun k => f19 k a b c d e g i j l m n p u v) (a, b, c, d, e, j, m, n, p, g, i, l.map to_Entry, u, v.map to_Peer) := by
  have h1 := hz.l.1
  have h2 := hz.v
  rw [List.length_map] at h1 h2
  simp only [f19, f19.start, PT.run]
  exact Ev.bind (toConf_ev g i hz.g hz.i) (Ev.bind (toEntryS_ev l h1) (Ev.bind (toInt64S_ev u hz.u) (Ev.bind (toPeerS_ev v h2) (Ev.ret _))))
theorem eqInt64S_ev (l : List Int) (hl : l.length ≤ 1048576) : Ev (fun k => f78 k l l) true := by
  have key : ∀ i, i ≤ l.length → Ev (fun k => f78.D k (.l4 l l (i : Int))) true := by
    refine scan fun i hi ih => ?_
    simp only [f78.blk, PT.run, dite_eq_ite]
    refine Ev.ite (fun h => ?_) (fun h => Ev.ret _)
    have ih := ih (by omega)
    rw [← wr1 (by omega)] at ih
    exact Ev.pos (by omega) (Ev.pos (by omega) (Ev.pos (by simp) ih))
  simp only [f78, f78.start, PT.run, dite_eq_ite]
  exact Ev.pos (by simp) (key 0 (Nat.zero_le _))
theorem eqConf_ev (x y : List Int) (hx : x.length ≤ 1048576) (hy : y.length ≤ 1048576) : Ev (fun k => f76 k x y x y) true := by
  simp only [f76, f76.start, PT.run, dite_eq_ite]
  exact Ev.bind (eqInt64S_ev x hx) (Ev.pos (by simp) (Ev.bind (eqInt64S_ev y hy) (Ev.pos (by simp) (Ev.ret _))))
theorem eqEntry_ev (x y : Int) (z : ByteArray) : Ev (fun k => f120 k x y z x y z) true := by
  simp only [f120, f120.start, PT.run, dite_eq_ite]
  exact Ev.pos (by simp) (Ev.pos (by simp) (Ev.pos (strEq_self _) (Ev.ret _)))
theorem eqEntryS_ev (l : List S81) (hl : l.length ≤ 1048576) : Ev (fun k => f77 k l l) true := by
  have key : ∀ i, i ≤ l.length → Ev (fun k => f77.D k (.l4 l l (i : Int))) true := by
    refine scan fun i hi ih => ?_
    simp only [f77.blk, PT.run, dite_eq_ite]
    refine Ev.ite (fun h => ?_) (fun h => Ev.ret _)
    have ih := ih (by omega)
    rw [← wr1 (by omega)] at ih
    exact Ev.pos (by omega) (Ev.pos (by omega) (Ev.bind (eqEntry_ev _ _ _) (Ev.pos (by simp) ih)))
  simp only [f77, f77.start, PT.run, dite_eq_ite]
  exact Ev.pos (by simp) (key 0 (Nat.zero_le _))
theorem eqPeerS_ev (l : List S88) (hl : l.length ≤ 1048576) : Ev (fun k => f79 k l l) true := by
  have key : ∀ i, i ≤ l.length → Ev (fun k => f79.D k (.l4 l l (i : Int))) true := by
    refine scan fun i hi ih => ?_
    simp only [f79.blk, PT.run, dite_eq_ite]
    refine Ev.ite (fun h => ?_) (fun h => Ev.ret _)
    have ih := ih (by omega)
    rw [← wr1 (by omega)] at ih
    refine Ev.pos (by omega) (Ev.pos (by omega) (Ev.bind (a := true) ?_ (Ev.pos (by simp) ih)))
    simp only [f121, f121.start, PT.run, dite_eq_ite]
    exact Ev.pos (by simp) (Ev.pos (by simp) (Ev.pos (by simp) (Ev.ret _)))
  simp only [f79, f79.start, PT.run, dite_eq_ite]
  exact Ev.pos (by simp) (key 0 (Nat.zero_le _))
theorem eqNode_ev (a b c d e : Int) (g i : List Int) (j : ByteArray) (l : List S81) (m n p : Int) (u : List Int) (v : List S88) (hz : SzN g i j l u v) : Ev (fun k => f21 k a b c d e g i j l m n p u v a b c d e g i j l m n p u v) true := by
  simp only [f21, f21.start, PT.run, dite_eq_ite]
  exact Ev.pos (by simp) (Ev.pos (by simp) (Ev.pos (by simp) (Ev.pos (by simp) (Ev.pos (by simp) (Ev.bind (eqConf_ev g i hz.g hz.i) (Ev.pos (by simp) (Ev.pos (strEq_self _) (Ev.bind (eqEntryS_ev l hz.l.1) (Ev.pos (by simp) (Ev.pos (by simp) (Ev.pos (by simp) (Ev.pos (by simp) (Ev.bind (eqInt64S_ev u hz.u) (Ev.pos (by simp) (Ev.bind (eqPeerS_ev v hz.v) (Ev.pos (by simp) (Ev.ret _)))))))))))))))))
end Go.Proofs.YtmjmoagmolgacaaGreatDoor.P
namespace Go.Proofs.YtmjmoagmolgacaaGreatDoor.P
open Go Go.Proofs.YtmjmoagmolgacaaGreatDoor.PM Go.Proofs
open Go.Proofs.YtmjmoagmolgacaaGreatDoor.PN (PT)
structure NodeF (d : Int) (l : List S81) (m : Int) : Prop where
  d0 : 0 ≤ d
  d1 : d ≤ 999999999500
  hl : l.length ≤ 500
  m0 : d ≤ m
  m1 : m ≤ d + l.length
section
variable (a b c d e : Int) (g i : List Int) (j : ByteArray) (l : List S81) (m n p : Int) (u : List Int) (v : List S88)
theorem nodeF (h : nodeB a b c d e g i j l m n p u v = true) : NodeF d l m := by
  unfold nodeB headB inB at h
  simp only [Bool.and_eq_true, decide_eq_true_eq] at h
  obtain ⟨⟨_, _, _, _, h5, _, _, _, h9⟩, h10, _⟩ := h
  exact ⟨h5.1, h5.2, h9, h10.1, h10.2⟩
def tmV (d e : Int) (l : List S81) (w : Int) : Int := if w = d then e else (at' l (w - d - 1)).f0
theorem l10Term_ev (hl : l.length ≤ 1048576) (hd : 0 ≤ d ∧ d ≤ 1000000000000) (w : Int) (h0 : d ≤ w) (h1 : w ≤ d + l.length) : Ev (fun k => f108 k a b c d e g i j l m n p u v w) (tmV d e l w) := by
  simp only [f108, f108.start, PT.run, dite_eq_ite, PN.bindH_eq]
  unfold tmV
  refine Ev.ite (fun h => Ev.ret' (by rw [if_pos h])) (fun h => ?_)
  rw [if_neg h, wr (n := w - d) (by omega) (by omega), wr (n := w - d - 1) (by omega) (by omega)]
  exact Ev.neg (by omega) (Ev.bind (l10Last_ev a b c d e g i j l m n p u v hd hl) (Ev.neg (by omega) (Ev.pos (by omega) (Ev.pos (by omega) (Ev.ret _)))))
theorem termAt_ev (hl : l.length ≤ 1048576) (hd : 0 ≤ d ∧ d ≤ 1000000000000) (w : Int) (h0 : d ≤ w) (h1 : w ≤ d + l.length) : Ev (fun k => f116 k a b c d e g i j l m n p u v w) (tmV d e l w) := by
  simp only [f116, f116.start, PT.run, dite_eq_ite, PN.bindH_eq]
  unfold tmV
  refine Ev.ite (fun h => Ev.ret' (by rw [if_pos h])) (fun h => ?_)
  rw [if_neg h, wr (n := w - d) (by omega) (by omega), wr (n := w - d - 1) (by omega) (by omega)]
  exact Ev.pos (by omega) (Ev.pos (by omega) (Ev.ret _))
end
end Go.Proofs.YtmjmoagmolgacaaGreatDoor.P
namespace Go.Proofs.YtmjmoagmolgacaaGreatDoor.P
open Go Go.Proofs.YtmjmoagmolgacaaGreatDoor.PM Go.Proofs
open Go.Proofs.YtmjmoagmolgacaaGreatDoor.PN (PT)
theorem markText_loop (d : Nat) : ∀ (x : Int) (s : ByteArray), 0 ≤ x → x ≤ 9223372036854775807 → x < 10 ^ d → s.size + d ≤ 1000 → ∃ t, Ev (fun k => f122.D k (.l4 x s)) t := by
  induction d with
  | zero =>
    intro x s h0 hm h1 h2
    refine ⟨(⟨#[109]⟩ : ByteArray) ++ s, Ev.round ?_⟩
    · simp only [f122.blk, PT.run, dite_eq_ite]
      exact Ev.neg (by omega) (Ev.pos (by rw [show (⟨#[109]⟩ : ByteArray).size = 1 from rfl]; omega) (Ev.ret _))
  | succ d ih =>
    intro x s h0 hm h1 h2
    by_cases hx : 0 < x
    · have e : x.tdiv 10 = x / 10 := Int.tdiv_eq_ediv_of_nonneg h0
      have hb : x / 10 < 10 ^ d := by
        have : (10 : Int) ^ (d + 1) = 10 ^ d * 10 := Int.pow_succ 10 d
        omega
      have hw : IntKind.i64.wrap (x.tdiv 10) = x / 10 := by rw [e, wr (by omega) (by omega)]
      have h3 : (strOf ([(IntKind.u8.wrap (IntKind.i64.wrap (48 + (x.tmod 10))))] : List Int)).size = 1 := rfl
      obtain ⟨t, ht⟩ := ih (x / 10) (strOf ([(IntKind.u8.wrap (IntKind.i64.wrap (48 + (x.tmod 10))))] : List Int) ++ s) (by omega) (by omega) hb (by rw [ByteArray.size_append, h3]; omega)
      refine ⟨t, Ev.round ?_⟩
      simp only [f122.blk, PT.run, dite_eq_ite]
      rw [hw]
      exact Ev.pos hx (Ev.pos (by omega) ht)
    · refine ⟨(⟨#[109]⟩ : ByteArray) ++ s, Ev.round ?_⟩
      · simp only [f122.blk, PT.run, dite_eq_ite]
        exact Ev.neg hx (Ev.pos (by rw [show (⟨#[109]⟩ : ByteArray).size = 1 from rfl]; omega) (Ev.ret _))
theorem markText_any (x : Int) (h0 : 0 ≤ x) (h1 : x ≤ 9223372036854775807) : ∃ t, Ev (fun k => f122 k x) t := by
  simp only [f122, f122.start, PT.run, dite_eq_ite]
  by_cases h : x ≤ 0
  · exact ⟨_, Ev.pos h (Ev.ret _)⟩
  · obtain ⟨t, ht⟩ := markText_loop 19 x (⟨#[]⟩ : ByteArray) h0 h1 (by omega) (by decide)
    exact ⟨t, Ev.neg h ht⟩
noncomputable def mt (x : Int) : ByteArray := by
  classical
  exact if h : ∃ t, Ev (fun k => f122 k x) t then h.choose else default
theorem mt_ev (x : Int) (h0 : 0 ≤ x) (h1 : x ≤ 9223372036854775807) : Ev (fun k => f122 k x) (mt x) := by
  have h := markText_any x h0 h1
  unfold mt
  rw [dif_pos h]
  exact h.choose_spec
def mkI (a : Int) : Nat → List Int
  | 0 => []
  | n + 1 => a :: mkI (a + 1) n
def mkP (a : Int) : Nat → List S88
  | 0 => []
  | n + 1 => ⟨a, a + 1, a + 2⟩ :: mkP (a + 3) n
noncomputable def mkE (a : Int) : Nat → List S81
  | 0 => []
  | n + 1 => ⟨a, a + 1, mt (a + 2)⟩ :: mkE (a + 3) n
theorem mkI_len : ∀ (n : Nat) (a : Int), (mkI a n).length = n
  | 0, _ => rfl
  | n + 1, a => by rw [mkI, List.length_cons, mkI_len n]
theorem mkP_len : ∀ (n : Nat) (a : Int), (mkP a n).length = n
  | 0, _ => rfl
  | n + 1, a => by rw [mkP, List.length_cons, mkP_len n]
theorem mkE_len : ∀ (n : Nat) (a : Int), (mkE a n).length = n
  | 0, _ => rfl
  | n + 1, a => by rw [mkE, List.length_cons, mkE_len n]
theorem set_mid {α : Type} (p : List α) (x y : α) (r : List α) : (p ++ x :: r).set p.length y = p ++ y :: r := by
  rw [List.set_append_right _ _ (Nat.le_refl _), Nat.sub_self, List.set_cons_zero]
theorem at_mid {α : Type} [Inhabited α] (p : List α) (x : α) (r : List α) : at' (p ++ x :: r) (p.length : Int) = x := by
  rw [at_nat _ _ (by simp), List.getElem_append_right (Nat.le_refl _)]
  simp
theorem w3 {a : Int} (h0 : 0 ≤ a) (h1 : a ≤ 4611686018427387904) : IntKind.i64.wrap (a + 1) = a + 1 ∧ IntKind.i64.wrap (a + 1 + 1) = a + 2 ∧ IntKind.i64.wrap (a + 2 + 1) = a + 3 :=
  ⟨wr (by omega) (by omega), by rw [wr (by omega) (by omega)]; omega, by rw [wr (by omega) (by omega)]; omega⟩
theorem markI_loop : ∀ (r p : List Int) (a : Int), 0 ≤ a → a + r.length ≤ 4611686018427387904 → p.length + r.length ≤ 1073741824 → Ev (fun k => f82.D k (.l2 (p ++ r) a (p.length : Int))) (a + r.length, p ++ mkI a r.length)
  | [], p, a, h0, h1, h2 => by
    refine Ev.round ?_
    simp only [f82.blk, PT.run, dite_eq_ite]
    exact Ev.neg (by simp) (Ev.ret' (by simp [mkI]))
  | x :: r, p, a, h0, h1, h2 => by
    rw [List.length_cons] at h1 h2
    refine Ev.round ?_
    simp only [f82.blk, PT.run, dite_eq_ite]
    refine Ev.pos (by rw [List.length_append, List.length_cons]; omega) (Ev.pos (by omega) ?_)
    rw [(w3 h0 (by omega)).1, wr (n := (p.length : Int) + 1) (by omega) (by omega), Int.toNat_natCast, set_mid]
    have ih := markI_loop r (p ++ [a]) (a + 1) (by omega) (by omega) (by rw [List.length_append]; simp; omega)
    rw [List.append_assoc, List.singleton_append, List.length_append, List.length_singleton, show ((p.length + 1 : Nat) : Int) = (p.length : Int) + 1 by omega] at ih
    refine ih.eq ?_
    rw [List.length_cons, mkI, List.append_assoc]
    simp only [Prod.mk.injEq, List.singleton_append, and_true]
    omega
theorem markI_ev (l : List Int) (a : Int) (h0 : 0 ≤ a) (h1 : a + l.length ≤ 4611686018427387904) (h2 : l.length ≤ 1073741824) : Ev (fun k => f82 k a l) (a + l.length, mkI a l.length) := by
  simp only [f82, f82.start, PT.run]
  exact markI_loop l [] a h0 h1 (by simpa using h2)
theorem markE_loop : ∀ (r p : List S81) (a : Int), 0 ≤ a → a + 3 * r.length ≤ 4611686018427387904 → p.length + r.length ≤ 1073741824 → Ev (fun k => f81.D k (.l2 (p ++ r) a (p.length : Int))) (a + 3 * r.length, p ++ mkE a r.length)
  | [], p, a, h0, h1, h2 => by
    refine Ev.round ?_
    simp only [f81.blk, PT.run, dite_eq_ite]
    exact Ev.neg (by simp) (Ev.ret' (by simp [mkE]))
  | x :: r, p, a, h0, h1, h2 => by
    rw [List.length_cons] at h1 h2
    refine Ev.round ?_
    simp only [f81.blk, PT.run, dite_eq_ite]
    refine Ev.pos (by rw [List.length_append, List.length_cons]; omega) (Ev.pos (by omega) ?_)
    obtain ⟨e1, e2, e3⟩ := w3 h0 (by omega)
    rw [e1, e2, e3, wr (n := (p.length : Int) + 1) (by omega) (by omega), Int.toNat_natCast]
    refine Ev.bind (mt_ev (a + 2) (by omega) (by omega)) ?_
    rw [set_mid]
    have ih := markE_loop r (p ++ [⟨a, a + 1, mt (a + 2)⟩]) (a + 3) (by omega) (by omega) (by rw [List.length_append]; simp; omega)
    rw [List.append_assoc, List.singleton_append, List.length_append, List.length_singleton, show ((p.length + 1 : Nat) : Int) = (p.length : Int) + 1 by omega] at ih
    refine ih.eq ?_
    rw [List.length_cons, mkE, List.append_assoc]
    simp only [Prod.mk.injEq, List.singleton_append, and_true]
    omega
theorem markE_ev (l : List S81) (a : Int) (h0 : 0 ≤ a) (h1 : a + 3 * l.length ≤ 4611686018427387904) (h2 : l.length ≤ 1073741824) : Ev (fun k => f81 k a l) (a + 3 * l.length, mkE a l.length) := by
  simp only [f81, f81.start, PT.run]
  exact markE_loop l [] a h0 h1 (by simpa using h2)
theorem markP_loop : ∀ (r p : List S88) (a : Int), 0 ≤ a → a + 3 * r.length ≤ 4611686018427387904 → p.length + r.length ≤ 1073741824 → Ev (fun k => f83.D k (.l2 (p ++ r) a (p.length : Int))) (a + 3 * r.length, p ++ mkP a r.length)
  | [], p, a, h0, h1, h2 => by
    refine Ev.round ?_
    simp only [f83.blk, PT.run, dite_eq_ite]
    exact Ev.neg (by simp) (Ev.ret' (by simp [mkP]))
  | x :: r, p, a, h0, h1, h2 => by
    rw [List.length_cons] at h1 h2
    refine Ev.round ?_
    simp only [f83.blk, PT.run, dite_eq_ite]
    refine Ev.pos (by rw [List.length_append, List.length_cons]; omega) (Ev.pos (by omega) ?_)
    obtain ⟨e1, e2, e3⟩ := w3 h0 (by omega)
    rw [e1, e2, e3, wr (n := (p.length : Int) + 1) (by omega) (by omega), Int.toNat_natCast, set_mid]
    have ih := markP_loop r (p ++ [⟨a, a + 1, a + 2⟩]) (a + 3) (by omega) (by omega) (by rw [List.length_append]; simp; omega)
    rw [List.append_assoc, List.singleton_append, List.length_append, List.length_singleton, show ((p.length + 1 : Nat) : Int) = (p.length : Int) + 1 by omega] at ih
    refine ih.eq ?_
    rw [List.length_cons, mkP, List.append_assoc]
    simp only [Prod.mk.injEq, List.singleton_append, and_true]
    omega
theorem markP_ev (l : List S88) (a : Int) (h0 : 0 ≤ a) (h1 : a + 3 * l.length ≤ 4611686018427387904) (h2 : l.length ≤ 1073741824) : Ev (fun k => f83 k a l) (a + 3 * l.length, mkP a l.length) := by
  simp only [f83, f83.start, PT.run]
  exact markP_loop l [] a h0 h1 (by simpa using h2)
theorem heldI_loop : ∀ (n : Nat) (p : List Int) (a : Int), 0 ≤ a → a + n ≤ 4611686018427387904 → p.length + n ≤ 1073741824 → Ev (fun k => f86.D k (.l2 (p ++ mkI a n) a (p.length : Int))) (a + n)
  | 0, p, a, h0, h1, h2 => by
    refine Ev.round ?_
    simp only [f86.blk, PT.run, dite_eq_ite]
    exact Ev.neg (by simp [mkI]) (Ev.ret' (by simp))
  | n + 1, p, a, h0, h1, h2 => by
    refine Ev.round ?_
    simp only [f86.blk, PT.run, dite_eq_ite]
    refine Ev.pos (by rw [List.length_append, mkI_len]; omega) (Ev.pos (by omega) ?_)
    rw [mkI, at_mid, (w3 h0 (by omega)).1, wr (n := (p.length : Int) + 1) (by omega) (by omega)]
    have ih := heldI_loop n (p ++ [a]) (a + 1) (by omega) (by omega) (by rw [List.length_append]; simp; omega)
    rw [List.append_assoc, List.singleton_append, List.length_append, List.length_singleton, show ((p.length + 1 : Nat) : Int) = (p.length : Int) + 1 by omega] at ih
    exact Ev.pos rfl (ih.eq (by omega))
theorem heldI_ev (n : Nat) (a : Int) (h0 : 0 ≤ a) (h1 : a + n ≤ 4611686018427387904) (h2 : n ≤ 1073741824) : Ev (fun k => f86 k (mkI a n) a) (a + n) := by
  simp only [f86, f86.start, PT.run]
  exact heldI_loop n [] a h0 h1 (by simpa using h2)
theorem heldE_loop : ∀ (n : Nat) (p : List S81) (a : Int), 0 ≤ a → a + 3 * n ≤ 4611686018427387904 → p.length + n ≤ 1073741824 → Ev (fun k => f85.D k (.l2 (p ++ mkE a n) a (p.length : Int))) (a + 3 * n)
  | 0, p, a, h0, h1, h2 => by
    refine Ev.round ?_
    simp only [f85.blk, PT.run, dite_eq_ite]
    exact Ev.neg (by simp [mkE]) (Ev.ret' (by simp))
  | n + 1, p, a, h0, h1, h2 => by
    refine Ev.round ?_
    simp only [f85.blk, PT.run, dite_eq_ite]
    refine Ev.pos (by rw [List.length_append, mkE_len]; omega) (Ev.pos (by omega) ?_)
    obtain ⟨e1, e2, e3⟩ := w3 h0 (by omega)
    rw [mkE, at_mid, e1, e2, e3, wr (n := (p.length : Int) + 1) (by omega) (by omega)]
    have ih := heldE_loop n (p ++ [⟨a, a + 1, mt (a + 2)⟩]) (a + 3) (by omega) (by omega) (by rw [List.length_append]; simp; omega)
    rw [List.append_assoc, List.singleton_append, List.length_append, List.length_singleton, show ((p.length + 1 : Nat) : Int) = (p.length : Int) + 1 by omega] at ih
    exact Ev.pos rfl (Ev.pos rfl (Ev.bind (mt_ev (a + 2) (by omega) (by omega)) (Ev.pos (strEq_self _) (ih.eq (by omega)))))
theorem heldE_ev (n : Nat) (a : Int) (h0 : 0 ≤ a) (h1 : a + 3 * n ≤ 4611686018427387904) (h2 : n ≤ 1073741824) : Ev (fun k => f85 k (mkE a n) a) (a + 3 * n) := by
  simp only [f85, f85.start, PT.run]
  exact heldE_loop n [] a h0 h1 (by simpa using h2)
theorem heldP_loop : ∀ (n : Nat) (p : List S88) (a : Int), 0 ≤ a → a + 3 * n ≤ 4611686018427387904 → p.length + n ≤ 1073741824 → Ev (fun k => f87.D k (.l2 (p ++ mkP a n) a (p.length : Int))) (a + 3 * n)
  | 0, p, a, h0, h1, h2 => by
    refine Ev.round ?_
    simp only [f87.blk, PT.run, dite_eq_ite]
    exact Ev.neg (by simp [mkP]) (Ev.ret' (by simp))
  | n + 1, p, a, h0, h1, h2 => by
    refine Ev.round ?_
    simp only [f87.blk, PT.run, dite_eq_ite]
    refine Ev.pos (by rw [List.length_append, mkP_len]; omega) (Ev.pos (by omega) ?_)
    obtain ⟨e1, e2, e3⟩ := w3 h0 (by omega)
    rw [mkP, at_mid, e1, e2, e3, wr (n := (p.length : Int) + 1) (by omega) (by omega)]
    have ih := heldP_loop n (p ++ [⟨a, a + 1, a + 2⟩]) (a + 3) (by omega) (by omega) (by rw [List.length_append]; simp; omega)
    rw [List.append_assoc, List.singleton_append, List.length_append, List.length_singleton, show ((p.length + 1 : Nat) : Int) = (p.length : Int) + 1 by omega] at ih
    exact Ev.pos rfl (Ev.pos rfl (Ev.pos rfl (ih.eq (by omega))))
theorem heldP_ev (n : Nat) (a : Int) (h0 : 0 ≤ a) (h1 : a + 3 * n ≤ 4611686018427387904) (h2 : n ≤ 1073741824) : Ev (fun k => f87 k (mkP a n) a) (a + 3 * n) := by
  simp only [f87, f87.start, PT.run]
  exact heldP_loop n [] a h0 h1 (by simpa using h2)
theorem markC_ev (x y : List Int) (hx : x.length ≤ 1048576) (hy : y.length ≤ 1048576) (a : Int) (h0 : 0 ≤ a) (h1 : a ≤ 1073741824) : Ev (fun k => f80 k a x y) (a + x.length + y.length, mkI a x.length, mkI (a + x.length) y.length) := by
  simp only [f80, f80.start, PT.run, PN.bindH_eq]
  exact Ev.bind (markI_ev x a h0 (by omega) (by omega)) (Ev.bind (markI_ev y _ (by omega) (by omega) (by omega)) (Ev.ret _))
theorem heldC_ev (n o : Nat) (hx : n ≤ 1048576) (hy : o ≤ 1048576) (a : Int) (h0 : 0 ≤ a) (h1 : a ≤ 1073741824) : Ev (fun k => f84 k (mkI a n) (mkI (a + n) o) a) (a + n + o) := by
  simp only [f84, f84.start, PT.run, dite_eq_ite, PN.bindH_eq]
  exact Ev.bind (heldI_ev n a h0 (by omega) (by omega)) (Ev.neg (by omega) (Ev.bind (heldI_ev o _ (by omega) (by omega) (by omega)) (Ev.neg (by omega) (Ev.ret _))))
section
variable (a b c d e : Int) (g i : List Int) (j : ByteArray) (l : List S81) (m n p : Int) (u : List Int) (v : List S88)
theorem markN_ev (hz : SzN g i j l u v) : Ev (fun k => f22 k a b c d e j m n p 1 g i l u v) (1 + g.length + i.length + 3 * l.length + u.length + 3 * v.length, mkI 1 g.length, mkI (1 + g.length) i.length, mkE (1 + g.length + i.length) l.length, mkI (1 + g.length + i.length + 3 * l.length) u.length, mkP (1 + g.length + i.length + 3 * l.length + u.length) v.length) := by
  have h1 := hz.g
  have h2 := hz.i
  have h3 := hz.l.1
  have h4 := hz.u
  have h5 := hz.v
  simp only [f22, f22.start, PT.run, PN.bindH_eq]
  exact Ev.bind (markC_ev g i h1 h2 1 (by decide) (by decide)) (Ev.bind (markE_ev l _ (by omega) (by omega) (by omega)) (Ev.bind (markI_ev u _ (by omega) (by omega) (by omega)) (Ev.bind (markP_ev v _ (by omega) (by omega) (by omega)) (Ev.ret _))))
theorem heldN_ev (hz : SzN g i j l u v) : Ev (fun k => f23 k a b c d e (mkI 1 g.length) (mkI (1 + g.length) i.length) j (mkE (1 + g.length + i.length) l.length) m n p (mkI (1 + g.length + i.length + 3 * l.length) u.length) (mkP (1 + g.length + i.length + 3 * l.length + u.length) v.length) 1) (1 + g.length + i.length + 3 * l.length + u.length + 3 * v.length) := by
  have h1 := hz.g
  have h2 := hz.i
  have h3 := hz.l.1
  have h4 := hz.u
  have h5 := hz.v
  simp only [f23, f23.start, PT.run, dite_eq_ite, PN.bindH_eq]
  exact Ev.bind (heldC_ev _ _ h1 h2 1 (by decide) (by decide)) (Ev.neg (by omega) (Ev.bind (heldE_ev _ _ (by omega) (by omega) (by omega)) (Ev.neg (by omega) (Ev.bind (heldI_ev _ _ (by omega) (by omega) (by omega)) (Ev.neg (by omega) (Ev.bind (heldP_ev _ _ (by omega) (by omega) (by omega)) (Ev.neg (by omega) (Ev.ret _))))))))
end
end Go.Proofs.YtmjmoagmolgacaaGreatDoor.P
namespace Go.Proofs.YtmjmoagmolgacaaGreatDoor.PM
open Go
def placeI (l : List Int) (x : Int) : Nat := l.countP (fun y => decide (y < x))
def cutI (l : List Int) (x : Int) : List Int := l.filter (fun y => y != x)
def putI (l : List Int) (x : Int) : List Int := l.take (placeI l x) ++ x :: l.drop (placeI l x)
theorem placeI_le (l : List Int) (x : Int) : placeI l x ≤ l.length := List.countP_le_length
theorem placeI_take : ∀ {l : List Int} (_ : l.Pairwise (· < ·)) (x : Int), l.take (placeI l x) = l.filter (fun y => decide (y < x)) ∧ l.drop (placeI l x) = l.filter (fun y => !decide (y < x))
  | [], _, _ => ⟨rfl, rfl⟩
  | a :: l, h, x => by
    have hp := List.pairwise_cons.1 h
    by_cases hx : a < x
    · obtain ⟨i1, i2⟩ := placeI_take hp.2 x
      have e : placeI (a :: l) x = placeI l x + 1 := by unfold placeI; rw [List.countP_cons]; simp [hx]
      rw [e, List.take_succ_cons, List.drop_succ_cons, i1, i2]
      constructor <;> simp [hx]
    · have hn : ∀ y ∈ a :: l, ¬ y < x := fun y hy => by
        rcases List.mem_cons.1 hy with rfl | hy
        · exact hx
        · have := hp.1 y hy
          omega
      have e : placeI (a :: l) x = 0 := by
        unfold placeI
        rw [List.countP_eq_zero]
        intro y hy
        simpa using hn y hy
      rw [e, List.take_zero, List.drop_zero]
      constructor
      · symm
        rw [List.filter_eq_nil_iff]
        intro y hy
        simpa using hn y hy
      · symm
        rw [List.filter_eq_self]
        intro y hy
        simpa using hn y hy
theorem placeI_iff {l : List Int} (h : l.Pairwise (· < ·)) (x : Int) (k : Nat) (hk : k < l.length) : at' l k < x ↔ k < placeI l x := by
  rw [at_nat l k hk]
  obtain ⟨h1, h2⟩ := placeI_take h x
  constructor
  · intro hlt
    by_cases hc : k < placeI l x
    · exact hc
    · have : l[k] ∈ l.drop (placeI l x) := List.mem_iff_getElem.2 ⟨k - placeI l x, by rw [List.length_drop]; omega, by rw [List.getElem_drop]; congr 1; omega⟩
      rw [h2, List.mem_filter] at this
      have := this.2
      simp only [Bool.not_eq_true', decide_eq_false_iff_not] at this
      omega
  · intro hc
    have : l[k] ∈ l.take (placeI l x) := List.mem_iff_getElem.2 ⟨k, by rw [List.length_take]; omega, by rw [List.getElem_take]⟩
    rw [h1, List.mem_filter] at this
    simpa using this.2
theorem putI_mem {l : List Int} {x y : Int} : y ∈ putI l x ↔ y = x ∨ y ∈ l := by
  unfold putI
  rw [List.mem_append, List.mem_cons]
  constructor
  · rintro (h | h | h)
    · exact .inr (List.mem_of_mem_take h)
    · exact .inl h
    · exact .inr (List.mem_of_mem_drop h)
  · rintro (h | h)
    · exact .inr (.inl h)
    · rw [← List.take_append_drop (placeI l x) l, List.mem_append] at h
      exact h.elim .inl (fun h => .inr (.inr h))
theorem putI_length (l : List Int) (x : Int) : (putI l x).length = l.length + 1 := by
  unfold putI
  have := placeI_le l x
  rw [List.length_append, List.length_cons, List.length_take, List.length_drop]
  omega
theorem putI_rises {l : List Int} (h : l.Pairwise (· < ·)) {x : Int} (hx : x ∉ l) : (putI l x).Pairwise (· < ·) := by
  unfold putI
  obtain ⟨h1, h2⟩ := placeI_take h x
  have hb : ∀ y ∈ l.drop (placeI l x), x < y := fun y hy => by
    have hm := List.mem_of_mem_drop hy
    rw [h2, List.mem_filter] at hy
    have := hy.2
    simp only [Bool.not_eq_true', decide_eq_false_iff_not] at this
    have : y ≠ x := fun e => hx (e ▸ hm)
    omega
  have ha : ∀ y ∈ l.take (placeI l x), y < x := fun y hy => by
    rw [h1, List.mem_filter] at hy
    simpa using hy.2
  rw [List.pairwise_append, List.pairwise_cons]
  refine ⟨h.sublist (List.take_sublist _ _), ⟨hb, h.sublist (List.drop_sublist _ _)⟩, fun a ha' b hb' => ?_⟩
  have := ha a ha'
  rcases List.mem_cons.1 hb' with rfl | hb'
  · exact this
  · have := hb b hb'
    omega
theorem cutI_mem {l : List Int} {x y : Int} : y ∈ cutI l x ↔ y ∈ l ∧ y ≠ x := by
  unfold cutI
  rw [List.mem_filter]
  simp
theorem cutI_length (l : List Int) (x : Int) : (cutI l x).length ≤ l.length := List.length_filter_le _ _
theorem cutI_rises {l : List Int} (h : l.Pairwise (· < ·)) (x : Int) : (cutI l x).Pairwise (· < ·) := h.sublist List.filter_sublist
theorem cutI_none {l : List Int} {x : Int} (h : x ∉ l) : cutI l x = l := by
  unfold cutI
  rw [List.filter_eq_self]
  intro y hy
  simp only [bne_iff_ne, ne_eq]
  intro e
  exact h (e ▸ hy)
theorem placeI_hit {l : List Int} (h : l.Pairwise (· < ·)) {x : Int} (hx : x ∈ l) : placeI l x < l.length ∧ at' l (placeI l x) = x := by
  obtain ⟨k, hk, rfl⟩ := List.getElem_of_mem hx
  have h0 := placeI_iff h l[k] k hk
  rw [at_nat l k hk] at h0
  have h1 : placeI l l[k] ≤ k := by
    have : ¬ k < placeI l l[k] := fun hc => by
      have := h0.2 hc
      omega
    omega
  have hpl : placeI l l[k] < l.length := by omega
  refine ⟨hpl, ?_⟩
  by_cases he : placeI l l[k] = k
  · rw [he, at_nat l k hk]
  · have h2 := List.pairwise_iff_getElem.1 h (placeI l l[k]) k hpl hk (by omega)
    have h3 := (placeI_iff h l[k] (placeI l l[k]) hpl).1 (by rw [at_nat l _ hpl]; exact h2)
    omega
theorem cutI_place {l : List Int} (h : l.Pairwise (· < ·)) {x : Int} (hx : x ∈ l) : cutI l x = l.take (placeI l x) ++ l.drop (placeI l x + 1) := by
  obtain ⟨hp, hr⟩ := placeI_hit h hx
  rw [at_nat l _ hp] at hr
  unfold cutI
  conv => lhs; rw [← List.take_append_drop (placeI l x) l]
  rw [List.filter_append, List.drop_eq_getElem_cons hp, List.filter_cons, hr]
  simp only [bne_self_eq_false, Bool.false_eq_true, if_false]
  have hn : ∀ (j : Nat) (hj : j < l.length), j ≠ placeI l x → l[j] ≠ x := fun j hj hne he => by
    rcases Nat.lt_or_gt_of_ne hne with hlt | hlt
    · have := List.pairwise_iff_getElem.1 h j _ hj hp hlt
      omega
    · have := List.pairwise_iff_getElem.1 h _ j hp hj hlt
      omega
  congr 1
  · rw [List.filter_eq_self]
    intro y hy
    obtain ⟨j, hj, rfl⟩ := List.getElem_of_mem hy
    rw [List.length_take] at hj
    rw [List.getElem_take]
    simpa using hn j (by omega) (by omega)
  · rw [List.filter_eq_self]
    intro y hy
    obtain ⟨j, hj, rfl⟩ := List.getElem_of_mem hy
    rw [List.length_drop] at hj
    rw [List.getElem_drop]
    simpa using hn (placeI l x + 1 + j) (by omega) (by omega)
end Go.Proofs.YtmjmoagmolgacaaGreatDoor.PM
namespace Go.Proofs.YtmjmoagmolgacaaGreatDoor.P
open Go Go.Proofs.YtmjmoagmolgacaaGreatDoor.PM Go.Proofs
open Go.Proofs.YtmjmoagmolgacaaGreatDoor.PN (PT)
def areI (l : List Int) : Prop := l.Pairwise (· < ·) ∧ (∀ x ∈ l, 1 ≤ x ∧ x ≤ 50) ∧ l.length ≤ 7
theorem rising_iff (l : List Int) : allFrom (idAt l) 0 l.length = true ↔ l.Pairwise (· < ·) ∧ ∀ x ∈ l, 1 ≤ x ∧ x ≤ 50 := by
  refine ⟨rising, fun ⟨h1, h2⟩ => (allFrom_iff _ _ _).2 fun i _ hi => ?_⟩
  unfold idAt inB
  rw [at_nat l i hi]
  have := h2 _ (List.getElem_mem hi)
  simp only [Bool.and_eq_true, Bool.or_eq_true, decide_eq_true_eq]
  refine ⟨this, ?_⟩
  by_cases h0 : i = 0
  · exact .inl h0
  · refine .inr ?_
    rw [show (i : Int) - 1 = ((i - 1 : Nat) : Int) by omega, at_nat l (i - 1) (by omega)]
    exact List.pairwise_iff_getElem.1 h1 (i - 1) i (by omega) hi (by omega)
theorem areB_iff (l : List Int) : areB l = true ↔ areI l := by
  unfold areB areI
  rw [Bool.and_eq_true, rising_iff, decide_eq_true_eq, and_assoc]
theorem confB_iff (v l : List Int) : confB v l = true ↔ 0 < v.length ∧ areI v ∧ areI l ∧ ∀ x ∈ l, x ∉ v := by
  unfold confB anyFrom
  simp only [Bool.and_eq_true, decide_eq_true_eq, areB_iff, Bool.not_eq_true', List.drop_zero, List.any_eq_false, hasI_iff]
theorem conf_learn {l0 l1 : List Int} {x : Int} (h : confB l0 l1 = true) (hx : 1 ≤ x ∧ x ≤ 50) (h0 : x ∉ l0) (h1 : x ∉ l1) : confB l0 (putI l1 x) = decide (l1.length ≠ 7) := by
  obtain ⟨hl, ha0, ⟨p1, q1, s1⟩, hd⟩ := (confB_iff _ _).1 h
  rw [Bool.eq_iff_iff, confB_iff, decide_eq_true_eq]
  unfold areI
  rw [putI_length]
  constructor
  · rintro ⟨_, _, ⟨_, _, h7⟩, _⟩
    omega
  · intro h7
    refine ⟨hl, ha0, ⟨putI_rises p1 h1, fun y hy => ?_, by omega⟩, fun y hy => ?_⟩
    · rcases putI_mem.1 hy with rfl | hy
      · exact hx
      · exact q1 y hy
    · rcases putI_mem.1 hy with rfl | hy
      · exact h0
      · exact hd y hy
theorem conf_promote {l0 l1 : List Int} {x : Int} (h : confB l0 l1 = true) (h1 : x ∈ l1) : confB (putI l0 x) (cutI l1 x) = decide (l0.length ≠ 7) := by
  obtain ⟨hl, ⟨p0, q0, s0⟩, ⟨p1, q1, s1⟩, hd⟩ := (confB_iff _ _).1 h
  rw [Bool.eq_iff_iff, confB_iff, decide_eq_true_eq]
  unfold areI
  rw [putI_length]
  constructor
  · rintro ⟨_, ⟨_, _, h7⟩, _⟩
    omega
  · intro h7
    have := cutI_length l1 x
    refine ⟨by omega, ⟨putI_rises p0 (hd x h1), fun y hy => ?_, by omega⟩, ⟨cutI_rises p1 x, fun y hy => q1 y (cutI_mem.1 hy).1, by omega⟩, fun y hy hy0 => ?_⟩
    · rcases putI_mem.1 hy with rfl | hy
      · exact q1 y h1
      · exact q0 y hy
    · obtain ⟨hy1, hne⟩ := cutI_mem.1 hy
      exact (putI_mem.1 hy0).elim hne (hd y hy1)
theorem conf_remove {l0 l1 : List Int} {x : Int} (h : confB l0 l1 = true) (hn : ¬ (x ∈ l0 ∧ l0.length = 1)) : confB (cutI l0 x) (cutI l1 x) = true := by
  obtain ⟨hl, ⟨p0, q0, s0⟩, ⟨p1, q1, s1⟩, hd⟩ := (confB_iff _ _).1 h
  have c0 := cutI_length l0 x
  have c1 := cutI_length l1 x
  rw [confB_iff]
  refine ⟨?_, ⟨cutI_rises p0 x, fun y hy => q0 y (cutI_mem.1 hy).1, by omega⟩, ⟨cutI_rises p1 x, fun y hy => q1 y (cutI_mem.1 hy).1, by omega⟩, fun y hy hy0 => hd y (cutI_mem.1 hy).1 (cutI_mem.1 hy0).1⟩
  by_cases hx : x ∈ l0
  · have hp := placeI_hit p0 hx
    rw [cutI_place p0 hx, List.length_append, List.length_take, List.length_drop]
    have : l0.length ≠ 1 := fun e => hn ⟨hx, e⟩
    omega
  · rw [cutI_none hx]
    exact hl
theorem hasI_mem {l : List Int} {x : Int} (h : x ∈ l) : hasI l x = true := (hasI_iff l x).2 h
theorem hasI_not {l : List Int} {x : Int} (h : x ∉ l) : ¬ hasI l x = true := fun e => h ((hasI_iff l x).1 e)
def chV (l0 l1 : List Int) (a x : Int) : Int × List Int × List Int :=
  if confB l0 l1 = true then
    if (1 ≤ a ∧ a ≤ 3) ∧ (1 ≤ x ∧ x ≤ 50) then
      if a = 1 then (if x ∈ l0 ∨ x ∈ l1 then (12, l0, l1) else if l1.length = 7 then (14, l0, l1) else (0, l0, putI l1 x))
      else if a = 2 then (if x ∈ l1 then (if l0.length = 7 then (14, l0, l1) else (0, putI l0 x, cutI l1 x)) else (12, l0, l1))
      else (if ¬ (x ∈ l0 ∨ x ∈ l1) then (12, l0, l1) else if x ∈ l0 ∧ l0.length = 1 then (13, l0, l1) else (0, cutI l0 x, cutI l1 x))
    else (11, l0, l1)
  else (10, [], [])
theorem l9Cut_ev (l : List Int) (x : Int) (hl : l.length ≤ 1048576) : Ev (fun k => f32 k l x) (cutI l x) := by
  have key : ∀ i, i ≤ l.length → Ev (fun k => f32.D k (.l3 (cutI (l.take i) x) l x (i : Int))) (cutI l x) := by
    refine scan fun i hi ih => ?_
    simp only [f32.blk, PT.run, dite_eq_ite]
    refine Ev.ite (fun h => ?_) (fun h => Ev.ret' (by rw [List.take_of_length_le (by omega)]))
    have hlt : i < l.length := by omega
    have ih := ih hlt
    rw [← wr1 (by omega)] at ih
    have ht : cutI (l.take (i + 1)) x = cutI (l.take i) x ++ cutI [l[i]] x := by
      unfold cutI
      rw [← List.filter_append, List.take_succ_eq_append_getElem (by omega)]
    have hlen := cutI_length (l.take i) x
    rw [List.length_take] at hlen
    rw [ht] at ih
    refine Ev.pos (by omega) ?_
    rw [at_nat l i hlt]
    refine Ev.ite (fun h1 => ?_) (fun h1 => Ev.pos (by omega) ?_)
    · have e : cutI [l[i]] x = [] := by unfold cutI; simp [h1]
      rwa [e, List.append_nil] at ih
    · have e : cutI [l[i]] x = [l[i]] := by unfold cutI; simp [h1]
      rwa [e] at ih
  simp only [f32, f32.start, PT.run]
  simpa [cutI] using key 0 (Nat.zero_le _)
theorem l9Put_ev (l : List Int) (x : Int) (hl : l.length ≤ 1048576) (hp : l.Pairwise (· < ·)) (hx : x ∉ l) : Ev (fun k => f31 k l x) (putI l x) := by
  obtain ⟨c, hcd⟩ : ∃ c, c = placeI l x := ⟨_, rfl⟩
  have hc : c ≤ l.length := by rw [hcd]; exact placeI_le l x
  have hk : ∀ k (h : k < l.length), (x < l[k] ↔ c ≤ k) := fun k h => by
    have h0 := placeI_iff hp x k h
    rw [at_nat l k h, ← hcd] at h0
    have h1 : l[k] ≠ x := fun e => hx (by rw [← e]; exact List.getElem_mem h)
    constructor
    · intro h2
      have : ¬ k < c := fun q => by have := h0.2 q; omega
      omega
    · intro h2
      have : ¬ l[k] < x := fun q => by have := h0.1 q; omega
      omega
  have key : ∀ i, i ≤ l.length → Ev (fun k => f31.D k (.l4 (if c < i then l.take c ++ x :: (l.take i).drop c else l.take i) l x (decide (c < i)) (i : Int))) (l.take c ++ x :: l.drop c) := by
    refine scan fun i hi ih => ?_
    simp only [f31.blk, PT.run, dite_eq_ite]
    refine Ev.ite (fun h => ?_) (fun h => ?_)
    · have hlt : i < l.length := by omega
      have ih := ih hlt
      rw [← wr1 (by omega)] at ih
      have ht : l.take (i + 1) = l.take i ++ [l[i]] := List.take_succ_eq_append_getElem hlt
      rw [at_nat l i hlt]
      by_cases h1 : c < i
      · rw [if_pos (by omega), decide_eq_true (show c < i + 1 by omega)] at ih
        rw [decide_eq_true h1, if_pos h1]
        refine Ev.pos rfl (Ev.pos (by omega) (Ev.pos (by simp only [List.length_append, List.length_cons, List.length_take, List.length_drop]; omega) ?_))
        rw [ht, List.drop_append_of_le_length (by rw [List.length_take]; omega)] at ih
        simpa [List.append_assoc] using ih
      · rw [decide_eq_false h1, if_neg h1]
        refine Ev.neg (by simp) (Ev.pos (by omega) ?_)
        by_cases hg : c = i
        · subst hg
          rw [if_pos (by omega), decide_eq_true (show c < c + 1 by omega)] at ih
          refine Ev.pos ((hk c hlt).2 (Nat.le_refl _)) (Ev.pos (by rw [List.length_take]; omega) (Ev.pos (by rw [List.length_take]; omega) ?_))
          rw [ht, List.drop_append_of_le_length (by rw [List.length_take]; omega), List.drop_of_length_le (by rw [List.length_take]; omega), List.nil_append] at ih
          simpa [List.append_assoc] using ih
        · rw [if_neg (by omega), decide_eq_false (show ¬ c < i + 1 by omega), ht] at ih
          exact Ev.neg (fun q => by have := (hk i hlt).1 q; omega) (Ev.pos (by rw [List.length_take]; omega) ih)
    · by_cases h1 : c < i
      · rw [decide_eq_true h1]
        exact Ev.pos rfl (Ev.ret' (by rw [if_pos h1, List.take_of_length_le (l := l) (i := i) (by omega)]))
      · rw [decide_eq_false h1]
        refine Ev.neg (by simp) (Ev.pos (by rw [if_neg h1, List.length_take]; omega) (Ev.ret' ?_))
        obtain rfl : c = i := by omega
        rw [if_neg h1, List.drop_of_length_le (by omega)]
  have := key 0 (Nat.zero_le _)
  simp only [f31, f31.start, PT.run]
  unfold putI
  rw [← hcd]
  simpa using this
theorem mid_eq (s : Nat) (h : s ≤ 4611686018427387904) : IntKind.i64.wrap (shrI .u64 (IntKind.u64.wrap (IntKind.i64.wrap (s : Int))) 1) = ((s / 2 : Nat) : Int) := by
  rw [wr (n := (s : Int)) (by omega) (by omega)]
  have e : IntKind.u64.wrap (s : Int) = s := by rw [IntKind.wrap_u64]; omega
  have : shrI .u64 (s : Int) 1 = ((s / 2 : Nat) : Int) := by
    unfold shrI
    show (s : Int).fdiv (2 ^ 1) = _
    rw [Int.fdiv_eq_ediv_of_nonneg _ (by decide)]
    omega
  rw [e, this, wr (by omega) (by omega)]
theorem less_ev (a b : Int) : Ev (fun k => f91 k a b) (decide (a < b)) := by
  simp only [f91, f91.start, PT.run, dite_eq_ite]
  refine Ev.bind (a := false) (by simp only [f124, f124.start, PT.run]; exact Ev.ret' (by simp)) (Ev.neg (by simp) (Ev.ret _))
theorem bs_loop (l : List Int) (x : Int) (hl : l.length ≤ 1048576) (d : Nat) : ∀ i j : Nat, j - i ≤ d → i ≤ j → j ≤ l.length →
    ∃ m : Nat, m ≤ l.length ∧ Ev (fun k => f34.D k (.l3 l x (l.length : Int) (i : Int) (j : Int))) ((m : Int), decide (m < l.length) && decide (at' l (m : Int) = x)) ∧ (∀ c : Nat, (∀ k : Nat, k < l.length → (at' l (k : Int) < x ↔ k < c)) → i ≤ c → c ≤ j → m = c) := by
  have fin : ∀ i : Nat, i ≤ l.length → Ev (fun k => f34.D k (.l3 l x (l.length : Int) (i : Int) (i : Int))) ((i : Int), decide (i < l.length) && decide (at' l (i : Int) = x)) := by
    intro i hi
    refine Ev.round ?_
    simp only [f34.blk, PT.run, dite_eq_ite]
    refine Ev.neg (by omega) ?_
    by_cases h1 : i < l.length
    · refine Ev.pos (by omega) (Ev.pos (by omega) (Ev.pos (by omega) ?_))
      rw [decide_eq_true h1, Bool.true_and]
      refine Ev.ite (fun h2 => Ev.ret' (by rw [decide_eq_true h2])) (fun h2 => ?_)
      exact Ev.bind (a := false) (by simp only [f92, f92.start, PT.run]; exact Ev.ret' (by simp)) (Ev.neg (by simp) (Ev.ret' (by rw [decide_eq_false h2])))
    · refine Ev.neg (by omega) (Ev.ret' ?_)
      rw [decide_eq_false h1, Bool.false_and]
  induction d with
  | zero =>
    intro i j hd hij hj
    obtain rfl : i = j := by omega
    exact ⟨i, hj, fin i hj, fun c _ h1 h2 => by omega⟩
  | succ d ih =>
    intro i j hd hij hj
    by_cases he : i = j
    · subst he
      exact ⟨i, hj, fin i hj, fun c _ h1 h2 => by omega⟩
    · have hw := mid_eq (i + j) (by omega)
      rw [show ((i + j : Nat) : Int) = (i : Int) + j by omega] at hw
      generalize hh : (i + j) / 2 = h at hw
      have hh1 : i ≤ h := by omega
      have hh2 : h < j := by omega
      by_cases hlt : at' l (h : Int) < x
      · obtain ⟨m, hm, hev, hc⟩ := ih (h + 1) j (by omega) (by omega) hj
        refine ⟨m, hm, Ev.round ?_, fun c hk h1 h2 => hc c hk (by have := (hk h (by omega)).1 hlt; omega) h2⟩
        simp only [f34.blk, PT.run, dite_eq_ite]
        rw [hw]
        rw [← wr1 (by omega)] at hev
        exact Ev.pos (by omega) (Ev.pos (by omega) (Ev.pos (by omega) (Ev.bind (less_ev _ _) (Ev.pos (by simpa using hlt) hev))))
      · obtain ⟨m, hm, hev, hc⟩ := ih i h (by omega) hh1 (by omega)
        refine ⟨m, hm, Ev.round ?_, fun c hk h1 h2 => hc c hk h1 (by have : ¬ h < c := fun q => hlt ((hk h (by omega)).2 q); omega)⟩
        simp only [f34.blk, PT.run, dite_eq_ite]
        rw [hw]
        exact Ev.pos (by omega) (Ev.pos (by omega) (Ev.pos (by omega) (Ev.bind (less_ev _ _) (Ev.neg (by simpa using hlt) hev))))
theorem bs_ev (l : List Int) (x : Int) (hl : l.length ≤ 1048576) : ∃ r, Ev (fun k => f34 k l x) r ∧ (l.Pairwise (· < ·) → r = ((placeI l x : Int), hasI l x)) := by
  obtain ⟨m, hm, hev, hc⟩ := bs_loop l x hl l.length 0 l.length (by omega) (Nat.zero_le _) (Nat.le_refl _)
  refine ⟨_, hev, fun hp => ?_⟩
  rw [hc (placeI l x) (fun k hk => placeI_iff hp x k hk) (Nat.zero_le _) (placeI_le l x)]
  congr 1
  rw [Bool.eq_iff_iff, hasI_iff, Bool.and_eq_true, decide_eq_true_eq, decide_eq_true_eq]
  constructor
  · rintro ⟨h1, h2⟩
    rw [at_nat l _ h1] at h2
    rw [← h2]
    exact List.getElem_mem h1
  · intro hx
    exact placeI_hit hp hx
theorem ins_ev {l : List Int} {x : Int} (h : l.length ≤ 1048576) : Ev (fun k => f39 k (placeI l x : Int) l [x]) (putI l x) := by
  have := placeI_le l x
  unfold f39
  refine Ev.pos ⟨by omega, by omega, rfl, by omega, by omega⟩ (Ev.ret' ?_)
  rw [Int.toNat_natCast]
  rfl
theorem del_ev {l : List Int} {x : Int} (h : l.length ≤ 1048576) (hp : l.Pairwise (· < ·)) (hx : x ∈ l) : Ev (fun k => f38 k (placeI l x : Int) (IntKind.i64.wrap ((placeI l x : Int) + 1)) l) (cutI l x) := by
  have h1 := placeI_hit hp hx
  unfold f38
  rw [wr (n := (placeI l x : Int) + 1) (by omega) (by omega)]
  refine Ev.pos ⟨by omega, rfl, by omega⟩ (Ev.ret' ?_)
  rw [Int.toNat_natCast, cutI_place hp hx]
end Go.Proofs.YtmjmoagmolgacaaGreatDoor.P
namespace Go.Proofs.YtmjmoagmolgacaaGreatDoor.P
open Go Go.Proofs.YtmjmoagmolgacaaGreatDoor.PM Go.Proofs
open Go.Proofs.YtmjmoagmolgacaaGreatDoor.PN (PT)
theorem copyConf_ev (x y : List Int) (hx : x.length ≤ 1048576) (hy : y.length ≤ 1048576) : Ev (fun k => f33 k x y) (x, y) := by
  simp only [f33, f33.start, PT.run, dite_eq_ite, PN.bindH_eq]
  exact Ev.pos (by omega) (Ev.pos (by omega) (Ev.ret _))
theorem inB_iff (b c a : Int) : inB b c a = true ↔ b ≤ a ∧ a ≤ c := by
  unfold inB
  simp only [Bool.and_eq_true, decide_eq_true_eq]
theorem spec_Changed (l0 l1 : List Int) (a x : Int) (h0 : l0.length ≤ 1048576) (h1 : l1.length ≤ 1048576) : Ev (fun k => f7 k l0 l1 a x) (chV l0 l1 a x) := by
  simp only [f7, f7.start, PT.run, dite_eq_ite, PN.bindH_eq]
  unfold chV
  refine Ev.bind (ConfOk_ev l0 l1 (by omega) (by omega)) (Ev.ite (fun hb => ?_) (fun hb => Ev.ret' (by rw [if_neg hb])))
  rw [if_pos hb]
  obtain ⟨hl, ⟨p0, q0, s0⟩, ⟨p1, q1, s1⟩, hd⟩ := (confB_iff _ _).1 hb
  refine Ev.bind (l9Copy_ev l0 l1 (by omega) (by omega)) (Ev.bind (l1In_ev _ _ _) (Ev.ite (fun hk => ?_) (fun hk => Ev.ret' (by rw [if_neg fun y => hk ((inB_iff _ _ _).2 y.1)]))))
  refine Ev.bind (l1In_ev _ _ _) (Ev.ite (fun hx => ?_) (fun hx => Ev.ret' (by rw [if_neg fun y => hx ((inB_iff _ _ _).2 y.2)])))
  rw [inB_iff] at hk hx
  rw [if_pos (show (1 ≤ a ∧ a ≤ 3) ∧ (1 ≤ x ∧ x ≤ 50) from ⟨hk, hx⟩)]
  refine Ev.bind (l1Ints_ev l0 x (by omega)) (Ev.bind (l1Ints_ev l1 x (by omega)) ?_)
  have fin : ∀ y0 y1 : List Int, y0.length ≤ 8 → y1.length ≤ 8 → Ev (fun k => (f27 k y0 y1).bind fun r => if r = true then some ((0 : Int), y0, y1) else some ((14 : Int), l0, l1)) (if confB y0 y1 = true then (0, y0, y1) else (14, l0, l1)) := fun y0 y1 i0 i1 =>
    Ev.bind (ConfOk_ev y0 y1 (by omega) (by omega)) (Ev.ite (fun h => Ev.ret' (by rw [if_pos h])) (fun h => Ev.ret' (by rw [if_neg h])))
  have pl0 := putI_length l0 x
  have pl1 := putI_length l1 x
  have c0 := cutI_length l0 x
  have c1 := cutI_length l1 x
  refine Ev.ite (fun e1 => ?_) (fun e1 => ?_)
  · rw [if_pos e1]
    by_cases m0 : x ∈ l0
    · exact Ev.pos (hasI_mem m0) (Ev.ret' (by rw [if_pos (show x ∈ l0 ∨ x ∈ l1 from .inl m0)]))
    · refine Ev.neg (hasI_not m0) ?_
      by_cases m1 : x ∈ l1
      · exact Ev.pos (hasI_mem m1) (Ev.ret' (by rw [if_pos (show x ∈ l0 ∨ x ∈ l1 from .inr m1)]))
      · rw [if_neg (show ¬ (x ∈ l0 ∨ x ∈ l1) by simp [m0, m1])]
        refine Ev.neg (hasI_not m1) (Ev.bind (l9Put_ev l1 x h1 p1 m1) ((fin l0 (putI l1 x) (by omega) (by omega)).eq ?_))
        rw [conf_learn hb hx m0 m1]
        by_cases e7 : l1.length = 7
        · rw [if_pos e7, if_neg (by simp [e7])]
        · rw [if_neg e7, if_pos (by simp [e7])]
  · rw [if_neg e1]
    refine Ev.ite (fun e2 => ?_) (fun e2 => Ev.pos (by omega) ?_)
    · rw [if_pos e2]
      by_cases m1 : x ∈ l1
      · rw [if_pos m1]
        refine Ev.pos (hasI_mem m1) (Ev.bind (l9Cut_ev l1 x h1) (Ev.bind (l9Put_ev l0 x h0 p0 (hd x m1)) ((fin (putI l0 x) (cutI l1 x) (by omega) (by omega)).eq ?_)))
        rw [conf_promote hb m1]
        by_cases e7 : l0.length = 7
        · rw [if_pos e7, if_neg (by simp [e7])]
        · rw [if_neg e7, if_pos (by simp [e7])]
      · exact Ev.neg (hasI_not m1) (Ev.ret' (by rw [if_neg m1]))
    · rw [if_neg e2]
      have cut : ¬ (x ∈ l0 ∧ l0.length = 1) → Ev (fun k => (f32 k l1 x).bind fun r => (f32 k l0 x).bind fun r_1 => (f27 k r_1 r).bind fun r_2 => if r_2 = true then some ((0 : Int), r_1, r) else some ((14 : Int), l0, l1)) (0, cutI l0 x, cutI l1 x) := fun hn =>
        Ev.bind (l9Cut_ev l1 x h1) (Ev.bind (l9Cut_ev l0 x h0) ((fin (cutI l0 x) (cutI l1 x) (by omega) (by omega)).eq (by rw [if_pos (conf_remove hb hn)])))
      by_cases m0 : x ∈ l0
      · rw [if_neg (show ¬ ¬ (x ∈ l0 ∨ x ∈ l1) by simp [m0])]
        refine Ev.pos (hasI_mem m0) (Ev.ite (fun e7 => Ev.ret' (by rw [if_pos (show x ∈ l0 ∧ l0.length = 1 from ⟨m0, by omega⟩)])) (fun e7 => ?_))
        have hn : ¬ (x ∈ l0 ∧ l0.length = 1) := fun q => e7 (by omega)
        rw [if_neg hn]
        exact cut hn
      · refine Ev.neg (hasI_not m0) ?_
        by_cases m1 : x ∈ l1
        · have hn : ¬ (x ∈ l0 ∧ l0.length = 1) := fun q => m0 q.1
          rw [if_neg (show ¬ ¬ (x ∈ l0 ∨ x ∈ l1) by simp [m1]), if_neg hn]
          exact Ev.pos (hasI_mem m1) (cut hn)
        · exact Ev.neg (hasI_not m1) (Ev.ret' (by rw [if_pos (show ¬ (x ∈ l0 ∨ x ∈ l1) by simp [m0, m1])]))
theorem impl_Changed (l0 l1 : List Int) (a x : Int) (h0 : l0.length ≤ 1048576) (h1 : l1.length ≤ 1048576) : Ev (fun k => f8 k l0 l1 a x) (chV l0 l1 a x) := by
  simp only [f8, f8.start, PT.run, dite_eq_ite, PN.bindH_eq]
  unfold chV
  obtain ⟨r0, hr0, hs0⟩ := bs_ev l0 x h0
  obtain ⟨r1, hr1, hs1⟩ := bs_ev l1 x h1
  refine Ev.bind (copyConf_ev l0 l1 h0 h1) (Ev.bind hr0 (Ev.bind hr1 (Ev.bind (isConf_ev l0 l1 (by omega) (by omega)) (Ev.ite (fun hb => ?_) (fun hb => Ev.ret' (by rw [if_neg hb]))))))
  rw [if_pos hb]
  obtain ⟨hl, ⟨p0, q0, s0⟩, ⟨p1, q1, s1⟩, hd⟩ := (confB_iff _ _).1 hb
  obtain rfl := hs0 p0
  obtain rfl := hs1 p1
  clear hr0 hr1 hs0 hs1
  refine Ev.bind (in_ev _ _ _) (Ev.ite (fun hk => ?_) (fun hk => Ev.ret' (by rw [if_neg fun y => hk ((inB_iff _ _ _).2 y.1)])))
  refine Ev.bind (isNodeId_ev _) (Ev.ite (fun hx => ?_) (fun hx => Ev.ret' (by rw [if_neg fun y => hx ((inB_iff _ _ _).2 y.2)])))
  rw [inB_iff] at hk hx
  rw [if_pos (show (1 ≤ a ∧ a ≤ 3) ∧ (1 ≤ x ∧ x ≤ 50) from ⟨hk, hx⟩)]
  simp only []
  refine Ev.ite (fun e1 => ?_) (fun e1 => ?_)
  · rw [if_pos e1]
    by_cases m0 : x ∈ l0
    · exact Ev.pos (hasI_mem m0) (Ev.ret' (by rw [if_pos (show x ∈ l0 ∨ x ∈ l1 from .inl m0)]))
    · refine Ev.neg (hasI_not m0) ?_
      by_cases m1 : x ∈ l1
      · exact Ev.pos (hasI_mem m1) (Ev.ret' (by rw [if_pos (show x ∈ l0 ∨ x ∈ l1 from .inr m1)]))
      · rw [if_neg (show ¬ (x ∈ l0 ∨ x ∈ l1) by simp [m0, m1])]
        refine Ev.neg (hasI_not m1) (Ev.neg (by omega) (Ev.neg (by omega) (Ev.ite (fun e7 => Ev.ret' (by rw [if_pos (show l1.length = 7 by omega)])) (fun e7 => ?_))))
        rw [if_neg (show ¬ l1.length = 7 by omega)]
        exact Ev.bind (ins_ev h1) (Ev.ret _)
  · rw [if_neg e1]
    refine Ev.ite (fun e2 => ?_) (fun e2 => Ev.pos (by omega) ?_)
    · rw [if_pos e2]
      by_cases m1 : x ∈ l1
      · rw [if_pos m1]
        refine Ev.pos (hasI_mem m1) (Ev.neg (by omega) (Ev.ite (fun e7 => Ev.ret' (by rw [if_pos (show l0.length = 7 by omega)])) (fun e7 => ?_)))
        rw [if_neg (show ¬ l0.length = 7 by omega)]
        exact Ev.bind (del_ev h1 p1 m1) (Ev.bind (ins_ev h0) (Ev.ret _))
      · exact Ev.neg (hasI_not m1) (Ev.ret' (by rw [if_neg m1]))
    · rw [if_neg e2]
      by_cases m0 : x ∈ l0
      · rw [if_neg (show ¬ ¬ (x ∈ l0 ∨ x ∈ l1) by simp [m0])]
        refine Ev.pos (hasI_mem m0) (Ev.ite (fun e7 => Ev.ret' (by rw [if_pos (show x ∈ l0 ∧ l0.length = 1 from ⟨m0, by omega⟩)])) (fun e7 => ?_))
        rw [if_neg (show ¬ (x ∈ l0 ∧ l0.length = 1) from fun q => e7 (by omega))]
        by_cases m1 : x ∈ l1
        · exact Ev.pos (hasI_mem m1) (Ev.bind (del_ev h1 p1 m1) (Ev.bind (del_ev h0 p0 m0) (Ev.ret _)))
        · rw [cutI_none m1]
          exact Ev.neg (hasI_not m1) (Ev.bind (del_ev h0 p0 m0) (Ev.ret _))
      · refine Ev.neg (hasI_not m0) ?_
        by_cases m1 : x ∈ l1
        · rw [if_neg (show ¬ ¬ (x ∈ l0 ∨ x ∈ l1) by simp [m1]), if_neg (show ¬ (x ∈ l0 ∧ l0.length = 1) from fun q => m0 q.1), cutI_none m0]
          exact Ev.pos (hasI_mem m1) (Ev.bind (del_ev h1 p1 m1) (Ev.ret _))
        · exact Ev.neg (hasI_not m1) (Ev.ret' (by rw [if_pos (show ¬ (x ∈ l0 ∨ x ∈ l1) by simp [m0, m1])]))
theorem chV_conf {l0 l1 : List Int} {a x : Int} (h : (chV l0 l1 a x).1 = 0) : confB (chV l0 l1 a x).2.1 (chV l0 l1 a x).2.2 = true := by
  unfold chV at h ⊢
  by_cases hb : confB l0 l1 = true
  · rw [if_pos hb] at h ⊢
    by_cases hk : (1 ≤ a ∧ a ≤ 3) ∧ (1 ≤ x ∧ x ≤ 50)
    · rw [if_pos hk] at h ⊢
      by_cases e1 : a = 1
      · rw [if_pos e1] at h ⊢
        by_cases m : x ∈ l0 ∨ x ∈ l1
        · rw [if_pos m] at h; simp at h
        · rw [if_neg m] at h ⊢
          by_cases e7 : l1.length = 7
          · rw [if_pos e7] at h; simp at h
          · rw [if_neg e7]
            rw [not_or] at m
            simp only []
            rw [conf_learn hb hk.2 m.1 m.2]
            simpa using e7
      · rw [if_neg e1] at h ⊢
        by_cases e2 : a = 2
        · rw [if_pos e2] at h ⊢
          by_cases m1 : x ∈ l1
          · rw [if_pos m1] at h ⊢
            by_cases e7 : l0.length = 7
            · rw [if_pos e7] at h; simp at h
            · rw [if_neg e7]
              simp only []
              rw [conf_promote hb m1]
              simpa using e7
          · rw [if_neg m1] at h; simp at h
        · rw [if_neg e2] at h ⊢
          by_cases m : ¬ (x ∈ l0 ∨ x ∈ l1)
          · rw [if_pos m] at h; simp at h
          · rw [if_neg m] at h ⊢
            by_cases e7 : x ∈ l0 ∧ l0.length = 1
            · rw [if_pos e7] at h; simp at h
            · rw [if_neg e7]
              exact conf_remove hb e7
    · rw [if_neg hk] at h; simp at h
  · rw [if_neg hb] at h; simp at h
end Go.Proofs.YtmjmoagmolgacaaGreatDoor.P
namespace Go.Proofs.YtmjmoagmolgacaaGreatDoor.P
open Go Go.Proofs.YtmjmoagmolgacaaGreatDoor.PM Go.Proofs
open Go.Proofs.YtmjmoagmolgacaaGreatDoor.PN (PT)
def qB (v ids : List Int) : Bool := decide (v.length < 2 * v.countP (hasI ids))
theorem countP_step (p : Int → Bool) (v : List Int) (i : Nat) (h : i < v.length) : (v.take (i + 1)).countP p = (v.take i).countP p + (if p v[i] = true then 1 else 0) := by
  rw [List.take_succ_eq_append_getElem h, List.countP_append, List.countP_singleton]
theorem quorum_ev (v l ids : List Int) (hv : v.length ≤ 1048576) (hi : ids.length ≤ 4194304) : Ev (fun k => f45 k v l ids) (qB v ids) := by
  have key : ∀ i, i ≤ v.length → Ev (fun k => f45.D k (.l3 ids ((v.take i).countP (hasI ids) : Int) v (v.length : Int) (i : Int) v l)) (qB v ids) := by
    refine scan fun i hi' ih => ?_
    have hc : (v.take i).countP (hasI ids) ≤ i := Nat.le_trans List.countP_le_length (by rw [List.length_take]; omega)
    simp only [f45.blk, PT.run, dite_eq_ite]
    refine Ev.ite (fun h => ?_) (fun h => ?_)
    · have hlt : i < v.length := by omega
      have ih := ih hlt
      rw [← wr1 (by omega), countP_step _ _ _ hlt] at ih
      refine Ev.pos (by omega) (Ev.pos (by omega) ?_)
      rw [at_nat v i hlt]
      refine Ev.bind (Contains_ev ids _ hi) (Ev.ite (fun h1 => ?_) (fun h1 => ?_))
      · rw [if_pos h1] at ih
        rw [wr1 (by omega)]
        exact ih
      · rw [if_neg h1] at ih
        exact ih
    · rw [List.take_of_length_le (by omega)] at hc ⊢
      refine Ev.ret' ?_
      unfold qB
      rw [wr (by omega) (by omega)]
      exact decide_eq_decide.2 (by omega)
  simp only [f45, f45.start, PT.run]
  simpa using key 0 (Nat.zero_le _)
theorem Quorum_ev (v l ids : List Int) (hc : confB v l = true) (hi : ids.length ≤ 4194304) : Ev (fun k => f110 k v l ids) (qB v ids) := by
  obtain ⟨_, ⟨_, _, hv⟩, ⟨_, _, hl⟩, _⟩ := (confB_iff _ _).1 hc
  have key : ∀ i, i ≤ v.length → Ev (fun k => f110.D k (.l5 ids ((v.take i).countP (hasI ids) : Int) (i : Int) v l)) (qB v ids) := by
    refine scan fun i hi' ih => ?_
    have hc : (v.take i).countP (hasI ids) ≤ i := Nat.le_trans List.countP_le_length (by rw [List.length_take]; omega)
    simp only [f110.blk, PT.run, dite_eq_ite]
    refine Ev.ite (fun h => ?_) (fun h => ?_)
    · have hlt : i < v.length := by omega
      have ih := ih hlt
      rw [← wr1 (by omega), countP_step _ _ _ hlt] at ih
      refine Ev.pos (by omega) ?_
      rw [at_nat v i hlt]
      refine Ev.bind (l1Ints_ev ids _ hi) (Ev.ite (fun h1 => ?_) (fun h1 => ?_))
      · rw [if_pos h1] at ih
        rw [wr1 (by omega)]
        exact ih
      · rw [if_neg h1] at ih
        exact ih
    · rw [List.take_of_length_le (by omega)] at hc ⊢
      refine Ev.ret' ?_
      unfold qB
      rw [wr (by omega) (by omega)]
      exact decide_eq_decide.2 (by omega)
  simp only [f110, f110.start, PT.run, dite_eq_ite, PN.bindH_eq]
  refine Ev.bind (ConfOk_ev v l (by omega) (by omega)) (Ev.pos hc ?_)
  simpa using key 0 (Nat.zero_le _)
def pwI (v : List S88) (x : Int) : List Int := (v.filter fun p => decide (x ≤ p.f2)).map fun p => p.f0
theorem pwI_step (v : List S88) (x : Int) (i : Nat) (h : i < v.length) : pwI (v.take (i + 1)) x = if x ≤ v[i].f2 then pwI (v.take i) x ++ [v[i].f0] else pwI (v.take i) x := by
  unfold pwI
  rw [List.take_succ_eq_append_getElem h, List.filter_append, List.map_append]
  by_cases e : x ≤ v[i].f2
  · rw [if_pos e, List.filter_cons_of_pos (by simpa using e)]; simp
  · rw [if_neg e, List.filter_cons_of_neg (by simpa using e)]; simp
theorem pwI_len (v : List S88) (x : Int) (i : Nat) : (pwI (v.take i) x).length ≤ v.length := by
  unfold pwI
  rw [List.length_map]
  exact Nat.le_trans (List.length_filter_le _ _) (by rw [List.length_take]; omega)
def ctV (a b d e : Int) (l : List S81) (v : List S88) (cv : List Int) (m : Int) : Nat → Int
  | 0 => m
  | s + 1 => if tmV d e l (m + ((s + 1 : Nat) : Int)) = b ∧ qB cv (a :: pwI v (m + ((s + 1 : Nat) : Int))) = true then m + ((s + 1 : Nat) : Int) else ctV a b d e l v cv m s
section
variable (a b c d e : Int) (g i : List Int) (j : ByteArray) (l : List S81) (m n p : Int) (u : List Int) (v : List S88)
theorem count_ev (hl : SzL l) (hv : v.length ≤ 1048576) (hd : 0 ≤ d ∧ d ≤ 1000000000000) (h0 : d ≤ m) (h1 : m ≤ d + l.length) (hc : confB (confF g i l l.length).1 (confF g i l l.length).2 = true) :
    Ev (fun k => f75 k a b c d e j m n p g i l u v) (a, b, c, d, e, j, ctV a b d e l v (confF g i l l.length).1 m (d + l.length - m).toNat, n, p, g, i, l, u, v) := by
  have hz := hl.1
  obtain ⟨cs, hcs⟩ : ∃ cs, cs = confF g i l l.length := ⟨_, rfl⟩
  rw [← hcs] at hc ⊢
  obtain ⟨_, ⟨_, _, c1⟩, ⟨_, _, c2⟩, _⟩ := (confB_iff _ _).1 hc
  have key : ∀ s : Nat, m + s ≤ d + l.length → Ev (fun k => f75.D k (.l2 g i l u v (m + s) a b c d e j m n p cs.1 cs.2)) (a, b, c, d, e, j, ctV a b d e l v cs.1 m s, n, p, g, i, l, u, v) := by
    intro s
    induction s with
    | zero =>
      intro _
      refine Ev.round ?_
      simp only [f75.blk, PT.run, dite_eq_ite]
      exact Ev.neg (by omega) (Ev.ret' (by simp [ctV]))
    | succ s ih =>
      intro hs
      have ih := ih (by omega)
      refine Ev.round ?_
      simp only [f75.blk, PT.run, dite_eq_ite]
      refine Ev.pos (by omega) ?_
      have inner : ∀ q, q ≤ v.length → Ev (fun k => f75.D k (.l6 g i l u v (a :: pwI (v.take q) (m + ((s + 1 : Nat) : Int))) (m + ((s + 1 : Nat) : Int)) (v.length : Int) (q : Int) a b c d e j m n p cs.1 cs.2)) (a, b, c, d, e, j, ctV a b d e l v cs.1 m (s + 1), n, p, g, i, l, u, v) := by
        refine scan fun q hq ihq => ?_
        have hw := pwI_len v (m + ((s + 1 : Nat) : Int)) q
        simp only [f75.blk, PT.run, dite_eq_ite]
        refine Ev.ite (fun h => ?_) (fun h => ?_)
        · have hlt : q < v.length := by omega
          have ihq := ihq hlt
          rw [← wr1 (i := q) (by omega), pwI_step v _ q hlt] at ihq
          refine Ev.pos (by omega) (Ev.pos (by omega) ?_)
          rw [at_nat v q hlt]
          refine Ev.ite (fun h2 => ?_) (fun h2 => ?_)
          · rw [if_pos h2] at ihq
            exact Ev.pos (by rw [List.length_cons]; omega) ihq
          · rw [if_neg h2] at ihq
            exact ihq
        · rw [List.take_of_length_le (by omega)] at hw ⊢
          refine Ev.bind (termAt_ev a b c d e g i j l m n p u v hz hd _ (by omega) (by omega)) ?_
          have back : Ev (fun k => f75.D k (.l2 g i l u v (IntKind.i64.wrap (m + ((s + 1 : Nat) : Int) - 1)) a b c d e j m n p cs.1 cs.2)) (a, b, c, d, e, j, ctV a b d e l v cs.1 m s, n, p, g, i, l, u, v) := by
            rw [wr (by omega) (by omega), show m + ((s + 1 : Nat) : Int) - 1 = m + s by omega]
            exact ih
          unfold ctV
          refine Ev.ite (fun h3 => Ev.bind (quorum_ev _ _ _ (by omega) (by rw [List.length_cons]; omega)) (Ev.ite (fun h4 => ?_) (fun h4 => ?_))) (fun h3 => ?_)
          · rw [if_pos (show tmV d e l (m + ((s + 1 : Nat) : Int)) = b ∧ qB cs.1 (a :: pwI v (m + ((s + 1 : Nat) : Int))) = true from ⟨h3, h4⟩)]
            exact Ev.ret _
          · rw [if_neg (show ¬ (tmV d e l (m + ((s + 1 : Nat) : Int)) = b ∧ qB cs.1 (a :: pwI v (m + ((s + 1 : Nat) : Int))) = true) from fun y => h4 y.2)]
            exact back
          · rw [if_neg (show ¬ (tmV d e l (m + ((s + 1 : Nat) : Int)) = b ∧ qB cs.1 (a :: pwI v (m + ((s + 1 : Nat) : Int))) = true) from fun y => h3 y.1)]
            exact back
      have := inner 0 (Nat.zero_le _)
      simpa [pwI] using this
  simp only [f75, f75.start, PT.run, PN.bindH_eq]
  have hcn := confNow_ev a b c d e g i j l m n p u v hl
  rw [← hcs] at hcn
  refine Ev.bind hcn (Ev.bind (last_ev a b c d e g i j l m n p u v hd hz) ?_)
  have := key (d + l.length - m).toNat (by omega)
  rw [show m + ((d + (l.length : Int) - m).toNat : Int) = d + l.length by omega] at this
  exact this
theorem count0_ev (hl : SzL l) (hd : 0 ≤ d ∧ d ≤ 1000000000000) (h0 : d ≤ m) (h1 : m ≤ d + l.length) (hc : confB (confF g i l l.length).1 (confF g i l l.length).2 = true) :
    Ev (fun k => f75s1 k a b c d e j m n p g i l u) (a, b, c, d, e, j, ctV a b d e l [] (confF g i l l.length).1 m (d + l.length - m).toNat, n, p, g, i, l, u) := by
  have hz := hl.1
  obtain ⟨cs, hcs⟩ : ∃ cs, cs = confF g i l l.length := ⟨_, rfl⟩
  rw [← hcs] at hc ⊢
  obtain ⟨_, ⟨_, _, c1⟩, ⟨_, _, c2⟩, _⟩ := (confB_iff _ _).1 hc
  have key : ∀ s : Nat, m + s ≤ d + l.length → Ev (fun k => f75s1.D k (.l2 g i l u (m + s) a b c d e j m n p cs.1 cs.2)) (a, b, c, d, e, j, ctV a b d e l [] cs.1 m s, n, p, g, i, l, u) := by
    intro s
    induction s with
    | zero =>
      intro _
      refine Ev.round ?_
      simp only [f75s1.blk, PT.run, dite_eq_ite]
      exact Ev.neg (by omega) (Ev.ret' (by simp [ctV]))
    | succ s ih =>
      intro hs
      have ih := ih (by omega)
      refine Ev.round ?_
      simp only [f75s1.blk, PT.run, dite_eq_ite]
      refine Ev.pos (by omega) (Ev.round ?_)
      simp only [f75s1.blk, PT.run, dite_eq_ite]
      refine Ev.neg (by omega) (Ev.bind (termAt_ev a b c d e g i j l m n p u [] hz hd _ (by omega) (by omega)) ?_)
      have back : Ev (fun k => f75s1.D k (.l2 g i l u (IntKind.i64.wrap (m + ((s + 1 : Nat) : Int) - 1)) a b c d e j m n p cs.1 cs.2)) (a, b, c, d, e, j, ctV a b d e l [] cs.1 m s, n, p, g, i, l, u) := by
        rw [wr (by omega) (by omega), show m + ((s + 1 : Nat) : Int) - 1 = m + s by omega]
        exact ih
      unfold ctV
      have hp : a :: pwI [] (m + ((s + 1 : Nat) : Int)) = [a] := rfl
      rw [hp]
      refine Ev.ite (fun h3 => Ev.bind (quorum_ev _ _ _ (by omega) (by simp)) (Ev.ite (fun h4 => ?_) (fun h4 => ?_))) (fun h3 => ?_)
      · rw [if_pos (show tmV d e l (m + ((s + 1 : Nat) : Int)) = b ∧ qB cs.1 [a] = true from ⟨h3, h4⟩)]
        exact Ev.ret _
      · rw [if_neg (show ¬ (tmV d e l (m + ((s + 1 : Nat) : Int)) = b ∧ qB cs.1 [a] = true) from fun y => h4 y.2)]
        exact back
      · rw [if_neg (show ¬ (tmV d e l (m + ((s + 1 : Nat) : Int)) = b ∧ qB cs.1 [a] = true) from fun y => h3 y.1)]
        exact back
  simp only [f75s1, f75s1.start, PT.run, PN.bindH_eq]
  have hcn := confNow_ev a b c d e g i j l m n p u [] hl
  rw [← hcs] at hcn
  refine Ev.bind hcn (Ev.bind (last_ev a b c d e g i j l m n p u [] hd hz) ?_)
  have := key (d + l.length - m).toNat (by omega)
  rw [show m + ((d + (l.length : Int) - m).toNat : Int) = d + l.length by omega] at this
  exact this
theorem l10Count_ev (hl : SzL l) (hg : g.length ≤ 1048576) (hi : i.length ≤ 1048576) (hv : v.length ≤ 1048576) (hd : 0 ≤ d ∧ d ≤ 1000000000000) (h0 : d ≤ m) (h1 : m ≤ d + l.length) (hc : confB (confF g i l l.length).1 (confF g i l l.length).2 = true) :
    Ev (fun k => f62 k a b c d e g i j l m n p u v) (a, b, c, d, e, g, i, j, l, ctV a b d e l v (confF g i l l.length).1 m (d + l.length - m).toNat, n, p, u, v) := by
  have hz := hl.1
  obtain ⟨cs, hcs⟩ : ∃ cs, cs = confF g i l l.length := ⟨_, rfl⟩
  rw [← hcs] at hc ⊢
  have key : ∀ s : Nat, m + s ≤ d + l.length → Ev (fun k => f62.D k (.l3 cs.1 cs.2 (m + s) a b c d e g i j l m n p u v 0 0 0 0 0 ⟨#[]⟩ 0 0 0)) (a, b, c, d, e, g, i, j, l, ctV a b d e l v cs.1 m s, n, p, u, v) := by
    intro s
    induction s with
    | zero =>
      intro _
      refine Ev.round ?_
      simp only [f62.blk, PT.run, dite_eq_ite, PN.bindH_eq]
      exact Ev.neg (by omega) (Ev.ret' (by simp [ctV]))
    | succ s ih =>
      intro hs
      have ih := ih (by omega)
      have back : Ev (fun k => f62.D k (.l3 cs.1 cs.2 (IntKind.i64.wrap (m + ((s + 1 : Nat) : Int) - 1)) a b c d e g i j l m n p u v 0 0 0 0 0 ⟨#[]⟩ 0 0 0)) (a, b, c, d, e, g, i, j, l, ctV a b d e l v cs.1 m s, n, p, u, v) := by
        rw [wr (by omega) (by omega), show m + ((s + 1 : Nat) : Int) - 1 = m + s by omega]
        exact ih
      refine Ev.round ?_
      simp only [f62.blk, PT.run, dite_eq_ite, PN.bindH_eq]
      refine Ev.pos (by omega) (Ev.bind (l10Term_ev a b c d e g i j l m n p u v hz hd _ (by omega) (by omega)) (Ev.ite (fun h3 => ?_) (fun h3 => ?_)))
      · have inner : ∀ q, q ≤ v.length → Ev (fun k => f62.D k (.l8 (a :: pwI (v.take q) (m + ((s + 1 : Nat) : Int))) cs.1 cs.2 (m + ((s + 1 : Nat) : Int)) (q : Int) a b c d e g i j l m n p u v 0 0 0 0 0 ⟨#[]⟩ 0 0 0)) (a, b, c, d, e, g, i, j, l, ctV a b d e l v cs.1 m (s + 1), n, p, u, v) := by
          refine scan fun q hq ihq => ?_
          have hw := pwI_len v (m + ((s + 1 : Nat) : Int)) q
          simp only [f62.blk, PT.run, dite_eq_ite, PN.bindH_eq]
          refine Ev.ite (fun h => ?_) (fun h => ?_)
          · have hlt : q < v.length := by omega
            have ihq := ihq hlt
            rw [← wr1 (i := q) (by omega), pwI_step v _ q hlt] at ihq
            refine Ev.pos (by omega) ?_
            rw [at_nat v q hlt]
            refine Ev.ite (fun h2 => ?_) (fun h2 => ?_)
            · rw [if_pos h2] at ihq
              exact Ev.pos (by rw [List.length_cons]; omega) ihq
            · rw [if_neg h2] at ihq
              exact ihq
          · rw [List.take_of_length_le (by omega)] at hw ⊢
            unfold ctV
            refine Ev.bind (Quorum_ev _ _ _ hc (by rw [List.length_cons]; omega)) (Ev.ite (fun h4 => ?_) (fun h4 => ?_))
            · rw [if_pos (show tmV d e l (m + ((s + 1 : Nat) : Int)) = b ∧ qB cs.1 (a :: pwI v (m + ((s + 1 : Nat) : Int))) = true from ⟨h3, h4⟩)]
              exact Ev.ret _
            · rw [if_neg (show ¬ (tmV d e l (m + ((s + 1 : Nat) : Int)) = b ∧ qB cs.1 (a :: pwI v (m + ((s + 1 : Nat) : Int))) = true) from fun y => h4 y.2)]
              exact back
        have := inner 0 (Nat.zero_le _)
        simpa [pwI] using this
      · unfold ctV
        rw [if_neg (show ¬ (tmV d e l (m + ((s + 1 : Nat) : Int)) = b ∧ qB cs.1 (a :: pwI v (m + ((s + 1 : Nat) : Int))) = true) from fun y => h3 y.1)]
        exact back
  simp only [f62, f62.start, PT.run, PN.bindH_eq]
  have hcn := l10Conf_ev a b c d e g i j l m n p u v hl (by omega) (by omega)
  rw [← hcs] at hcn
  refine Ev.bind hcn (Ev.bind (l10Last_ev a b c d e g i j l m n p u v hd hz) ?_)
  have := key (d + l.length - m).toNat (by omega)
  rw [show m + ((d + (l.length : Int) - m).toNat : Int) = d + l.length by omega] at this
  exact this
end
end Go.Proofs.YtmjmoagmolgacaaGreatDoor.P
namespace Go.Proofs.YtmjmoagmolgacaaGreatDoor.P
open Go Go.Proofs.YtmjmoagmolgacaaGreatDoor.PM Go.Proofs
open Go.Proofs.YtmjmoagmolgacaaGreatDoor.PN (PT)
theorem rc_ctext {v l : List Int} (hc : confB v l = true) : rc (ctext v l) = (true, v, l) := by
  obtain ⟨⟨h1, _⟩, h3, _⟩ := confB_oks hc
  have e1 : splV (ctext v l) ⟨#[32]⟩ = wordsOf v l := splV_words _ _ _ (ctext_bs v l) (of_decide_eq_true (by kernel_rfl)) (words_ok v l h1 h3)
  unfold rc
  rw [e1, words_I v l h1 h3]
  show (if confB v l = true ∧ strEq (ctext v l) (ctext v l) = true then (true, v, l) else (false, [], [])) = _
  rw [if_pos ⟨hc, strEq_self _⟩]
theorem ctext_inj {x y : List Int × List Int} (hx : confB x.1 x.2 = true) (hy : confB y.1 y.2 = true) (h : ctext x.1 x.2 = ctext y.1 y.2) : x = y := by
  have a := rc_ctext hx
  rw [h, rc_ctext hy] at a
  exact (Prod.mk.inj a).2.symm
theorem Equal_ev (a b : List Int) (hb : a.length ≤ 1048576) : Ev (fun k => f132 k a b) (decide (a = b)) := by
  simp only [f132, f132.start, PT.run, dite_eq_ite]
  refine Ev.ite (fun h => ?_) (fun h => Ev.ret' (by rw [decide_eq_false]; rintro rfl; exact h rfl))
  have hn : a.length = b.length := by omega
  have key : ∀ i, i ≤ a.length → a.take i = b.take i → Ev (fun k => f132.D k (.l4 a b (a.length : Int) (i : Int))) (decide (a = b)) := by
    have key : ∀ f i, a.length - i = f → i ≤ a.length → a.take i = b.take i → Ev (fun k => f132.D k (.l4 a b (a.length : Int) (i : Int))) (decide (a = b)) := by
      intro f
      induction f with
      | zero =>
        intro i h1 h2 h3
        refine Ev.round ?_
        simp only [f132.blk, PT.run, dite_eq_ite]
        rw [List.take_of_length_le (by omega), List.take_of_length_le (by omega)] at h3
        exact Ev.neg (by omega) (Ev.ret' (by rw [decide_eq_true h3]))
      | succ f ih =>
        intro i h1 h2 h3
        refine Ev.round ?_
        simp only [f132.blk, PT.run, dite_eq_ite]
        refine Ev.pos (by omega) (Ev.pos (by omega) (Ev.pos (by omega) (Ev.pos (by omega) ?_)))
        rw [at_nat a i (by omega), at_nat b i (by omega)]
        refine Ev.ite (fun h4 => ?_) (fun h4 => Ev.ret' ?_)
        · rw [wr1 (by omega)]
          exact ih (i + 1) (by omega) (by omega) (by rw [List.take_succ_eq_append_getElem (by omega), List.take_succ_eq_append_getElem (by omega), h3, h4])
        · rw [decide_eq_false]
          rintro rfl
          exact h4 rfl
    exact fun i => key _ i rfl
  exact key 0 (Nat.zero_le _) rfl
theorem sameConf_ev (x y : List Int × List Int) (h0 : x.1.length ≤ 1048576) (h1 : x.2.length ≤ 1048576) : Ev (fun k => f118 k x.1 x.2 y.1 y.2) (decide (x = y)) := by
  simp only [f118, f118.start, PT.run, dite_eq_ite]
  refine Ev.bind (Equal_ev _ _ h0) (Ev.ite (fun h => Ev.bind (Equal_ev _ _ h1) (Ev.ret' ?_)) (fun h => Ev.ret' ?_))
  · have h := of_decide_eq_true h
    exact decide_eq_decide.2 ⟨fun q => Prod.ext h q, fun q => by rw [q]⟩
  · rw [decide_eq_false]
    rintro rfl
    exact h (decide_eq_true rfl)
def stI (cv want : List Int × List Int) (k : Int) : Nat → Int → Bool
  | 0, _ => false
  | f + 1, x => if (chV cv.1 cv.2 k x).1 = 0 ∧ (chV cv.1 cv.2 k x).2 = want then true else stI cv want k f (x + 1)
def stO (cv want : List Int × List Int) : Nat → Int → Bool
  | 0, _ => false
  | f + 1, k => if stI cv want k 50 1 = true then true else stO cv want f (k + 1)
theorem conf_sz {x : List Int × List Int} (h : confB x.1 x.2 = true) : x.1.length ≤ 7 ∧ x.2.length ≤ 7 := ⟨(confB_oks h).1.2, (confB_oks h).2.2⟩
theorem step_impl (cv want : List Int × List Int) (hc : confB cv.1 cv.2 = true) : ∀ (f : Nat) (k : Int), k + (f : Int) = 4 → 1 ≤ k → Ev (fun r => f70.D r (.l12 want.1 want.2 k cv.1 cv.2)) (stO cv want f k) := by
  obtain ⟨z0, z1⟩ := conf_sz hc
  intro f
  induction f with
  | zero =>
    intro k h1 h2
    refine Ev.round ?_
    simp only [f70.blk, PT.run, dite_eq_ite]
    exact Ev.neg (by omega) (Ev.ret _)
  | succ f ih =>
    intro k h1 h2
    have hn := ih (k + 1) (by omega) (by omega)
    refine Ev.round ?_
    simp only [f70.blk, PT.run, dite_eq_ite]
    refine Ev.pos (by omega) ?_
    have inner : ∀ (g : Nat) (x : Int), x + (g : Int) = 51 → 1 ≤ x → Ev (fun r => f70.D r (.l15 want.1 want.2 k x cv.1 cv.2)) (if stI cv want k g x = true then true else stO cv want f (k + 1)) := by
      intro g
      induction g with
      | zero =>
        intro x h3 h4
        refine Ev.round ?_
        simp only [f70.blk, PT.run, dite_eq_ite]
        refine Ev.neg (by omega) ?_
        rw [wr (n := k + 1) (by omega) (by omega)]
        unfold stI
        exact hn
      | succ g ig =>
        intro x h3 h4
        have hi := ig (x + 1) (by omega) (by omega)
        refine Ev.round ?_
        simp only [f70.blk, PT.run, dite_eq_ite]
        refine Ev.pos (by omega) (Ev.bind (impl_Changed cv.1 cv.2 k x (by omega) (by omega)) ?_)
        rw [wr (n := x + 1) (by omega) (by omega)]
        unfold stI
        refine Ev.ite (fun h5 => ?_) (fun h5 => ?_)
        · obtain ⟨y0, y1⟩ := conf_sz (chV_conf h5)
          refine Ev.bind (sameConf_ev _ want (by omega) (by omega)) (Ev.ite (fun h6 => Ev.ret' ?_) (fun h6 => hi.eq ?_))
          · rw [if_pos (show (chV cv.1 cv.2 k x).1 = 0 ∧ (chV cv.1 cv.2 k x).2 = want from ⟨h5, of_decide_eq_true h6⟩)]; rfl
          · rw [if_neg (show ¬ ((chV cv.1 cv.2 k x).1 = 0 ∧ (chV cv.1 cv.2 k x).2 = want) from fun q => h6 (decide_eq_true q.2))]
        · rw [if_neg (show ¬ ((chV cv.1 cv.2 k x).1 = 0 ∧ (chV cv.1 cv.2 k x).2 = want) from fun q => h5 q.1)]
          exact hi
    unfold stO
    exact inner 50 1 (by omega) (by omega)
theorem step_spec (cv want : List Int × List Int) (hc : confB cv.1 cv.2 = true) (hw : confB want.1 want.2 = true) : ∀ (f : Nat) (k : Int), k + (f : Int) = 4 → 1 ≤ k → Ev (fun r => f109.D r (.l2 k cv.1 cv.2 want.1 want.2)) (stO cv want f k) := by
  obtain ⟨z0, z1⟩ := conf_sz hc
  obtain ⟨w0, w1⟩ := conf_sz hw
  intro f
  induction f with
  | zero =>
    intro k h1 h2
    refine Ev.round ?_
    simp only [f109.blk, PT.run, dite_eq_ite]
    exact Ev.neg (by omega) (Ev.ret _)
  | succ f ih =>
    intro k h1 h2
    have hn := ih (k + 1) (by omega) (by omega)
    refine Ev.round ?_
    simp only [f109.blk, PT.run, dite_eq_ite]
    refine Ev.pos (by omega) ?_
    have inner : ∀ (g : Nat) (x : Int), x + (g : Int) = 51 → 1 ≤ x → Ev (fun r => f109.D r (.l5 k x cv.1 cv.2 want.1 want.2)) (if stI cv want k g x = true then true else stO cv want f (k + 1)) := by
      intro g
      induction g with
      | zero =>
        intro x h3 h4
        refine Ev.round ?_
        simp only [f109.blk, PT.run, dite_eq_ite]
        refine Ev.neg (by omega) ?_
        rw [wr (n := k + 1) (by omega) (by omega)]
        unfold stI
        exact hn
      | succ g ig =>
        intro x h3 h4
        have hi := ig (x + 1) (by omega) (by omega)
        refine Ev.round ?_
        simp only [f109.blk, PT.run, dite_eq_ite]
        refine Ev.pos (by omega) (Ev.bind (spec_Changed cv.1 cv.2 k x (by omega) (by omega)) ?_)
        rw [wr (n := x + 1) (by omega) (by omega)]
        unfold stI
        refine Ev.ite (fun h5 => ?_) (fun h5 => ?_)
        · have hy := chV_conf h5
          obtain ⟨y0, y1⟩ := conf_sz hy
          refine Ev.bind (ConfText_ev _ _ (by omega) (by omega)) (Ev.bind (ConfText_ev _ _ (by omega) (by omega)) ?_)
          rw [if_pos hy, if_pos hw]
          refine Ev.ite (fun h6 => Ev.ret' ?_) (fun h6 => hi.eq ?_)
          · rw [if_pos (show (chV cv.1 cv.2 k x).1 = 0 ∧ (chV cv.1 cv.2 k x).2 = want from ⟨h5, ctext_inj hy hw ((strEq_iff _ _).1 h6)⟩)]; rfl
          · rw [if_neg (show ¬ ((chV cv.1 cv.2 k x).1 = 0 ∧ (chV cv.1 cv.2 k x).2 = want) from fun q => h6 ((strEq_iff _ _).2 (by rw [q.2])))]
        · rw [if_neg (show ¬ ((chV cv.1 cv.2 k x).1 = 0 ∧ (chV cv.1 cv.2 k x).2 = want) from fun q => h5 q.1)]
          exact hi
    unfold stO
    exact inner 50 1 (by omega) (by omega)
def freeB (d m : Int) (l : List S81) : Bool := allFrom (fun q => !decide ((at' l (q : Int)).f1 = 2)) (m - d).toNat l.length
def mcV (b d e : Int) (l : List S81) (m : Int) (cv want : List Int × List Int) : Bool := freeB d m l && (decide (tmV d e l m = b) && stO cv want 3 1)
section
variable (a b c d e : Int) (g i : List Int) (j : ByteArray) (l : List S81) (m n p : Int) (u : List Int) (v : List S88)
theorem mayChange_ev (y : ByteArray) (hl : SzL l) (hd : 0 ≤ d ∧ d ≤ 1000000000000) (h0 : d ≤ m) (h1 : m ≤ d + l.length) (hc : confB (confF g i l l.length).1 (confF g i l l.length).2 = true) (hy : y.size ≤ 1048576) :
    Ev (fun k => f70 k a b c d e g i j l m n p u v y) (mcV b d e l m (confF g i l l.length) (rc y).2) := by
  have hz := hl.1
  have key : ∀ q, q ≤ l.length → Ev (fun k => f70.D k (.l2 y l (l.length : Int) (q : Int) a b c d e g i j l m n p u v)) (allFrom (fun q => !(decide ((at' l (q : Int)).f1 = 2) && decide (m < d + q + 1))) q l.length && (decide (tmV d e l m = b) && stO (confF g i l l.length) (rc y).2 3 1)) := by
    refine scan fun q hq ih => ?_
    simp only [f70.blk, PT.run, dite_eq_ite]
    refine Ev.ite (fun h => ?_) (fun h => ?_)
    · have hlt : q < l.length := by omega
      have ih := ih hlt
      rw [← wr1 (by omega)] at ih
      rw [allFrom_step _ hlt]
      refine Ev.pos (by omega) (Ev.pos (by omega) ?_)
      rw [wr (n := d + (q : Int)) (by omega) (by omega), wr (n := d + (q : Int) + 1) (by omega) (by omega)]
      refine Ev.ite (fun h2 => Ev.ite (fun h3 => Ev.ret' ?_) (fun h3 => ih.eq ?_)) (fun h2 => ih.eq ?_)
      · rw [decide_eq_true h2, decide_eq_true h3]; rfl
      · rw [decide_eq_true h2, decide_eq_false h3]; rfl
      · rw [decide_eq_false h2]; rfl
    · rw [allFrom_end _ (by omega), Bool.true_and]
      refine Ev.bind (termAt_ev a b c d e g i j l m n p u v hz hd m h0 h1) (Ev.ite (fun h2 => ?_) (fun h2 => Ev.ret' (by rw [decide_eq_false h2]; rfl)))
      rw [decide_eq_true h2, Bool.true_and]
      exact Ev.bind (confNow_ev a b c d e g i j l m n p u v hl) (Ev.bind (readConf_ev y hy) (step_impl _ _ hc 3 1 (by decide) (by decide)))
  simp only [f70, f70.start, PT.run]
  refine (key 0 (Nat.zero_le _)).eq ?_
  unfold mcV freeB
  congr 1
  rw [Bool.eq_iff_iff, allFrom_iff, allFrom_iff]
  constructor
  · intro h q h2 h3
    have := h q (Nat.zero_le _) h3
    rw [decide_eq_true (show m < d + (q : Int) + 1 by omega), Bool.and_true] at this
    exact this
  · intro h q _ h3
    by_cases h2 : (m - d).toNat ≤ q
    · have := h q h2 h3
      rw [Bool.not_eq_true'] at this ⊢
      rw [this, Bool.false_and]
    · rw [decide_eq_false (show ¬ m < d + (q : Int) + 1 by omega), Bool.and_false]
      rfl
theorem l10MayConf_ev (y : ByteArray) (hl : SzL l) (hg : g.length ≤ 1048576) (hi : i.length ≤ 1048576) (hd : 0 ≤ d ∧ d ≤ 1000000000000) (h0 : d ≤ m) (h1 : m ≤ d + l.length) (hc : confB (confF g i l l.length).1 (confF g i l l.length).2 = true) (hy : y.size ≤ 1048576) (hr : (rc y).1 = true) :
    Ev (fun k => f58 k a b c d e g i j l m n p u v y) (mcV b d e l m (confF g i l l.length) (rc y).2) := by
  have hz := hl.1
  obtain ⟨r1, r2, _⟩ := rc_two y hy
  have key : ∀ q, q ≤ l.length → Ev (fun k => f58.D k (.l3 (rc y).2.1 (rc y).2.2 (d + (q : Int) + 1) a b c d e g i j l m n p u v)) (allFrom (fun q => !decide ((at' l (q : Int)).f1 = 2)) q l.length && (decide (tmV d e l m = b) && stO (confF g i l l.length) (rc y).2 3 1)) := by
    refine scan fun q hq ih => ?_
    simp only [f58.blk, PT.run, dite_eq_ite, PN.bindH_eq]
    refine Ev.bind (l10Last_ev a b c d e g i j l m n p u v hd hz) ?_
    rw [wr (n := d + (q : Int) + 1 - d) (by omega) (by omega), show d + (q : Int) + 1 - d = (q : Int) + 1 by omega, wr (n := (q : Int) + 1 - 1) (by omega) (by omega), show (q : Int) + 1 - 1 = q by omega]
    refine Ev.ite (fun h => ?_) (fun h => ?_)
    · have hlt : q < l.length := by omega
      have ih := ih hlt
      rw [show d + ((q + 1 : Nat) : Int) + 1 = IntKind.i64.wrap (d + (q : Int) + 1 + 1) by rw [wr (by omega) (by omega)]; omega] at ih
      rw [allFrom_step _ hlt]
      refine Ev.pos (by omega) (Ev.pos (by omega) (Ev.ite (fun h2 => Ev.ret' ?_) (fun h2 => ih.eq ?_)))
      · rw [decide_eq_true h2]; rfl
      · rw [decide_eq_false h2]; rfl
    · rw [allFrom_end _ (by omega), Bool.true_and]
      refine Ev.bind (l10Term_ev a b c d e g i j l m n p u v hz hd m h0 h1) (Ev.ite (fun h2 => ?_) (fun h2 => Ev.ret' (by rw [decide_eq_false h2]; rfl)))
      rw [decide_eq_true h2, Bool.true_and]
      refine Ev.bind (l10Conf_ev a b c d e g i j l m n p u v hl (by omega) (by omega)) (Ev.bind ?_ (Ev.ret _))
      simp only [f109, f109.start, PT.run]
      exact step_spec _ _ hc (r2 hr).1 3 1 (by decide) (by decide)
  simp only [f58, f58.start, PT.run, PN.bindH_eq]
  have := key (m - d).toNat (by omega)
  rw [show d + ((m - d).toNat : Int) + 1 = m + 1 by omega] at this
  rw [wr (n := m + 1) (by omega) (by omega)]
  exact Ev.bind r1 this
end
end Go.Proofs.YtmjmoagmolgacaaGreatDoor.P
namespace Go.Proofs.YtmjmoagmolgacaaGreatDoor.P
open Go Go.Proofs.YtmjmoagmolgacaaGreatDoor.PM Go.Proofs
open Go.Proofs.YtmjmoagmolgacaaGreatDoor.PN (PT)
def pkF (v : List S88) (w id : Int) : S88 := (v.find? fun p => decide (p.f0 = id)).getD ⟨id, w, 0⟩
def npV (v : List S88) (w : Int) (ids : List Int) : List S88 := ids.map (pkF v w)
theorem index_ev (v : List S88) (hv : v.length ≤ 1048576) (x y z : Int) : ∃ r, Ev (fun k => f73 k v x y z) (r, x, y, z) ∧ ((r < 0 ∧ v.find? (fun p => decide (p.f0 = x)) = none) ∨ (0 ≤ r ∧ r < v.length ∧ v.find? (fun p => decide (p.f0 = x)) = some (at' v r))) := by
  have key : ∀ f q, v.length - q = f → q ≤ v.length → ∃ r, Ev (fun k => f73.D k (.l2 v (v.length : Int) (q : Int) x y z)) (r, x, y, z) ∧ ((r < 0 ∧ (v.drop q).find? (fun p => decide (p.f0 = x)) = none) ∨ (0 ≤ r ∧ r < v.length ∧ (v.drop q).find? (fun p => decide (p.f0 = x)) = some (at' v r))) := by
    intro f
    induction f with
    | zero =>
      intro q h1 h2
      refine ⟨-1, Ev.round ?_, .inl ⟨by omega, by rw [List.drop_of_length_le (by omega)]; rfl⟩⟩
      simp only [f73.blk, PT.run, dite_eq_ite]
      exact Ev.neg (by omega) (Ev.ret _)
    | succ f ih =>
      intro q h1 h2
      have hlt : q < v.length := by omega
      have h74 : Ev (fun k => f74 k (at' v (q : Int)).f0 (at' v (q : Int)).f1 (at' v (q : Int)).f2 x y z) (decide ((at' v (q : Int)).f0 = x)) := by
        simp only [f74, f74.start, PT.run]
        exact Ev.ret _
      by_cases h3 : v[q].f0 = x
      · refine ⟨(q : Int), Ev.round ?_, .inr ⟨by omega, by omega, ?_⟩⟩
        · simp only [f73.blk, PT.run, dite_eq_ite]
          refine Ev.pos (by omega) (Ev.pos (by omega) (Ev.pos (by omega) (Ev.bind h74 (Ev.pos ?_ (Ev.ret _)))))
          rw [at_nat v q hlt]
          exact decide_eq_true h3
        · rw [List.drop_eq_getElem_cons hlt, List.find?_cons_of_pos (by simpa using h3), at_nat v q hlt]
      · obtain ⟨r, hr, h⟩ := ih (q + 1) (by omega) (by omega)
        refine ⟨r, Ev.round ?_, ?_⟩
        · simp only [f73.blk, PT.run, dite_eq_ite]
          rw [← wr1 (by omega)] at hr
          refine Ev.pos (by omega) (Ev.pos (by omega) (Ev.pos (by omega) (Ev.bind h74 (Ev.neg ?_ hr))))
          rw [at_nat v q hlt]
          simpa using h3
        · rw [List.drop_eq_getElem_cons hlt, List.find?_cons_of_neg (by simpa using h3)]
          exact h
  simp only [f73, f73.start, PT.run]
  exact key _ 0 rfl (Nat.zero_le _)
def fold1 (id : Int) (v : List S88) (z : S88) : S88 := v.foldl (fun acc p => if p.f0 = id then p else acc) z
theorem fold1_none (id : Int) : ∀ (v : List S88) (z : S88), (∀ p ∈ v, p.f0 ≠ id) → fold1 id v z = z
  | [], _, _ => rfl
  | p :: v, z, h => by
    show fold1 id v (if p.f0 = id then p else z) = z
    rw [if_neg (h p List.mem_cons_self)]
    exact fold1_none id v z fun q hq => h q (List.mem_cons_of_mem _ hq)
theorem fold1_find (id : Int) : ∀ (v : List S88) (z : S88), (v.map (·.f0)).Nodup → fold1 id v z = (v.find? fun p => decide (p.f0 = id)).getD z
  | [], _, _ => rfl
  | p :: v, z, h => by
    rw [List.map_cons, List.nodup_cons] at h
    show fold1 id v (if p.f0 = id then p else z) = _
    by_cases e : p.f0 = id
    · rw [if_pos e, List.find?_cons_of_pos (by simpa using e)]
      exact fold1_none id v p fun q hq he => h.1 (by rw [e, ← he]; exact List.mem_map_of_mem hq)
    · rw [if_neg e, List.find?_cons_of_neg (by simpa using e)]
      exact fold1_find id v z h.2
theorem fold1_step (id : Int) (v : List S88) (z : S88) (q : Nat) (h : q < v.length) : fold1 id (v.take (q + 1)) z = if v[q].f0 = id then v[q] else fold1 id (v.take q) z := by
  unfold fold1
  rw [List.take_succ_eq_append_getElem h, List.foldl_append]
  rfl
theorem npV_step (v : List S88) (w : Int) (ids : List Int) (q : Nat) (h : q < ids.length) : npV v w (ids.take (q + 1)) = npV v w (ids.take q) ++ [pkF v w ids[q]] := by
  unfold npV
  rw [List.take_succ_eq_append_getElem h, List.map_append]
  rfl
structure NR where
  a : Int
  b : Int
  c : Int
  d : Int
  e : Int
  g : List Int
  i : List Int
  j : ByteArray
  l : List S81
  m : Int
  n : Int
  p : Int
  u : List Int
  v : List S88
  x : Int
  y : Int
def NR.s (r : NR) : Int × Int × Int × Int × Int × List Int × List Int × ByteArray × List S81 × Int × Int × Int × List Int × List S88 × Int × Int := (r.a, r.b, r.c, r.d, r.e, r.g, r.i, r.j, r.l, r.m, r.n, r.p, r.u, r.v, r.x, r.y)
def NR.t (r : NR) : Int × Int × Int × Int × Int × ByteArray × Int × Int × Int × Int × Int × List Int × List Int × List S81 × List Int × List S88 := (r.a, r.b, r.c, r.d, r.e, r.j, r.m, r.n, r.p, r.x, r.y, r.g, r.i, r.l, r.u, r.v)
section
variable (a b c d e : Int) (g i : List Int) (j : ByteArray) (l : List S81) (m n p : Int) (u : List Int) (v : List S88)
theorem node_told (h : nodeB a b c d e g i j l m n p u v = true) : confB g i = true ∧ ∀ q : Nat, q < l.length → toldB (at' l (q : Int)) = true := by
  unfold nodeB headB at h
  simp only [Bool.and_eq_true, decide_eq_true_eq] at h
  obtain ⟨⟨_, _, _, _, _, _, h7, _, _⟩, _, h11, _⟩ := h
  exact ⟨h7, log_told h11⟩
theorem node_peers (h : nodeB a b c d e g i j l m n p u v = true) (hn : n = 2) : (v.map (·.f0)).Nodup := by
  unfold nodeB roleB at h
  rw [if_neg (by omega), if_neg (by omega), if_pos hn] at h
  simp only [Bool.and_eq_true] at h
  obtain ⟨_, _, _, _, _, _, _, _, h1⟩ := h
  unfold peersB at h1
  rw [Bool.and_eq_true, decide_eq_true_eq] at h1
  obtain ⟨h2, h3⟩ := h1
  have h4 := memF_lt (confF g i l l.length).1 (confF g i l l.length).2 a 50 1
  generalize memF (confF g i l l.length).1 (confF g i l l.length).2 a 50 1 = ids at h2 h3 h4
  have : v.map (·.f0) = ids := by
    refine List.ext_getElem (by rw [List.length_map]; exact h2.symm) fun q q1 q2 => ?_
    have := (allFrom_iff _ _ _).1 h3 q (Nat.zero_le _) (by omega)
    unfold peerAt at this
    rw [Bool.and_eq_true, decide_eq_true_eq, at_nat v q (by omega), at_nat ids q q2] at this
    rw [List.getElem_map]
    exact this.1
  rw [this]
  exact h4.imp fun x => Int.ne_of_lt x
def prV (ok : Bool) (w : Int) (y : ByteArray) : NR :=
  if ok = true then
    if n = 2 then
      if toldB ⟨b, w, y⟩ = true then
        if w = 2 ∧ ¬ mcV b d e l m (confF g i l l.length) (rc y).2 = true then ⟨a, b, c, d, e, g, i, j, l, m, n, p, u, v, 0, 4⟩
        else if l.length = 500 then ⟨a, b, c, d, e, g, i, j, l, m, n, p, u, v, 0, 5⟩
        else ⟨a, b, c, d, e, g, i, j, l ++ [⟨b, w, y⟩], ctV a b d e (l ++ [⟨b, w, y⟩]) (if w = 2 then npV v (d + l.length + 1) (memF (confF g i (l ++ [⟨b, w, y⟩]) (l.length + 1)).1 (confF g i (l ++ [⟨b, w, y⟩]) (l.length + 1)).2 a 50 1) else v) (confF g i (l ++ [⟨b, w, y⟩]) (l.length + 1)).1 m (d + ((l.length + 1 : Nat) : Int) - m).toNat, n, p, u,
          if w = 2 then npV v (d + l.length + 1) (memF (confF g i (l ++ [⟨b, w, y⟩]) (l.length + 1)).1 (confF g i (l ++ [⟨b, w, y⟩]) (l.length + 1)).2 a 50 1) else v, d + ((l.length + 1 : Nat) : Int), 0⟩
      else ⟨a, b, c, d, e, g, i, j, l, m, n, p, u, v, 0, 3⟩
    else ⟨a, b, c, d, e, g, i, j, l, m, n, p, u, v, 0, 2⟩
  else ⟨0, 0, 0, 0, 0, [], [], ⟨#[]⟩, [], 0, 0, 0, [], [], 0, 1⟩
end
theorem at_app (l : List S81) (x : S81) (q : Nat) (h : q < l.length) : at' (l ++ [x]) (q : Int) = at' l (q : Int) := by
  rw [at_nat _ q (by simp; omega), at_nat l q h, List.getElem_append_left h]
theorem at_app_last (l : List S81) (x : S81) : at' (l ++ [x]) (l.length : Int) = x := at_mid l x []
theorem app_told {l : List S81} {x : S81} (h : ∀ q : Nat, q < l.length → toldB (at' l (q : Int)) = true) (hx : toldB x = true) : ∀ q : Nat, q < (l ++ [x]).length → toldB (at' (l ++ [x]) (q : Int)) = true := fun q hq => by
  rw [List.length_append, List.length_singleton] at hq
  by_cases e : q < l.length
  · rw [at_app l x q e]; exact h q e
  · obtain rfl : q = l.length := by omega
    rw [at_app_last]; exact hx
theorem app_sz {l : List S81} {x : S81} (h : SzL l) (hl : l.length ≤ 500) (hx : x.f2.size ≤ 1048576) : SzL (l ++ [x]) := by
  refine ⟨by rw [List.length_append, List.length_singleton]; omega, fun q hq => ?_⟩
  rw [List.length_append, List.length_singleton] at hq
  by_cases e : q < l.length
  · rw [at_app l x q e]; exact h.2 q e
  · obtain rfl : q = l.length := by omega
    rw [at_app_last]; exact hx
theorem told_rc {b w : Int} {y : ByteArray} (h : toldB ⟨b, w, y⟩ = true) (hw : w = 2) : (rc y).1 = true := by
  unfold toldB kindB at h
  subst hw
  simpa using (Bool.and_eq_true _ _ ▸ h : _ ∧ _).2
end Go.Proofs.YtmjmoagmolgacaaGreatDoor.P
namespace Go.Proofs.YtmjmoagmolgacaaGreatDoor.P
open Go Go.Proofs.YtmjmoagmolgacaaGreatDoor.PM Go.Proofs
open Go.Proofs.YtmjmoagmolgacaaGreatDoor.PN (PT)
theorem npV_len (v : List S88) (w : Int) (ids : List Int) : (npV v w ids).length = ids.length := List.length_map ..
section
variable (a b c d e : Int) (g i : List Int) (j : ByteArray) (l : List S81) (m n p : Int) (u : List Int) (v : List S88)
theorem copyNode_ev (hz : SzN g i j l u v) : Ev (fun k => f68 k a b c d e g i j l m n p u v) (a, b, c, d, e, j, m, n, p, g, i, l, u, v) := by
  have h3 := hz.l.1
  have h4 := hz.u
  have h5 := hz.v
  simp only [f68, f68.start, PT.run, dite_eq_ite, PN.bindH_eq]
  exact Ev.bind (copyConf_ev g i hz.g hz.i) (Ev.pos (by omega) (Ev.pos (by omega) (Ev.pos (by omega) (Ev.ret _))))
theorem peers_loop (L : List S81) (W : Int) (ids : List Int) (hi : ids.length ≤ 50) (hv : v.length ≤ 1048576) (hl : SzL L) (hd : 0 ≤ d ∧ d ≤ 1000000000000) (h0 : d ≤ m) (h1 : m ≤ d + L.length) (hc : confB (confF g i L L.length).1 (confF g i L L.length).2 = true) :
    ∀ q, q ≤ ids.length → Ev (fun k => f20.D k (.l19v1 v (ids.map fun x => ⟨x, W, 0⟩) g i L u (npV v W (ids.take q)) (ids.length : Int) (q : Int) a b c d e j m n p 0 0 0 0 0 ⟨#[]⟩ 0 0 0))
      (NR.t ⟨a, b, c, d, e, g, i, j, L, ctV a b d e L (npV v W ids) (confF g i L L.length).1 m (d + L.length - m).toNat, n, p, u, npV v W ids, d + L.length, 0⟩) := by
  refine scan fun q hq ih => ?_
  simp only [f20.blk, PT.run, dite_eq_ite, PN.bindH_eq]
  have hlen : (npV v W (ids.take q)).length ≤ 50 := by rw [npV_len, List.length_take]; omega
  refine Ev.ite (fun h => ?_) (fun h => ?_)
  · have hlt : q < ids.length := by omega
    have ih := ih hlt
    rw [← wr1 (i := q) (by omega), npV_step v W ids q hlt] at ih
    have hF : at' (ids.map fun x => (⟨x, W, 0⟩ : S88)) (q : Int) = ⟨ids[q], W, 0⟩ := by rw [at_nat _ q (by rw [List.length_map]; exact hlt), List.getElem_map]
    rw [hF, List.length_map]
    refine Ev.pos (by omega) (Ev.pos (by omega) ?_)
    obtain ⟨r, hr, h2⟩ := index_ev v hv ids[q] W 0
    refine Ev.bind hr ?_
    rcases h2 with ⟨r0, r1⟩ | ⟨r0, r1, r2⟩
    · refine Ev.neg (by simp only []; omega) (Ev.pos (by omega) ?_)
      have e1 : pkF v W ids[q] = ⟨ids[q], W, 0⟩ := by unfold pkF; rw [r1]; rfl
      rw [e1] at ih
      exact ih
    · refine Ev.pos (by simpa using r0) (Ev.pos (by simpa using r1) (Ev.pos (by omega) ?_))
      have e1 : pkF v W ids[q] = at' v r := by unfold pkF; rw [r2]; rfl
      rw [e1] at ih
      exact ih
  · obtain rfl : q = ids.length := by omega
    rw [List.take_length] at hlen ⊢
    have hz := hl.1
    exact Ev.bind (count_ev a b c d e g i j L m n p u (npV v W ids) hl (by omega) hd h0 h1 hc) (Ev.bind (last_ev a b c d e g i j L _ n p u (npV v W ids) hd hz) (Ev.ret _))
theorem impl_Propose (hz : SzN g i j l u v) (w : Int) (y : ByteArray) : Ev (fun k => f20 k a b c d e g i j l m n p u v w y) (prV a b c d e g i j l m n p u v (nodeB a b c d e g i j l m n p u v) w y).t := by
  simp only [f20, f20.start, PT.run, dite_eq_ite, PN.bindH_eq]
  unfold prV
  refine Ev.bind (isNode_ev a b c d e g i j l m n p u v hz) (Ev.ite (fun h => ?_) (fun h => Ev.ret' (by rw [if_neg h]; rfl)))
  obtain ⟨d0, d1, h2, h3, h4⟩ := nodeF a b c d e g i j l m n p u v h
  obtain ⟨hg, ht⟩ := node_told a b c d e g i j l m n p u v h
  rw [if_pos h]
  refine Ev.bind (copyNode_ev a b c d e g i j l m n p u v hz) ?_
  simp only []
  refine Ev.ite (fun h5 => ?_) (fun h5 => Ev.ret' (by rw [if_neg h5]; rfl))
  rw [if_pos h5]
  refine Ev.bind (isTold_ev ⟨b, w, y⟩) (Ev.ite (fun h6 => ?_) (fun h6 => Ev.ret' (by rw [if_neg h6]; rfl)))
  rw [if_pos h6]
  have hy : y.size ≤ 4000 := by
    have h6' := h6
    unfold toldB at h6'
    rw [Bool.and_eq_true] at h6'
    exact entB_size h6'.1
  have hc := conf_ok g i l hz.l hg ht _ (Nat.le_refl _)
  have hL : SzL (l ++ [⟨b, w, y⟩]) := app_sz hz.l h2 (by show y.size ≤ _; omega)
  have hn : (l ++ [(⟨b, w, y⟩ : S81)]).length = l.length + 1 := by simp
  have hC := conf_ok g i _ hL hg (app_told ht h6) _ (Nat.le_refl _)
  have hv := hz.v
  generalize l ++ [(⟨b, w, y⟩ : S81)] = L at hL hn hC ⊢
  refine Ev.ite (fun h7 => ?_) (fun h7 => ?_)
  · refine Ev.bind (mayChange_ev a b c d e g i j l m n p u v y hz.l (by omega) h3 h4 hc (by omega)) (Ev.ite (fun h8 => ?_) (fun h8 => Ev.ret' (by rw [if_pos (show w = 2 ∧ ¬ mcV b d e l m (confF g i l l.length) (rc y).2 = true from ⟨h7, h8⟩)]; rfl)))
    rw [if_neg (show ¬ (w = 2 ∧ ¬ mcV b d e l m (confF g i l l.length) (rc y).2 = true) from fun q => q.2 h8)]
    refine Ev.ite (fun h9 => Ev.ret' (by rw [if_pos (show l.length = 500 by omega)]; rfl)) (fun h9 => ?_)
    rw [if_neg (show ¬ l.length = 500 by omega), if_pos h7]
    refine Ev.bind (last_ev a b c d e g i j l m n p u v (by omega) hz.l.1) (Ev.pos (by omega) ?_)
    rw [wr (n := d + (l.length : Int) + 1) (by omega) (by omega)]
    obtain ⟨ids, hids⟩ : ∃ ids, ids = memF (confF g i L L.length).1 (confF g i L L.length).2 a 50 1 := ⟨_, rfl⟩
    have hF := freshPeers_ev a b c d e g i j L m n p u [] (d + l.length + 1) hL hC
    rw [← hids] at hF
    have hM : ids.length ≤ 50 := by rw [hids]; exact memF_length _ _ _ _ _
    rw [← hn, ← hids]
    clear hids
    refine Ev.bind hF ?_
    have loop := peers_loop a b c d e g i j m n p u v L (d + l.length + 1) ids hM hv hL (by omega) h3 (by omega) hC
    rw [List.length_map]
    refine Ev.round ?_
    simp only [f20.blk, PT.run, dite_eq_ite, PN.bindH_eq]
    refine Ev.ite (fun h10 => ?_) (fun h10 => ?_)
    · have hlt : 0 < ids.length := by omega
      have ih := loop 1 (by omega)
      rw [show ((1 : Nat) : Int) = IntKind.i64.wrap (0 + 1) by rw [wr (by omega) (by omega)]; rfl, show ids.take 1 = ids.take (0 + 1) from rfl, npV_step v _ ids 0 hlt, List.take_zero, show npV v (d + l.length + 1) [] = [] from rfl, List.nil_append] at ih
      have hF : at' (ids.map fun x => (⟨x, d + l.length + 1, 0⟩ : S88)) 0 = ⟨ids[0], d + l.length + 1, 0⟩ := by
        have := at_nat (ids.map fun x => (⟨x, d + l.length + 1, 0⟩ : S88)) 0 (by rw [List.length_map]; exact hlt)
        rw [List.getElem_map] at this
        exact this
      rw [hF, List.length_map]
      refine Ev.pos (by omega) (Ev.pos (by omega) ?_)
      obtain ⟨r, hr, h2⟩ := index_ev v hv ids[0] (d + l.length + 1) 0
      refine Ev.bind hr ?_
      rcases h2 with ⟨r0, r1⟩ | ⟨r0, r1, r2⟩
      · refine Ev.neg (by simp only []; omega) ?_
        have e1 : pkF v (d + l.length + 1) ids[0] = ⟨ids[0], d + l.length + 1, 0⟩ := by unfold pkF; rw [r1]; rfl
        rw [e1] at ih
        exact ih
      · refine Ev.pos (by simpa using r0) (Ev.pos (by simpa using r1) ?_)
        have e1 : pkF v (d + l.length + 1) ids[0] = at' v r := by unfold pkF; rw [r2]; rfl
        rw [e1] at ih
        exact ih
    · obtain rfl : ids = [] := List.eq_nil_of_length_eq_zero (by omega)
      have hK := count0_ev a b c d e g i j L m n p u hL (by omega) h3 (by omega) hC
      rw [show npV v (d + l.length + 1) [] = [] from rfl]
      generalize ctV a b d e L [] (confF g i L L.length).1 m (d + (L.length : Int) - m).toNat = M at hK ⊢
      refine Ev.bind hK ?_
      simp only []
      refine Ev.bind (last_ev a b c d e g i j L M n p u [] (by omega) hL.1) ?_
      exact Ev.ret _
  · rw [if_neg (show ¬ (w = 2 ∧ ¬ mcV b d e l m (confF g i l l.length) (rc y).2 = true) from fun q => h7 q.1)]
    refine Ev.ite (fun h9 => Ev.ret' (by rw [if_pos (show l.length = 500 by omega)]; rfl)) (fun h9 => ?_)
    rw [if_neg (show ¬ l.length = 500 by omega), if_neg h7, ← hn]
    refine Ev.bind (last_ev a b c d e g i j l m n p u v (by omega) hz.l.1) (Ev.pos (by omega) ?_)
    have hK := count_ev a b c d e g i j L m n p u v hL hv (by omega) h3 (by omega) hC
    generalize ctV a b d e L v (confF g i L L.length).1 m (d + (L.length : Int) - m).toNat = M at hK ⊢
    refine Ev.bind hK ?_
    simp only []
    refine Ev.bind (last_ev a b c d e g i j L M n p u v (by omega) hL.1) ?_
    exact Ev.ret _
end
end Go.Proofs.YtmjmoagmolgacaaGreatDoor.P
namespace Go.Proofs.YtmjmoagmolgacaaGreatDoor.P
open Go Go.Proofs.YtmjmoagmolgacaaGreatDoor.PM Go.Proofs
open Go.Proofs.YtmjmoagmolgacaaGreatDoor.PN (PT)
theorem npV_len' (v : List S88) (w : Int) (ids : List Int) : (npV v w ids).length = ids.length := List.length_map ..
section
variable (a b c d e : Int) (g i : List Int) (j : ByteArray) (l : List S81) (m n p : Int) (u : List Int) (v : List S88)
theorem l10Copy_ev (hz : SzN g i j l u v) : Ev (fun k => f56 k a b c d e g i j l m n p u v) (a, b, c, d, e, j, m, n, p, g, i, l, u, v) := by
  have h1 := hz.g
  have h2 := hz.i
  have h3 := hz.l.1
  have h4 := hz.u
  have h5 := hz.v
  simp only [f56, f56.start, PT.run, dite_eq_ite, PN.bindH_eq]
  exact Ev.bind (l9Copy_ev g i (by omega) (by omega)) (Ev.pos (by omega) (Ev.pos (by omega) (Ev.pos (by omega) (Ev.ret _))))
theorem speers_loop (L : List S81) (ids : List Int) (hi : ids.length ≤ 50) (hv : v.length ≤ 1048576) (hl : SzL L) (hz : l.length ≤ 1048576) (hg : g.length ≤ 1048576) (hii : i.length ≤ 1048576) (hn : (v.map (·.f0)).Nodup) (hd : 0 ≤ d ∧ d ≤ 1000000000000) (h0 : d ≤ m) (h1 : m ≤ d + L.length) (hc : confB (confF g i L L.length).1 (confF g i L L.length).2 = true) :
    ∀ q, q ≤ ids.length → Ev (fun k => f18.D k (.l18 ids g i L u (npV v (d + l.length + 1) (ids.take q)) (q : Int) a b c d e g i j l m n p u v 0 0 0 0 0 ⟨#[]⟩ 0 0 0 a b c d e j m n p))
      (NR.s ⟨a, b, c, d, e, g, i, j, L, ctV a b d e L (npV v (d + l.length + 1) ids) (confF g i L L.length).1 m (d + L.length - m).toNat, n, p, u, npV v (d + l.length + 1) ids, d + L.length, 0⟩) := by
  refine scan fun q hq ih => ?_
  simp only [f18.blk, PT.run, dite_eq_ite, PN.bindH_eq]
  have hlen : (npV v (d + l.length + 1) (ids.take q)).length ≤ 50 := by rw [npV_len', List.length_take]; omega
  refine Ev.ite (fun h => ?_) (fun h => ?_)
  · have hlt : q < ids.length := by omega
    have ih := ih hlt
    rw [← wr1 (i := q) (by omega), npV_step v _ ids q hlt] at ih
    refine Ev.pos (by omega) (Ev.bind (l10Last_ev a b c d e g i j l m n p u v hd hz) ?_)
    rw [wr (n := d + (l.length : Int) + 1) (by omega) (by omega), at_nat ids q hlt]
    have inner : ∀ s, s ≤ v.length → Ev (fun k => f18.D k (.l22 ids g i L u (npV v (d + l.length + 1) (ids.take q)) (q : Int) (s : Int) a b c d e g i j l m n p u v 0 0 0 0 0 ⟨#[]⟩ 0 0 0 a b c d e j m n p (fold1 ids[q] (v.take s) ⟨ids[q], d + l.length + 1, 0⟩).f0 (fold1 ids[q] (v.take s) ⟨ids[q], d + l.length + 1, 0⟩).f1 (fold1 ids[q] (v.take s) ⟨ids[q], d + l.length + 1, 0⟩).f2))
        (NR.s ⟨a, b, c, d, e, g, i, j, L, ctV a b d e L (npV v (d + l.length + 1) ids) (confF g i L L.length).1 m (d + L.length - m).toNat, n, p, u, npV v (d + l.length + 1) ids, d + L.length, 0⟩) := by
      refine scan fun s hs ihs => ?_
      simp only [f18.blk, PT.run, dite_eq_ite, PN.bindH_eq]
      refine Ev.ite (fun h2 => ?_) (fun h2 => Ev.pos (by omega) ?_)
      · have hls : s < v.length := by omega
        have ihs := ihs hls
        rw [← wr1 (i := s) (by omega), fold1_step _ v _ s hls] at ihs
        refine Ev.pos (by omega) (Ev.pos (by omega) (Ev.pos (by omega) ?_))
        rw [at_nat ids q hlt, at_nat v s hls]
        refine Ev.ite (fun h3 => ?_) (fun h3 => ?_)
        · rw [if_pos h3] at ihs
          exact ihs
        · rw [if_neg h3] at ihs
          exact ihs
      · rw [List.take_of_length_le (l := v) (by omega), fold1_find _ v _ hn]
        exact ih
    have := inner 0 (Nat.zero_le _)
    exact this
  · obtain rfl : q = ids.length := by omega
    rw [List.take_length] at hlen ⊢
    have hzL := hl.1
    have hK := l10Count_ev a b c d e g i j L m n p u (npV v (d + l.length + 1) ids) hl hg hii (by omega) hd h0 h1 hc
    refine Ev.bind hK ?_
    refine Ev.bind (l10Last_ev a b c d e g i j L m n p u (npV v (d + l.length + 1) ids) hd hzL) ?_
    exact Ev.ret _
end
end Go.Proofs.YtmjmoagmolgacaaGreatDoor.P
namespace Go.Proofs.YtmjmoagmolgacaaGreatDoor.P
open Go Go.Proofs.YtmjmoagmolgacaaGreatDoor.PM Go.Proofs
open Go.Proofs.YtmjmoagmolgacaaGreatDoor.PN (PT)
section
variable (a b c d e : Int) (g i : List Int) (j : ByteArray) (l : List S81) (m n p : Int) (u : List Int) (v : List S88)
theorem spec_Propose (hz : SzN g i j l u v) (w : Int) (y : ByteArray) : Ev (fun k => f18 k a b c d e g i j l m n p u v w y) (prV a b c d e g i j l m n p u v (nodeB a b c d e g i j l m n p u v) w y).s := by
  simp only [f18, f18.start, PT.run, dite_eq_ite, PN.bindH_eq]
  unfold prV
  refine Ev.bind (spec_NodeOk a b c d e g i j l m n p u v hz) (Ev.ite (fun h => ?_) (fun h => Ev.ret' (by rw [if_neg h]; rfl)))
  obtain ⟨d0, d1, h2, h3, h4⟩ := nodeF a b c d e g i j l m n p u v h
  obtain ⟨hg, ht⟩ := node_told a b c d e g i j l m n p u v h
  have hnd := node_peers a b c d e g i j l m n p u v h
  rw [if_pos h]
  refine Ev.bind (l10Copy_ev a b c d e g i j l m n p u v hz) ?_
  simp only []
  refine Ev.ite (fun h5 => ?_) (fun h5 => Ev.ret' (by rw [if_neg h5]; rfl))
  rw [if_pos h5]
  refine Ev.bind (l10Entry_ev ⟨b, w, y⟩) (Ev.ite (fun h6 => ?_) (fun h6 => Ev.ret' (by rw [if_neg h6]; rfl)))
  rw [if_pos h6]
  have hy : y.size ≤ 4000 := by
    have h6' := h6
    unfold toldB at h6'
    rw [Bool.and_eq_true] at h6'
    exact entB_size h6'.1
  have hc := conf_ok g i l hz.l hg ht _ (Nat.le_refl _)
  have hL : SzL (l ++ [⟨b, w, y⟩]) := app_sz hz.l h2 (by show y.size ≤ _; omega)
  have hn : (l ++ [(⟨b, w, y⟩ : S81)]).length = l.length + 1 := by simp
  have hC := conf_ok g i _ hL hg (app_told ht h6) _ (Nat.le_refl _)
  have hv := hz.v
  have z1 := hz.g
  have z2 := hz.i
  generalize l ++ [(⟨b, w, y⟩ : S81)] = L at hL hn hC ⊢
  refine Ev.ite (fun h7 => ?_) (fun h7 => ?_)
  · refine Ev.bind (l10MayConf_ev a b c d e g i j l m n p u v y hz.l z1 z2 (by omega) h3 h4 hc (by omega) (told_rc h6 h7)) (Ev.ite (fun h8 => ?_) (fun h8 => Ev.ret' (by rw [if_pos (show w = 2 ∧ ¬ mcV b d e l m (confF g i l l.length) (rc y).2 = true from ⟨h7, h8⟩)]; rfl)))
    rw [if_neg (show ¬ (w = 2 ∧ ¬ mcV b d e l m (confF g i l l.length) (rc y).2 = true) from fun q => q.2 h8)]
    refine Ev.ite (fun h9 => Ev.ret' (by rw [if_pos (show l.length = 500 by omega)]; rfl)) (fun h9 => ?_)
    rw [if_neg (show ¬ l.length = 500 by omega), if_pos h7]
    have hF := l10Conf_ev a b c d e g i j L m n p u v hL (by omega) (by omega)
    obtain ⟨c1, c2⟩ := conf_sz hC
    obtain ⟨ids, hids⟩ : ∃ ids, ids = memF (confF g i L L.length).1 (confF g i L L.length).2 a 50 1 := ⟨_, rfl⟩
    have hM : ids.length ≤ 50 := by rw [hids]; exact memF_length _ _ _ _ _
    have hm := l10Members_ev (confF g i L L.length).1 (confF g i L L.length).2 a (by omega) (by omega)
    rw [← hids] at hm
    have loop := speers_loop a b c d e g i j l m n p u v L ids hM hv hL hz.l.1 z1 z2 (hnd h5) (by omega) h3 (by omega) hC 0 (Nat.zero_le _)
    refine Ev.pos (by omega) (Ev.bind hF (Ev.bind hm ?_))
    rw [← hn, ← hids]
    exact loop
  · rw [if_neg (show ¬ (w = 2 ∧ ¬ mcV b d e l m (confF g i l l.length) (rc y).2 = true) from fun q => h7 q.1)]
    refine Ev.ite (fun h9 => Ev.ret' (by rw [if_pos (show l.length = 500 by omega)]; rfl)) (fun h9 => ?_)
    rw [if_neg (show ¬ l.length = 500 by omega), if_neg h7, ← hn]
    have hK := l10Count_ev a b c d e g i j L m n p u v hL z1 z2 hv (by omega) h3 (by omega) hC
    refine Ev.pos (by omega) (Ev.bind hK ?_)
    simp only []
    refine Ev.bind (l10Last_ev a b c d e g i j L m n p u v (by omega) hL.1) ?_
    exact Ev.ret _
theorem prV_sz (hz : SzN g i j l u v) (w : Int) (y : ByteArray) : SzN (prV a b c d e g i j l m n p u v (nodeB a b c d e g i j l m n p u v) w y).g (prV a b c d e g i j l m n p u v (nodeB a b c d e g i j l m n p u v) w y).i (prV a b c d e g i j l m n p u v (nodeB a b c d e g i j l m n p u v) w y).j (prV a b c d e g i j l m n p u v (nodeB a b c d e g i j l m n p u v) w y).l (prV a b c d e g i j l m n p u v (nodeB a b c d e g i j l m n p u v) w y).u (prV a b c d e g i j l m n p u v (nodeB a b c d e g i j l m n p u v) w y).v := by
  unfold prV
  by_cases h : nodeB a b c d e g i j l m n p u v = true
  · rw [if_pos h]
    obtain ⟨_, _, h2, _, _⟩ := nodeF a b c d e g i j l m n p u v h
    by_cases h5 : n = 2
    · rw [if_pos h5]
      by_cases h6 : toldB ⟨b, w, y⟩ = true
      · rw [if_pos h6]
        have hy : y.size ≤ 4000 := by
          have h6' := h6
          unfold toldB at h6'
          rw [Bool.and_eq_true] at h6'
          exact entB_size h6'.1
        split
        · exact hz
        · split
          · exact hz
          · refine ⟨hz.g, hz.i, hz.j, app_sz hz.l h2 (by show y.size ≤ _; omega), hz.u, ?_⟩
            simp only []
            split
            · rw [npV_len']
              exact Nat.le_trans (memF_length _ _ _ _ _) (by decide)
            · exact hz.v
      · rw [if_neg h6]; exact hz
    · rw [if_neg h5]; exact hz
  · rw [if_neg h]
    exact ⟨Nat.zero_le _, Nat.zero_le _, by decide, ⟨Nat.zero_le _, fun _ h => absurd h (Nat.not_lt_zero _)⟩, Nat.zero_le _, Nat.zero_le _⟩
end
theorem law4_ev (a b c d e : Int) (g i : List Int) (j : ByteArray) (l : List S124) (m n p : Int) (u : List Int) (v : List S128) (w : Int) (y : ByteArray) (ho : OkN g i j l u v) : Ev (fun k => f4 k a b c d e g i j l m n p u v w y) true := by
  simp only [f4, f4.start, PT.run, dite_eq_ite, PN.bindH_eq]
  refine Ev.ite (fun h1 => Ev.ret _) (fun hy => ?_)
  obtain ⟨r, hr, h⟩ := szNode_ev a b c d e g i j l m n p u v 1048576 (by decide) (by decide) ho
  refine Ev.bind hr ?_
  rcases h with h | ⟨h0, _, hz⟩
  · exact Ev.pos h (Ev.ret _)
  · refine Ev.neg (by omega) (Ev.bind (toNode_ev a b c d e g i j l m n p u v hz) (Ev.bind (spec_Propose a b c d e g i j (l.map to_Entry) m n p u (v.map to_Peer) hz w y) (Ev.bind (impl_Propose a b c d e g i j (l.map to_Entry) m n p u (v.map to_Peer) hz w y) ?_)))
    have hq := prV_sz a b c d e g i j (l.map to_Entry) m n p u (v.map to_Peer) hz w y
    generalize prV a b c d e g i j (l.map to_Entry) m n p u (v.map to_Peer) (nodeB a b c d e g i j (l.map to_Entry) m n p u (v.map to_Peer)) w y = s at hq ⊢
    have hE := eqNode_ev s.a s.b s.c s.d s.e s.g s.i s.j s.l s.m s.n s.p s.u s.v hq
    have hM := markN_ev s.a s.b s.c s.d s.e s.g s.i s.j s.l s.m s.n s.p s.u s.v hq
    have hH := heldN_ev s.a s.b s.c s.d s.e s.g s.i s.j s.l s.m s.n s.p s.u s.v hq
    refine Ev.bind hE (Ev.pos rfl (Ev.pos rfl (Ev.pos rfl (Ev.bind (eqNode_ev a b c d e g i j (l.map to_Entry) m n p u (v.map to_Peer) hz) (Ev.pos rfl (Ev.bind (markN_ev a b c d e g i j (l.map to_Entry) m n p u (v.map to_Peer) hz) (Ev.neg (by omega) ?_)))))))
    refine Ev.bind hM (Ev.pos (by rw [mkI_len]; rfl) (Ev.pos (by rw [mkI_len]; rfl) (Ev.pos (by rw [mkE_len]; rfl) (Ev.pos (by rw [mkI_len]; rfl) (Ev.pos (by rw [mkP_len]; rfl) ?_)))))
    exact Ev.bind hH (Ev.neg (by omega) (Ev.pos rfl (Ev.ret _)))
end Go.Proofs.YtmjmoagmolgacaaGreatDoor.P
namespace Go.Proofs.YtmjmoagmolgacaaGreatDoor.P
open Go Go.Proofs.YtmjmoagmolgacaaGreatDoor.PM Go.Proofs.YtmjmoagmolgacaaGreatDoor.PN Go.Proofs
set_option maxRecDepth 100000
set_option linter.unusedVariables false
theorem ti2 : TiOk Tryz.prog G 2 ⟨1, false, 8, .int .i64, some (.il .i64 0), some [none], none⟩ := ⟨by kernel_rfl, by kernel_rfl, by kernel_rfl, fun z h => some_all (p := fun z => zeroT Tryz.prog 2 = some (denA G z)) (by kernel_rfl) h, (by kernel_rfl : Tryz.prog.underlying 2 = some (.int .i64)), fun l h => some_all (p := fun l => cellKs Tryz.prog 8 2 = some (l.map (Option.map G.w))) (by kernel_rfl) h, fun l h => none_all h⟩
theorem ti3 : TiOk Tryz.prog G 3 ⟨1, false, 8, .int .i64, some (.il .i64 0), some [none], none⟩ := ⟨by kernel_rfl, by kernel_rfl, by kernel_rfl, fun z h => some_all (p := fun z => zeroT Tryz.prog 3 = some (denA G z)) (by kernel_rfl) h, (by kernel_rfl : Tryz.prog.underlying 3 = some (.int .i64)), fun l h => some_all (p := fun l => cellKs Tryz.prog 8 3 = some (l.map (Option.map G.w))) (by kernel_rfl) h, fun l h => none_all h⟩
theorem ti4 : TiOk Tryz.prog G 4 ⟨1, false, 1, .bool, some (.bl false), some [none], none⟩ := ⟨by kernel_rfl, by kernel_rfl, by kernel_rfl, fun z h => some_all (p := fun z => zeroT Tryz.prog 4 = some (denA G z)) (by kernel_rfl) h, (by kernel_rfl : Tryz.prog.underlying 4 = some .bool), fun l h => some_all (p := fun l => cellKs Tryz.prog 8 4 = some (l.map (Option.map G.w))) (by kernel_rfl) h, fun l h => none_all h⟩
theorem ti5 : TiOk Tryz.prog G 5 ⟨1, false, 1, .int .u8, some (.il .u8 0), some [none], none⟩ := ⟨by kernel_rfl, by kernel_rfl, by kernel_rfl, fun z h => some_all (p := fun z => zeroT Tryz.prog 5 = some (denA G z)) (by kernel_rfl) h, (by kernel_rfl : Tryz.prog.underlying 5 = some (.int .u8)), fun l h => some_all (p := fun l => cellKs Tryz.prog 8 5 = some (l.map (Option.map G.w))) (by kernel_rfl) h, fun l h => none_all h⟩
theorem ti9 : TiOk Tryz.prog G 9 ⟨1, false, 16, .string, some (.s (⟨#[]⟩ : ByteArray)), some [none], none⟩ := ⟨by kernel_rfl, by kernel_rfl, by kernel_rfl, fun z h => some_all (p := fun z => zeroT Tryz.prog 9 = some (denA G z)) (by kernel_rfl) h, (by kernel_rfl : Tryz.prog.underlying 9 = some .string), fun l h => some_all (p := fun l => cellKs Tryz.prog 8 9 = some (l.map (Option.map G.w))) (by kernel_rfl) h, fun l h => none_all h⟩
theorem ti22 : TiOk Tryz.prog G 22 ⟨1, false, 24, .slice 5 6, some (.nil), some [some 6], none⟩ := ⟨by kernel_rfl, by kernel_rfl, by kernel_rfl, fun z h => some_all (p := fun z => zeroT Tryz.prog 22 = some (denA G z)) (by kernel_rfl) h, (by kernel_rfl : Tryz.prog.underlying 22 = some (.slice 5)), fun l h => some_all (p := fun l => cellKs Tryz.prog 8 22 = some (l.map (Option.map G.w))) (by kernel_rfl) h, fun l h => none_all h⟩
theorem ti24 : TiOk Tryz.prog G 24 ⟨1, false, 24, .slice 2 0, some (.nil), some [some 0], none⟩ := ⟨by kernel_rfl, by kernel_rfl, by kernel_rfl, fun z h => some_all (p := fun z => zeroT Tryz.prog 24 = some (denA G z)) (by kernel_rfl) h, (by kernel_rfl : Tryz.prog.underlying 24 = some (.slice 2)), fun l h => some_all (p := fun l => cellKs Tryz.prog 8 24 = some (l.map (Option.map G.w))) (by kernel_rfl) h, fun l h => none_all h⟩
theorem ti26 : TiOk Tryz.prog G 26 ⟨2, true, 48, .struct [(0, 24), (1, 24)], some (.agg [.nil, .nil]), some [some 0, some 0], none⟩ := ⟨by kernel_rfl, by kernel_rfl, by kernel_rfl, fun z h => some_all (p := fun z => zeroT Tryz.prog 26 = some (denA G z)) (by kernel_rfl) h, ⟨by kernel_rfl, fun l h => (by kernel_rfl : fieldsT Tryz.prog 26 = fieldsK G [(0, 24), (1, 24)]).trans h⟩, fun l h => some_all (p := fun l => cellKs Tryz.prog 8 26 = some (l.map (Option.map G.w))) (by kernel_rfl) h, fun l h => none_all h⟩
theorem ti39 : TiOk Tryz.prog G 39 ⟨2, true, 48, .struct [(0, 24), (1, 24)], some (.agg [.nil, .nil]), some [some 0, some 0], none⟩ := ⟨by kernel_rfl, by kernel_rfl, by kernel_rfl, fun z h => some_all (p := fun z => zeroT Tryz.prog 39 = some (denA G z)) (by kernel_rfl) h, ⟨by kernel_rfl, fun l h => (by kernel_rfl : fieldsT Tryz.prog 39 = fieldsK G [(0, 24), (1, 24)]).trans h⟩, fun l h => some_all (p := fun l => cellKs Tryz.prog 8 39 = some (l.map (Option.map G.w))) (by kernel_rfl) h, fun l h => none_all h⟩
theorem ti40 : TiOk Tryz.prog G 40 ⟨1, false, 24, .slice 124 1, some (.nil), some [some 1], none⟩ := ⟨by kernel_rfl, by kernel_rfl, by kernel_rfl, fun z h => some_all (p := fun z => zeroT Tryz.prog 40 = some (denA G z)) (by kernel_rfl) h, (by kernel_rfl : Tryz.prog.underlying 40 = some (.slice 124)), fun l h => some_all (p := fun l => cellKs Tryz.prog 8 40 = some (l.map (Option.map G.w))) (by kernel_rfl) h, fun l h => none_all h⟩
theorem ti41 : TiOk Tryz.prog G 41 ⟨1, false, 24, .slice 128 2, some (.nil), some [some 2], none⟩ := ⟨by kernel_rfl, by kernel_rfl, by kernel_rfl, fun z h => some_all (p := fun z => zeroT Tryz.prog 41 = some (denA G z)) (by kernel_rfl) h, (by kernel_rfl : Tryz.prog.underlying 41 = some (.slice 128)), fun l h => some_all (p := fun l => cellKs Tryz.prog 8 41 = some (l.map (Option.map G.w))) (by kernel_rfl) h, fun l h => none_all h⟩
theorem ti43 : TiOk Tryz.prog G 43 ⟨14, true, 200, .struct [(0, 2), (1, 2), (2, 2), (3, 2), (4, 2), (5, 39), (7, 9), (8, 40), (9, 2), (10, 2), (11, 2), (12, 24), (13, 41)], some (.agg [.il .i64 0, .il .i64 0, .il .i64 0, .il .i64 0, .il .i64 0, .nil, .nil, .s (⟨#[]⟩ : ByteArray), .nil, .il .i64 0, .il .i64 0, .il .i64 0, .nil, .nil]), some [none, none, none, none, none, some 0, some 0, none, some 1, none, none, none, some 0, some 2], none⟩ := ⟨by kernel_rfl, by kernel_rfl, by kernel_rfl, fun z h => some_all (p := fun z => zeroT Tryz.prog 43 = some (denA G z)) (by kernel_rfl) h, ⟨by kernel_rfl, fun l h => (by kernel_rfl : fieldsT Tryz.prog 43 = fieldsK G [(0, 2), (1, 2), (2, 2), (3, 2), (4, 2), (5, 39), (7, 9), (8, 40), (9, 2), (10, 2), (11, 2), (12, 24), (13, 41)]).trans h⟩, fun l h => some_all (p := fun l => cellKs Tryz.prog 8 43 = some (l.map (Option.map G.w))) (by kernel_rfl) h, fun l h => none_all h⟩
theorem ti45 : TiOk Tryz.prog G 45 ⟨1, false, 24, .slice 81 3, some (.nil), some [some 3], none⟩ := ⟨by kernel_rfl, by kernel_rfl, by kernel_rfl, fun z h => some_all (p := fun z => zeroT Tryz.prog 45 = some (denA G z)) (by kernel_rfl) h, (by kernel_rfl : Tryz.prog.underlying 45 = some (.slice 81)), fun l h => some_all (p := fun l => cellKs Tryz.prog 8 45 = some (l.map (Option.map G.w))) (by kernel_rfl) h, fun l h => none_all h⟩
theorem ti46 : TiOk Tryz.prog G 46 ⟨1, false, 24, .slice 88 4, some (.nil), some [some 4], none⟩ := ⟨by kernel_rfl, by kernel_rfl, by kernel_rfl, fun z h => some_all (p := fun z => zeroT Tryz.prog 46 = some (denA G z)) (by kernel_rfl) h, (by kernel_rfl : Tryz.prog.underlying 46 = some (.slice 88)), fun l h => some_all (p := fun l => cellKs Tryz.prog 8 46 = some (l.map (Option.map G.w))) (by kernel_rfl) h, fun l h => none_all h⟩
theorem ti48 : TiOk Tryz.prog G 48 ⟨14, true, 200, .struct [(0, 2), (1, 2), (2, 2), (3, 2), (4, 2), (5, 26), (7, 9), (8, 45), (9, 2), (10, 2), (11, 2), (12, 24), (13, 46)], some (.agg [.il .i64 0, .il .i64 0, .il .i64 0, .il .i64 0, .il .i64 0, .nil, .nil, .s (⟨#[]⟩ : ByteArray), .nil, .il .i64 0, .il .i64 0, .il .i64 0, .nil, .nil]), some [none, none, none, none, none, some 0, some 0, none, some 3, none, none, none, some 0, some 4], none⟩ := ⟨by kernel_rfl, by kernel_rfl, by kernel_rfl, fun z h => some_all (p := fun z => zeroT Tryz.prog 48 = some (denA G z)) (by kernel_rfl) h, ⟨by kernel_rfl, fun l h => (by kernel_rfl : fieldsT Tryz.prog 48 = fieldsK G [(0, 2), (1, 2), (2, 2), (3, 2), (4, 2), (5, 26), (7, 9), (8, 45), (9, 2), (10, 2), (11, 2), (12, 24), (13, 46)]).trans h⟩, fun l h => some_all (p := fun l => cellKs Tryz.prog 8 48 = some (l.map (Option.map G.w))) (by kernel_rfl) h, fun l h => none_all h⟩
theorem ti71 : TiOk Tryz.prog G 71 ⟨1, false, 24, .slice 9 5, some (.nil), some [some 5], none⟩ := ⟨by kernel_rfl, by kernel_rfl, by kernel_rfl, fun z h => some_all (p := fun z => zeroT Tryz.prog 71 = some (denA G z)) (by kernel_rfl) h, (by kernel_rfl : Tryz.prog.underlying 71 = some (.slice 9)), fun l h => some_all (p := fun l => cellKs Tryz.prog 8 71 = some (l.map (Option.map G.w))) (by kernel_rfl) h, fun l h => none_all h⟩
theorem ti81 : TiOk Tryz.prog G 81 ⟨3, true, 32, .struct [(0, 2), (1, 2), (2, 9)], some (.agg [.il .i64 0, .il .i64 0, .s (⟨#[]⟩ : ByteArray)]), some [none, none, none], none⟩ := ⟨by kernel_rfl, by kernel_rfl, by kernel_rfl, fun z h => some_all (p := fun z => zeroT Tryz.prog 81 = some (denA G z)) (by kernel_rfl) h, ⟨by kernel_rfl, fun l h => (by kernel_rfl : fieldsT Tryz.prog 81 = fieldsK G [(0, 2), (1, 2), (2, 9)]).trans h⟩, fun l h => some_all (p := fun l => cellKs Tryz.prog 8 81 = some (l.map (Option.map G.w))) (by kernel_rfl) h, fun l h => none_all h⟩
theorem ti88 : TiOk Tryz.prog G 88 ⟨3, true, 24, .struct [(0, 2), (1, 2), (2, 2)], some (.agg [.il .i64 0, .il .i64 0, .il .i64 0]), some [none, none, none], none⟩ := ⟨by kernel_rfl, by kernel_rfl, by kernel_rfl, fun z h => some_all (p := fun z => zeroT Tryz.prog 88 = some (denA G z)) (by kernel_rfl) h, ⟨by kernel_rfl, fun l h => (by kernel_rfl : fieldsT Tryz.prog 88 = fieldsK G [(0, 2), (1, 2), (2, 2)]).trans h⟩, fun l h => some_all (p := fun l => cellKs Tryz.prog 8 88 = some (l.map (Option.map G.w))) (by kernel_rfl) h, fun l h => none_all h⟩
theorem ti107 : TiOk Tryz.prog G 107 ⟨1, false, 8, .int .u64, some (.il .u64 0), some [none], none⟩ := ⟨by kernel_rfl, by kernel_rfl, by kernel_rfl, fun z h => some_all (p := fun z => zeroT Tryz.prog 107 = some (denA G z)) (by kernel_rfl) h, (by kernel_rfl : Tryz.prog.underlying 107 = some (.int .u64)), fun l h => some_all (p := fun l => cellKs Tryz.prog 8 107 = some (l.map (Option.map G.w))) (by kernel_rfl) h, fun l h => none_all h⟩
theorem ti115 : TiOk Tryz.prog G 115 ⟨1, false, 16, .iface, some (.ifl false), some [none], none⟩ := ⟨by kernel_rfl, by kernel_rfl, by kernel_rfl, fun z h => some_all (p := fun z => zeroT Tryz.prog 115 = some (denA G z)) (by kernel_rfl) h, ⟨_, Tryz.underlying115⟩, fun l h => some_all (p := fun l => cellKs Tryz.prog 8 115 = some (l.map (Option.map G.w))) (by kernel_rfl) h, fun l h => none_all h⟩
theorem ti124 : TiOk Tryz.prog G 124 ⟨3, true, 32, .struct [(0, 2), (1, 2), (2, 9)], some (.agg [.il .i64 0, .il .i64 0, .s (⟨#[]⟩ : ByteArray)]), some [none, none, none], none⟩ := ⟨by kernel_rfl, by kernel_rfl, by kernel_rfl, fun z h => some_all (p := fun z => zeroT Tryz.prog 124 = some (denA G z)) (by kernel_rfl) h, ⟨by kernel_rfl, fun l h => (by kernel_rfl : fieldsT Tryz.prog 124 = fieldsK G [(0, 2), (1, 2), (2, 9)]).trans h⟩, fun l h => some_all (p := fun l => cellKs Tryz.prog 8 124 = some (l.map (Option.map G.w))) (by kernel_rfl) h, fun l h => none_all h⟩
theorem ti128 : TiOk Tryz.prog G 128 ⟨3, true, 24, .struct [(0, 2), (1, 2), (2, 2)], some (.agg [.il .i64 0, .il .i64 0, .il .i64 0]), some [none, none, none], none⟩ := ⟨by kernel_rfl, by kernel_rfl, by kernel_rfl, fun z h => some_all (p := fun z => zeroT Tryz.prog 128 = some (denA G z)) (by kernel_rfl) h, ⟨by kernel_rfl, fun l h => (by kernel_rfl : fieldsT Tryz.prog 128 = fieldsK G [(0, 2), (1, 2), (2, 2)]).trans h⟩, fun l h => some_all (p := fun l => cellKs Tryz.prog 8 128 = some (l.map (Option.map G.w))) (by kernel_rfl) h, fun l h => none_all h⟩
theorem ti136 : TiOk Tryz.prog G 136 ⟨1, false, 8, .int .u64, some (.il .u64 0), some [none], none⟩ := ⟨by kernel_rfl, by kernel_rfl, by kernel_rfl, fun z h => some_all (p := fun z => zeroT Tryz.prog 136 = some (denA G z)) (by kernel_rfl) h, (by kernel_rfl : Tryz.prog.underlying 136 = some (.int .u64)), fun l h => some_all (p := fun l => cellKs Tryz.prog 8 136 = some (l.map (Option.map G.w))) (by kernel_rfl) h, fun l h => none_all h⟩
theorem ti151 : TiOk Tryz.prog G 151 ⟨24, true, 24, .array 24 5, some (.agg [.il .u8 0, .il .u8 0, .il .u8 0, .il .u8 0, .il .u8 0, .il .u8 0, .il .u8 0, .il .u8 0, .il .u8 0, .il .u8 0, .il .u8 0, .il .u8 0, .il .u8 0, .il .u8 0, .il .u8 0, .il .u8 0, .il .u8 0, .il .u8 0, .il .u8 0, .il .u8 0, .il .u8 0, .il .u8 0, .il .u8 0, .il .u8 0]), some [none, none, none, none, none, none, none, none, none, none, none, none, none, none, none, none, none, none, none, none, none, none, none, none], none⟩ := ⟨by kernel_rfl, by kernel_rfl, by kernel_rfl, fun z h => some_all (p := fun z => zeroT Tryz.prog 151 = some (denA G z)) (by kernel_rfl) h, (by kernel_rfl : Tryz.prog.underlying 151 = some (.array 24 5)), fun l h => some_all (p := fun l => cellKs Tryz.prog 8 151 = some (l.map (Option.map G.w))) (by kernel_rfl) h, fun l h => none_all h⟩
theorem tis_ok : TisOk Tryz.prog G tis := (tis_cons ti2 (tis_cons ti3 (tis_cons ti4 (tis_cons ti5 (tis_cons ti9 (tis_cons ti22 (tis_cons ti24 (tis_cons ti26 (tis_cons ti39 (tis_cons ti40 (tis_cons ti41 (tis_cons ti43 (tis_cons ti45 (tis_cons ti46 (tis_cons ti48 (tis_cons ti71 (tis_cons ti81 (tis_cons ti88 (tis_cons ti107 (tis_cons ti115 (tis_cons ti124 (tis_cons ti128 (tis_cons ti136 (tis_cons ti151 tis_nil))))))))))))))))))))))))
theorem G_mk : ∀ t cs x, G.mkE t cs = some x → cs.map (den1 G) = (G.cells t x).map (den1 G)
  | 0 => fun cs x h => by
    match cs, h with
    | [c0], h => have h : (cI .i64 c0 fun a0 => some (a0 : Int) : Option (Int)) = some x := h; obtain ⟨a0, e0, h⟩ := cI_some h; obtain rfl := Option.some.inj h; simp only [List.map_cons, List.map_nil, e0]; rfl
    | [], h => cases h
    | _ :: _ :: _, h => cases h
  | 1 => fun cs x h => by
    match cs, h with
    | [c0, c1, c2], h => have h : (cI .i64 c0 fun a0 => cI .i64 c1 fun a1 => cS c2 fun a2 => some (⟨a0, a1, a2⟩ : S124) : Option (S124)) = some x := h; obtain ⟨a0, e0, h⟩ := cI_some h; obtain ⟨a1, e1, h⟩ := cI_some h; obtain ⟨a2, e2, h⟩ := cS_some h; obtain rfl := Option.some.inj h; simp only [List.map_cons, List.map_nil, e0, e1, e2]; rfl
    | [], h => cases h
    | _ :: _ :: _ :: _ :: _, h => cases h
    | [_], h => cases h
    | [_, _], h => cases h
  | 2 => fun cs x h => by
    match cs, h with
    | [c0, c1, c2], h => have h : (cI .i64 c0 fun a0 => cI .i64 c1 fun a1 => cI .i64 c2 fun a2 => some (⟨a0, a1, a2⟩ : S128) : Option (S128)) = some x := h; obtain ⟨a0, e0, h⟩ := cI_some h; obtain ⟨a1, e1, h⟩ := cI_some h; obtain ⟨a2, e2, h⟩ := cI_some h; obtain rfl := Option.some.inj h; simp only [List.map_cons, List.map_nil, e0, e1, e2]; rfl
    | [], h => cases h
    | _ :: _ :: _ :: _ :: _, h => cases h
    | [_], h => cases h
    | [_, _], h => cases h
  | 3 => fun cs x h => by
    match cs, h with
    | [c0, c1, c2], h => have h : (cI .i64 c0 fun a0 => cI .i64 c1 fun a1 => cS c2 fun a2 => some (⟨a0, a1, a2⟩ : S81) : Option (S81)) = some x := h; obtain ⟨a0, e0, h⟩ := cI_some h; obtain ⟨a1, e1, h⟩ := cI_some h; obtain ⟨a2, e2, h⟩ := cS_some h; obtain rfl := Option.some.inj h; simp only [List.map_cons, List.map_nil, e0, e1, e2]; rfl
    | [], h => cases h
    | _ :: _ :: _ :: _ :: _, h => cases h
    | [_], h => cases h
    | [_, _], h => cases h
  | 4 => fun cs x h => by
    match cs, h with
    | [c0, c1, c2], h => have h : (cI .i64 c0 fun a0 => cI .i64 c1 fun a1 => cI .i64 c2 fun a2 => some (⟨a0, a1, a2⟩ : S88) : Option (S88)) = some x := h; obtain ⟨a0, e0, h⟩ := cI_some h; obtain ⟨a1, e1, h⟩ := cI_some h; obtain ⟨a2, e2, h⟩ := cI_some h; obtain rfl := Option.some.inj h; simp only [List.map_cons, List.map_nil, e0, e1, e2]; rfl
    | [], h => cases h
    | _ :: _ :: _ :: _ :: _, h => cases h
    | [_], h => cases h
    | [_, _], h => cases h
  | 5 => fun cs x h => by
    match cs, h with
    | [c0], h => have h : (cS c0 fun a0 => some (a0 : ByteArray) : Option (ByteArray)) = some x := h; obtain ⟨a0, e0, h⟩ := cS_some h; obtain rfl := Option.some.inj h; simp only [List.map_cons, List.map_nil, e0]; rfl
    | [], h => cases h
    | _ :: _ :: _, h => cases h
  | 6 => fun cs x h => by
    match cs, h with
    | [c0], h => have h : (cI .u8 c0 fun a0 => some (a0 : Int) : Option (Int)) = some x := h; obtain ⟨a0, e0, h⟩ := cI_some h; obtain rfl := Option.some.inj h; simp only [List.map_cons, List.map_nil, e0]; rfl
    | [], h => cases h
    | _ :: _ :: _, h => cases h
  | _ + 7 => fun cs x h => by cases h
theorem G_ok : SgOk Tryz.prog G where
  enc := fun t => match t with | 0 => fun _ => rfl | 1 => fun _ => rfl | 2 => fun _ => rfl | 3 => fun _ => rfl | 4 => fun _ => rfl | 5 => fun _ => rfl | 6 => fun _ => rfl | _ + 7 => fun _ => rfl
  len := fun t => match t with | 0 => fun _ => rfl | 1 => fun _ => rfl | 2 => fun _ => rfl | 3 => fun _ => rfl | 4 => fun _ => rfl | 5 => fun _ => rfl | 6 => fun _ => rfl | _ + 7 => fun _ => rfl
  agg1 := fun t => match t with | 0 => fun _ => rfl | 1 => fun h => by cases h | 2 => fun h => by cases h | 3 => fun h => by cases h | 4 => fun h => by cases h | 5 => fun _ => rfl | 6 => fun _ => rfl | _ + 7 => fun h => by cases h
  mkC := G_mk
  ofStr := fun t => match t with | 0 => fun _ _ h => by cases h | 1 => fun _ _ h => by cases h | 2 => fun _ _ h => by cases h | 3 => fun _ _ h => by cases h | 4 => fun _ _ h => by cases h | 5 => fun _ _ h => by cases h | 6 => fun s xs h => by obtain rfl := Option.some.inj h; exact ofStr_u8 s | _ + 7 => fun _ _ h => by cases h
  toStr := fun t => match t with | 0 => fun _ _ h => by cases h | 1 => fun _ _ h => by cases h | 2 => fun _ _ h => by cases h | 3 => fun _ _ h => by cases h | 4 => fun _ _ h => by cases h | 5 => fun _ _ h => by cases h | 6 => fun xs s h => by obtain rfl := Option.some.inj h; exact toStr_u8 xs | _ + 7 => fun _ _ h => by cases h
  flat := fun t => match t with | 0 => fun _ _ => rfl | 1 => fun _ _ => rfl | 2 => fun _ _ => rfl | 3 => fun _ _ => rfl | 4 => fun _ _ => rfl | 5 => fun _ _ => rfl | 6 => fun _ _ => rfl | _ + 7 => fun _ _ => rfl
  ti := tis_ok
def FOk (n : Nat) (a : List (V El)) (o : List (O El)) (r : V El × List (O El)) : Prop := callT Tryz.prog C0 P0 n (List.map (denV G) a) (List.map (denO G) o) = some (denV G r.1, List.map (denO G) r.2)
theorem fok {n : Nat} {fn : Func} {R Lb : Type} {D : Nat → Lb → Option R} {start : PT R Lb} {o : R → V El × List (O El)} {args : List (V El)} {objs : List (O El)} {k : Nat} {r : R} (l : List (Pk Tryz.prog C0 P0 G)) (h0 : H) (stt : Lb → Nat × S El) (hint : Lb → H) (blk : Nat → Lb → PT R Lb)
    (hf : Tryz.prog.funcs[n]? = some fn) (h : start.run (D k) = some r) (kt : Nat → Nat → Nat := fun _ _ => 0) (hp : P0 n = none := by kernel_rfl) (hb : fn.body = some fn.body.get! := by kernel_rfl) (ho : okCode (C0 n) fn.body.get! = true := by kernel_rfl) (hids : PN.distinct (PN.ids fn.body.get!) = true := by kernel_rfl) (hn : Nat.ble args.length fn.ntmps = true := by kernel_rfl)
    (D0 : ∀ x, D 0 x = none := by intro x; rfl) (DS : ∀ k x, D (k + 1) x = (blk k x).run (D k) := by intro k x; rfl)
    (hT : ∀ k x, resume ⟨G, evK l k, C0 n, kt⟩ (stt x).1 fn.body.get! (stt x).2 (hint x) (endK ⟨G, evK l k, C0 n, kt⟩ fn objs.length) = some ((blk k x).lay (outL o) (jumpL stt)) := by intro k x; cases x <;> kernel_rfl)
    (h0T : PN.exec ⟨G, evK l k, C0 n, kt⟩ fn.body.get! (startS fn.ntmps args objs) h0 (endK ⟨G, evK l k, C0 n, kt⟩ fn objs.length) = start.lay (outL o) (jumpL stt) := by kernel_rfl) : FOk n args objs (o r) :=
  fn_ok (D := D) (blk := blk) G_ok (fun k => evK_ok l k) hp hf hb ho hids rfl (Nat.le_of_ble_eq_true hn) D0 DS hT h0T h
theorem fok0 {n : Nat} {fn : Func} {R : Type} {start : PT R Empty} {o : R → V El × List (O El)} {args : List (V El)} {objs : List (O El)} {k : Nat} {r : R} (l : List (Pk Tryz.prog C0 P0 G)) (h0 : H)
    (hf : Tryz.prog.funcs[n]? = some fn) (h : start.run Empty.elim = some r) (kt : Nat → Nat → Nat := fun _ _ => 0) (hp : P0 n = none := by kernel_rfl) (hb : fn.body = some fn.body.get! := by kernel_rfl) (ho : okCode (C0 n) fn.body.get! = true := by kernel_rfl) (hids : PN.distinct (PN.ids fn.body.get!) = true := by kernel_rfl) (hn : Nat.ble args.length fn.ntmps = true := by kernel_rfl)
    (h0T : PN.exec ⟨G, evK l k, C0 n, kt⟩ fn.body.get! (startS fn.ntmps args objs) h0 (endK ⟨G, evK l k, C0 n, kt⟩ fn objs.length) = start.lay (outL o) (jumpL (Empty.elim : Empty → Nat × S El)) := by kernel_rfl) : FOk n args objs (o r) :=
  fn_ok0 (k := k) (E := evK l) G_ok (fun k => evK_ok l k) hp hf hb ho hids rfl (Nat.le_of_ble_eq_true hn) h0T h
end Go.Proofs.YtmjmoagmolgacaaGreatDoor.P
namespace Go.Proofs.YtmjmoagmolgacaaGreatDoor.P
open Go Go.Proofs.YtmjmoagmolgacaaGreatDoor.PM Go.Proofs.YtmjmoagmolgacaaGreatDoor.PN Go.Proofs
set_option maxRecDepth 100000
set_option linter.unusedVariables false
theorem f53_ok {k a b r} (h : f53 k a b = some r) : FOk 53 [.sl 0 a [], .id .i64 2 b] [] (f53.o r) :=
 fok0 [] .all (k := k) (o := f53.o) Tryz.func53 h
def pf53 : Pk Tryz.prog C0 P0 G := ⟨53, sf53, fun k => sum_auto (@f53_ok k)⟩
end Go.Proofs.YtmjmoagmolgacaaGreatDoor.P
namespace Go.Proofs.YtmjmoagmolgacaaGreatDoor.P
open Go Go.Proofs.YtmjmoagmolgacaaGreatDoor.PM Go.Proofs.YtmjmoagmolgacaaGreatDoor.PN Go.Proofs
set_option maxRecDepth 100000
set_option linter.unusedVariables false
theorem f51_ok {k a b c r} (h : f51 k a b c = some r) : FOk 51 [.agg [.sl 0 a [], .sl 0 b []], .id .i64 2 c] [] (f51.o r) :=
 fok0 [pf53] .all (k := k) (o := f51.o) Tryz.func51 h
def pf51 : Pk Tryz.prog C0 P0 G := ⟨51, sf51, fun k => sum_auto (@f51_ok k)⟩
end Go.Proofs.YtmjmoagmolgacaaGreatDoor.P
namespace Go.Proofs.YtmjmoagmolgacaaGreatDoor.P
open Go Go.Proofs.YtmjmoagmolgacaaGreatDoor.PM Go.Proofs.YtmjmoagmolgacaaGreatDoor.PN Go.Proofs
set_option maxRecDepth 100000
set_option linter.unusedVariables false
theorem f105_ok {k a b c d r} (h : f105 k a b c d = some r) : FOk 105 [.agg [.id .i64 0 a, .id .i64 0 b, .s c], .id .i64 2 d] [] (f105.o r) :=
 fok0 [] .all (k := k) (o := f105.o) Tryz.func105 h
def pf105 : Pk Tryz.prog C0 P0 G := ⟨105, sf105, fun k => sum_auto (@f105_ok k)⟩
end Go.Proofs.YtmjmoagmolgacaaGreatDoor.P
namespace Go.Proofs.YtmjmoagmolgacaaGreatDoor.P
open Go Go.Proofs.YtmjmoagmolgacaaGreatDoor.PM Go.Proofs.YtmjmoagmolgacaaGreatDoor.PN Go.Proofs
set_option maxRecDepth 100000
set_option linter.unusedVariables false
theorem f52_ok {k a b r} (h : f52 k a b = some r) : FOk 52 [.sl 1 a [], .id .i64 2 b] [] (f52.o r) :=
 fok [pf105] .all f52.st (fun _ => .all) (D := f52.D) f52.blk (o := f52.o) Tryz.func52 h
def pf52 : Pk Tryz.prog C0 P0 G := ⟨52, sf52, fun k => sum_auto (@f52_ok k)⟩
end Go.Proofs.YtmjmoagmolgacaaGreatDoor.P
namespace Go.Proofs.YtmjmoagmolgacaaGreatDoor.P
open Go Go.Proofs.YtmjmoagmolgacaaGreatDoor.PM Go.Proofs.YtmjmoagmolgacaaGreatDoor.PN Go.Proofs
set_option maxRecDepth 100000
set_option linter.unusedVariables false
theorem f54_ok {k a b r} (h : f54 k a b = some r) : FOk 54 [.sl 2 a [], .id .i64 2 b] [] (f54.o r) :=
 fok0 [] .all (k := k) (o := f54.o) Tryz.func54 h
def pf54 : Pk Tryz.prog C0 P0 G := ⟨54, sf54, fun k => sum_auto (@f54_ok k)⟩
end Go.Proofs.YtmjmoagmolgacaaGreatDoor.P
namespace Go.Proofs.YtmjmoagmolgacaaGreatDoor.P
open Go Go.Proofs.YtmjmoagmolgacaaGreatDoor.PM Go.Proofs.YtmjmoagmolgacaaGreatDoor.PN Go.Proofs
set_option maxRecDepth 100000
set_option linter.unusedVariables false
theorem f17_ok {k a b c d e g i j l m n p u v w r} (h : f17 k a b c d e g i j l m n p u v w = some r) : FOk 17 [.agg [.id .i64 0 a, .id .i64 0 b, .id .i64 0 c, .id .i64 0 d, .id .i64 0 e, .sl 0 g [], .sl 0 i [], .s j, .sl 1 l [], .id .i64 0 m, .id .i64 0 n, .id .i64 0 p, .sl 0 u [], .sl 2 v []], .id .i64 2 w] [] (f17.o r) :=
 fok0 [pf51, pf52, pf53, pf54] .all (k := k) (o := f17.o) Tryz.func17 h
def pf17 : Pk Tryz.prog C0 P0 G := ⟨17, sf17, fun k => sum_auto (@f17_ok k)⟩
end Go.Proofs.YtmjmoagmolgacaaGreatDoor.P
namespace Go.Proofs.YtmjmoagmolgacaaGreatDoor.P
open Go Go.Proofs.YtmjmoagmolgacaaGreatDoor.PM Go.Proofs.YtmjmoagmolgacaaGreatDoor.PN Go.Proofs
set_option maxRecDepth 100000
set_option linter.unusedVariables false
theorem f29_ok {k a b c r} (h : f29 k a b c = some r) : FOk 29 [.id .i64 1 a, .id .i64 2 b, .id .i64 3 c] [] (f29.o r) :=
 fok0 [] (.both (.l (.l (.l .all))) (.r (.r (.r .all)))) (k := k) (o := f29.o) Tryz.func29 h
def pf29 : Pk Tryz.prog C0 P0 G := ⟨29, sf29, fun k => sum_auto (@f29_ok k)⟩
end Go.Proofs.YtmjmoagmolgacaaGreatDoor.P
namespace Go.Proofs.YtmjmoagmolgacaaGreatDoor.P
open Go Go.Proofs.YtmjmoagmolgacaaGreatDoor.PM Go.Proofs.YtmjmoagmolgacaaGreatDoor.PN Go.Proofs
set_option maxRecDepth 100000
set_option linter.unusedVariables false
theorem f30_ok {k a b r} (h : f30 k a b = some r) : FOk 30 [.sl 0 a [], .id .i64 2 b] [] (f30.o r) :=
 fok [] .all f30.st (fun _ => .all) (D := f30.D) f30.blk (o := f30.o) Tryz.func30 h
def pf30 : Pk Tryz.prog C0 P0 G := ⟨30, sf30, fun k => sum_auto (@f30_ok k)⟩
end Go.Proofs.YtmjmoagmolgacaaGreatDoor.P
namespace Go.Proofs.YtmjmoagmolgacaaGreatDoor.P
open Go Go.Proofs.YtmjmoagmolgacaaGreatDoor.PM Go.Proofs.YtmjmoagmolgacaaGreatDoor.PN Go.Proofs
set_option maxRecDepth 100000
set_option linter.unusedVariables false
theorem f59_ok {k a b c r} (h : f59 k a b c = some r) : FOk 59 [.agg [.sl 0 a [], .sl 0 b []], .id .i64 2 c] [] (f59.o r) :=
 fok [pf30] .all f59.st f59.hint (D := f59.D) f59.blk (o := f59.o) Tryz.func59 h
def pf59 : Pk Tryz.prog C0 P0 G := ⟨59, sf59, fun k => sum_auto (@f59_ok k)⟩
end Go.Proofs.YtmjmoagmolgacaaGreatDoor.P
namespace Go.Proofs.YtmjmoagmolgacaaGreatDoor.P
open Go Go.Proofs.YtmjmoagmolgacaaGreatDoor.PM Go.Proofs.YtmjmoagmolgacaaGreatDoor.PN Go.Proofs
set_option maxRecDepth 100000
set_option linter.unusedVariables false
theorem f102_ok {k a r} (h : f102 k a = some r) : FOk 102 [.id .i64 1 a] [] (f102.o r) :=
 fok [] .all f102.st (fun _ => .all) (D := f102.D) f102.blk (o := f102.o) Tryz.func102 h
def pf102 : Pk Tryz.prog C0 P0 G := ⟨102, sf102, fun k => sum_auto (@f102_ok k)⟩
end Go.Proofs.YtmjmoagmolgacaaGreatDoor.P
namespace Go.Proofs.YtmjmoagmolgacaaGreatDoor.P
open Go Go.Proofs.YtmjmoagmolgacaaGreatDoor.PM Go.Proofs.YtmjmoagmolgacaaGreatDoor.PN Go.Proofs
set_option maxRecDepth 100000
set_option linter.unusedVariables false
theorem f90_ok {k a b r} (h : f90 k a b = some r) : FOk 90 [.sl 0 a [], .id .i64 2 b] [] (f90.o r) :=
 fok [pf29] .all f90.st f90.hint (D := f90.D) f90.blk (o := f90.o) Tryz.func90 h
def pf90 : Pk Tryz.prog C0 P0 G := ⟨90, sf90, fun k => sum_auto (@f90_ok k)⟩
end Go.Proofs.YtmjmoagmolgacaaGreatDoor.P
namespace Go.Proofs.YtmjmoagmolgacaaGreatDoor.P
open Go Go.Proofs.YtmjmoagmolgacaaGreatDoor.PM Go.Proofs.YtmjmoagmolgacaaGreatDoor.PN Go.Proofs
set_option maxRecDepth 100000
set_option linter.unusedVariables false
theorem f27_ok {k a b r} (h : f27 k a b = some r) : FOk 27 [.agg [.sl 0 a [], .sl 0 b []]] [] (f27.o r) :=
 fok [pf30, pf90] (.both (.l (.l (.l (.l .all)))) (.r (.r (.skip (.r (.r (.both (.l (.l (.skip (.l (.l .all))))) (.r (.r (.r (.r .all))))))))))) f27.st (fun _ => .all) (D := f27.D) f27.blk (o := f27.o) Tryz.func27 h
def pf27 : Pk Tryz.prog C0 P0 G := ⟨27, sf27, fun k => sum_auto (@f27_ok k)⟩
end Go.Proofs.YtmjmoagmolgacaaGreatDoor.P
namespace Go.Proofs.YtmjmoagmolgacaaGreatDoor.P
open Go Go.Proofs.YtmjmoagmolgacaaGreatDoor.PM Go.Proofs.YtmjmoagmolgacaaGreatDoor.PN Go.Proofs
set_option maxRecDepth 100000
set_option linter.unusedVariables false
theorem f46_ok {k a b r} (h : f46 k a b = some r) : FOk 46 [.agg [.sl 0 a [], .sl 0 b []]] [] (f46.o r) :=
 fok [pf27, pf102] .all f46.st (fun _ => .all) (D := f46.D) f46.blk (o := f46.o) Tryz.func46 h
def pf46 : Pk Tryz.prog C0 P0 G := ⟨46, sf46, fun k => sum_auto (@f46_ok k)⟩
end Go.Proofs.YtmjmoagmolgacaaGreatDoor.P
namespace Go.Proofs.YtmjmoagmolgacaaGreatDoor.P
open Go Go.Proofs.YtmjmoagmolgacaaGreatDoor.PM Go.Proofs.YtmjmoagmolgacaaGreatDoor.PN Go.Proofs
set_option maxRecDepth 100000
set_option linter.unusedVariables false
theorem f49_ok {k a b r} (h : f49 k a b = some r) : FOk 49 [.s a, .id .u8 2 b] [] (f49.o r) :=
 fok [] .all f49.st f49.hint (D := f49.D) f49.blk (o := f49.o) Tryz.func49 h
def pf49 : Pk Tryz.prog C0 P0 G := ⟨49, sf49, fun k => sum_auto (@f49_ok k)⟩
end Go.Proofs.YtmjmoagmolgacaaGreatDoor.P
namespace Go.Proofs.YtmjmoagmolgacaaGreatDoor.P
open Go Go.Proofs.YtmjmoagmolgacaaGreatDoor.PM Go.Proofs.YtmjmoagmolgacaaGreatDoor.PN Go.Proofs
set_option maxRecDepth 100000
set_option linter.unusedVariables false
theorem f104_ok {k a r} (h : f104 k a = some r) : FOk 104 [.id .u8 1 a] [] (f104.o r) :=
 fok0 [] (.both (.l (.l .all)) (.r (.r .all))) (k := k) (o := f104.o) Tryz.func104 h
def pf104 : Pk Tryz.prog C0 P0 G := ⟨104, sf104, fun k => sum_auto (@f104_ok k)⟩
end Go.Proofs.YtmjmoagmolgacaaGreatDoor.P
namespace Go.Proofs.YtmjmoagmolgacaaGreatDoor.P
open Go Go.Proofs.YtmjmoagmolgacaaGreatDoor.PM Go.Proofs.YtmjmoagmolgacaaGreatDoor.PN Go.Proofs
set_option maxRecDepth 100000
set_option linter.unusedVariables false
theorem f50_ok {k a b r} (h : f50 k a b = some r) : FOk 50 [.s a, .id .i64 2 b] [] (f50.o r) :=
 fok [pf104] (.both (.l (.l (.l .all))) (.r (.r (.r (.both (.l (.l (.l (.l (.l .all))))) (.r (.r (.r (.both (.l (.l (.r (.l (.r .all))))) (.r (.r (.r (.r (.r .all)))))))))))))) f50.st (fun _ => .all) (D := f50.D) f50.blk (o := f50.o) Tryz.func50 h
def pf50 : Pk Tryz.prog C0 P0 G := ⟨50, sf50, fun k => sum_auto (@f50_ok k)⟩
end Go.Proofs.YtmjmoagmolgacaaGreatDoor.P
namespace Go.Proofs.YtmjmoagmolgacaaGreatDoor.P
open Go Go.Proofs.YtmjmoagmolgacaaGreatDoor.PM Go.Proofs.YtmjmoagmolgacaaGreatDoor.PN Go.Proofs
set_option maxRecDepth 100000
set_option linter.unusedVariables false
theorem f15_ok {k a r} (h : f15 k a = some r) : FOk 15 [.s a] [] (f15.o r) :=
 fok [pf46, pf49, pf50] .all f15.st f15.hint (D := f15.D) f15.blk (o := f15.o) Tryz.func15 h
def pf15 : Pk Tryz.prog C0 P0 G := ⟨15, sf15, fun k => sum_auto (@f15_ok k)⟩
end Go.Proofs.YtmjmoagmolgacaaGreatDoor.P
namespace Go.Proofs.YtmjmoagmolgacaaGreatDoor.P
open Go Go.Proofs.YtmjmoagmolgacaaGreatDoor.PM Go.Proofs.YtmjmoagmolgacaaGreatDoor.PN Go.Proofs
set_option maxRecDepth 100000
set_option linter.unusedVariables false
theorem f28_ok {k a b r} (h : f28 k a b = some r) : FOk 28 [.agg [.sl 0 a [], .sl 0 b []]] [] (f28.o r) :=
 fok0 [] .all (k := k) (o := f28.o) Tryz.func28 h
def pf28 : Pk Tryz.prog C0 P0 G := ⟨28, sf28, fun k => sum_auto (@f28_ok k)⟩
end Go.Proofs.YtmjmoagmolgacaaGreatDoor.P
namespace Go.Proofs.YtmjmoagmolgacaaGreatDoor.P
open Go Go.Proofs.YtmjmoagmolgacaaGreatDoor.PM Go.Proofs.YtmjmoagmolgacaaGreatDoor.PN Go.Proofs
set_option maxRecDepth 100000
set_option linter.unusedVariables false
theorem f60_ok {k a b c d e g i j l m n p u v r} (h : f60 k a b c d e g i j l m n p u v = some r) : FOk 60 [.agg [.id .i64 0 a, .id .i64 0 b, .id .i64 0 c, .id .i64 0 d, .id .i64 0 e, .sl 0 g [], .sl 0 i [], .s j, .sl 3 l [], .id .i64 0 m, .id .i64 0 n, .id .i64 0 p, .sl 0 u [], .sl 4 v []]] [] (f60.o r) :=
 fok [pf15, pf28] .all f60.st (fun _ => .all) (D := f60.D) f60.blk (o := f60.o) Tryz.func60 h
def pf60 : Pk Tryz.prog C0 P0 G := ⟨60, sf60, fun k => sum_auto (@f60_ok k)⟩
end Go.Proofs.YtmjmoagmolgacaaGreatDoor.P
namespace Go.Proofs.YtmjmoagmolgacaaGreatDoor.P
open Go Go.Proofs.YtmjmoagmolgacaaGreatDoor.PM Go.Proofs.YtmjmoagmolgacaaGreatDoor.PN Go.Proofs
set_option maxRecDepth 100000
set_option linter.unusedVariables false
theorem f61_ok {k a b c d e g i j l m n p u v r} (h : f61 k a b c d e g i j l m n p u v = some r) : FOk 61 [.agg [.id .i64 0 a, .id .i64 0 b, .id .i64 0 c, .id .i64 0 d, .id .i64 0 e, .sl 0 g [], .sl 0 i [], .s j, .sl 3 l [], .id .i64 0 m, .id .i64 0 n, .id .i64 0 p, .sl 0 u [], .sl 4 v []]] [] (f61.o r) :=
 fok0 [] .all (k := k) (o := f61.o) Tryz.func61 h
def pf61 : Pk Tryz.prog C0 P0 G := ⟨61, sf61, fun k => sum_auto (@f61_ok k)⟩
end Go.Proofs.YtmjmoagmolgacaaGreatDoor.P
namespace Go.Proofs.YtmjmoagmolgacaaGreatDoor.P
open Go Go.Proofs.YtmjmoagmolgacaaGreatDoor.PM Go.Proofs.YtmjmoagmolgacaaGreatDoor.PN Go.Proofs
set_option maxRecDepth 100000
set_option linter.unusedVariables false
theorem f131_ok {k a b c d e g i j l m n p u v r} (h : f131 k a b c d e g i j l m n p u v = some r) : FOk 131 [.agg [.id .i64 0 a, .id .i64 0 b, .id .i64 0 c, .id .i64 0 d, .id .i64 0 e, .sl 0 g [], .sl 0 i [], .s j, .sl 3 l [], .id .i64 0 m, .id .i64 0 n, .id .i64 0 p, .sl 0 u [], .sl 4 v []]] [] (f131.o r) :=
 fok [pf29, pf59, pf60, pf61] .all f131.st f131.hint (D := f131.D) f131.blk (o := f131.o) Tryz.func131 h
def pf131 : Pk Tryz.prog C0 P0 G := ⟨131, sf131, fun k => sum_auto (@f131_ok k)⟩
end Go.Proofs.YtmjmoagmolgacaaGreatDoor.P
namespace Go.Proofs.YtmjmoagmolgacaaGreatDoor.P
open Go Go.Proofs.YtmjmoagmolgacaaGreatDoor.PM Go.Proofs.YtmjmoagmolgacaaGreatDoor.PN Go.Proofs
set_option maxRecDepth 100000
set_option linter.unusedVariables false
theorem f106_ok {k a b c d e g i j l m n p u v r} (h : f106 k a b c d e g i j l m n p u v = some r) : FOk 106 [.agg [.id .i64 0 a, .id .i64 0 b, .id .i64 0 c, .id .i64 0 d, .id .i64 0 e, .sl 0 g [], .sl 0 i [], .s j, .sl 3 l [], .id .i64 0 m, .id .i64 0 n, .id .i64 0 p, .sl 0 u [], .sl 4 v []]] [] (f106.o r) :=
 fok0 [pf90, pf131] (.skip (.both (.both (.both (.l (.l (.l (.l (.both (.l (.l (.l (.l (.l .all))))) (.r (.r (.r (.r (.r .all)))))))))) (.r (.r (.r (.r .all))))) (.both (.both (.l (.l (.l (.l (.both (.l (.l (.l (.l (.l (.both (.l (.l (.l (.l (.l .all))))) (.r (.r (.r (.r (.r .all))))))))))) (.r (.r (.r (.r (.r .all)))))))))) (.r (.r (.r (.r .all))))) (.both (.both (.l (.l (.l (.l (.both (.l (.l (.l (.l (.l (.both (.l (.l (.l (.l (.l (.both (.l (.skip (.l .all))) (.r (.r .all)))))))) (.r (.r (.r (.r (.r .all))))))))))) (.r (.r (.r (.r (.r .all)))))))))) (.r (.r (.r (.r .all))))) .all))) .all)) (k := k) (o := f106.o) Tryz.func106 h
def pf106 : Pk Tryz.prog C0 P0 G := ⟨106, sf106, fun k => sum_auto (@f106_ok k)⟩
end Go.Proofs.YtmjmoagmolgacaaGreatDoor.P
namespace Go.Proofs.YtmjmoagmolgacaaGreatDoor.P
open Go Go.Proofs.YtmjmoagmolgacaaGreatDoor.PM Go.Proofs.YtmjmoagmolgacaaGreatDoor.PN Go.Proofs
set_option maxRecDepth 100000
set_option linter.unusedVariables false
theorem f107_ok {k a b c r} (h : f107 k a b c = some r) : FOk 107 [.agg [.id .i64 0 a, .id .i64 0 b, .s c]] [] (f107.o r) :=
 fok0 [pf29] (.skip (.both (.l (.l (.skip (.l (.both (.l (.l (.l (.l .all)))) (.r (.r (.r (.r .all))))))))) (.r (.r (.r .all))))) (k := k) (o := f107.o) Tryz.func107 h
def pf107 : Pk Tryz.prog C0 P0 G := ⟨107, sf107, fun k => sum_auto (@f107_ok k)⟩
end Go.Proofs.YtmjmoagmolgacaaGreatDoor.P
namespace Go.Proofs.YtmjmoagmolgacaaGreatDoor.P
open Go Go.Proofs.YtmjmoagmolgacaaGreatDoor.PM Go.Proofs.YtmjmoagmolgacaaGreatDoor.PN Go.Proofs
set_option maxRecDepth 100000
set_option linter.unusedVariables false
theorem f57_ok {k a b c r} (h : f57 k a b c = some r) : FOk 57 [.agg [.id .i64 0 a, .id .i64 0 b, .s c]] [] (f57.o r) :=
 fok0 [pf15, pf107] .all (k := k) (o := f57.o) Tryz.func57 h
def pf57 : Pk Tryz.prog C0 P0 G := ⟨57, sf57, fun k => sum_auto (@f57_ok k)⟩
end Go.Proofs.YtmjmoagmolgacaaGreatDoor.P
namespace Go.Proofs.YtmjmoagmolgacaaGreatDoor.P
open Go Go.Proofs.YtmjmoagmolgacaaGreatDoor.PM Go.Proofs.YtmjmoagmolgacaaGreatDoor.PN Go.Proofs
set_option maxRecDepth 100000
set_option linter.unusedVariables false
theorem f55_ok {k a b c d e g i j l m n p u v r} (h : f55 k a b c d e g i j l m n p u v = some r) : FOk 55 [.agg [.id .i64 0 a, .id .i64 0 b, .id .i64 0 c, .id .i64 0 d, .id .i64 0 e, .sl 0 g [], .sl 0 i [], .s j, .sl 3 l [], .id .i64 0 m, .id .i64 0 n, .id .i64 0 p, .sl 0 u [], .sl 4 v []]] [] (f55.o r) :=
 fok [pf27, pf29, pf57, pf61, pf106] (.skip (.both (.l (.l (.skip (.l (.l (.both (.l (.l (.skip (.l (.l (.both (.l (.l (.skip (.l (.l (.both (.l (.l (.skip (.l (.l (.both (.l (.l (.l (.l (.skip (.l (.l (.both (.skip (.both (.l (.l (.l (.l (.both (.l (.l (.l (.l .all)))) (.r (.r (.r (.r (.both (.l (.l (.l (.l (.l (.l (.l (.l .all)))))))) (.r (.r (.r (.r (.r (.skip (.r (.skip (.r (.r .all)))))))))))))))))))) (.r (.r (.r (.r .all)))))) .all)))))))) (.r (.r (.r (.r (.r (.r .all)))))))))))) (.r (.r (.r (.r .all)))))))))) (.r (.r (.r (.r .all)))))))))) (.r (.r (.r (.r .all)))))))))) (.r (.r (.r (.r .all)))))) f55.st f55.hint (D := f55.D) f55.blk (o := f55.o) Tryz.func55 h
def pf55 : Pk Tryz.prog C0 P0 G := ⟨55, sf55, fun k => sum_auto (@f55_ok k)⟩
end Go.Proofs.YtmjmoagmolgacaaGreatDoor.P
namespace Go.Proofs.YtmjmoagmolgacaaGreatDoor.P
open Go Go.Proofs.YtmjmoagmolgacaaGreatDoor.PM Go.Proofs.YtmjmoagmolgacaaGreatDoor.PN Go.Proofs
set_option maxRecDepth 100000
set_option linter.unusedVariables false
theorem f56_ok {k a b c d e g i j l m n p u v r} (h : f56 k a b c d e g i j l m n p u v = some r) : FOk 56 [.agg [.id .i64 0 a, .id .i64 0 b, .id .i64 0 c, .id .i64 0 d, .id .i64 0 e, .sl 0 g [], .sl 0 i [], .s j, .sl 3 l [], .id .i64 0 m, .id .i64 0 n, .id .i64 0 p, .sl 0 u [], .sl 4 v []]] [] (f56.o r) :=
 fok0 [pf28] .all (k := k) (o := f56.o) Tryz.func56 h
def pf56 : Pk Tryz.prog C0 P0 G := ⟨56, sf56, fun k => sum_auto (@f56_ok k)⟩
end Go.Proofs.YtmjmoagmolgacaaGreatDoor.P
namespace Go.Proofs.YtmjmoagmolgacaaGreatDoor.P
open Go Go.Proofs.YtmjmoagmolgacaaGreatDoor.PM Go.Proofs.YtmjmoagmolgacaaGreatDoor.PN Go.Proofs
set_option maxRecDepth 100000
set_option linter.unusedVariables false
theorem f108_ok {k a b c d e g i j l m n p u v w r} (h : f108 k a b c d e g i j l m n p u v w = some r) : FOk 108 [.agg [.id .i64 0 a, .id .i64 0 b, .id .i64 0 c, .id .i64 0 d, .id .i64 0 e, .sl 0 g [], .sl 0 i [], .s j, .sl 3 l [], .id .i64 0 m, .id .i64 0 n, .id .i64 0 p, .sl 0 u [], .sl 4 v []], .id .i64 2 w] [] (f108.o r) :=
 fok0 [pf61] (.both .all (.both (.l (.l (.l (.l .all)))) (.r (.r (.skip (.r (.r .all))))))) (k := k) (o := f108.o) Tryz.func108 h
def pf108 : Pk Tryz.prog C0 P0 G := ⟨108, sf108, fun k => sum_auto (@f108_ok k)⟩
end Go.Proofs.YtmjmoagmolgacaaGreatDoor.P
namespace Go.Proofs.YtmjmoagmolgacaaGreatDoor.P
open Go Go.Proofs.YtmjmoagmolgacaaGreatDoor.PM Go.Proofs.YtmjmoagmolgacaaGreatDoor.PN Go.Proofs
set_option maxRecDepth 100000
set_option linter.unusedVariables false
theorem f31_ok {k a b r} (h : f31 k a b = some r) : FOk 31 [.sl 0 a [], .id .i64 2 b] [] (f31.o r) :=
 fok [] .all f31.st f31.hint (D := f31.D) f31.blk (o := f31.o) Tryz.func31 h
def pf31 : Pk Tryz.prog C0 P0 G := ⟨31, sf31, fun k => sum_auto (@f31_ok k)⟩
end Go.Proofs.YtmjmoagmolgacaaGreatDoor.P
namespace Go.Proofs.YtmjmoagmolgacaaGreatDoor.P
open Go Go.Proofs.YtmjmoagmolgacaaGreatDoor.PM Go.Proofs.YtmjmoagmolgacaaGreatDoor.PN Go.Proofs
set_option maxRecDepth 100000
set_option linter.unusedVariables false
theorem f32_ok {k a b r} (h : f32 k a b = some r) : FOk 32 [.sl 0 a [], .id .i64 2 b] [] (f32.o r) :=
 fok [] .all f32.st (fun _ => .all) (D := f32.D) f32.blk (o := f32.o) Tryz.func32 h
def pf32 : Pk Tryz.prog C0 P0 G := ⟨32, sf32, fun k => sum_auto (@f32_ok k)⟩
end Go.Proofs.YtmjmoagmolgacaaGreatDoor.P
namespace Go.Proofs.YtmjmoagmolgacaaGreatDoor.P
open Go Go.Proofs.YtmjmoagmolgacaaGreatDoor.PM Go.Proofs.YtmjmoagmolgacaaGreatDoor.PN Go.Proofs
set_option maxRecDepth 100000
set_option linter.unusedVariables false
theorem f7_ok {k a b c d r} (h : f7 k a b c d = some r) : FOk 7 [.agg [.sl 0 a [], .sl 0 b []], .id .i64 2 c, .id .i64 3 d] [] (f7.o r) :=
 fok0 [pf27, pf28, pf29, pf30, pf31, pf32] (.skip (.both (.bindr ((List Int) × (List Int)) fun t2 => (.skip (.both (.l (.skip (.l (.l (.both (.skip (.skip (.both (.both (.l .all) (.r (.both .all (.skip (.skip (.both .all (.re ((List Int) × (List Int)) t2 .all))))))) (.both (.both (.skip (.skip (.skip (.both .all (.re ((List Int) × (List Int)) t2 .all))))) .all) (.both (.both (.l (.l (.l (.l (.l (.l (.l (.both .all (.skip (.skip (.skip (.both .all (.re ((List Int) × (List Int)) t2 .all))))))))))))) (.r (.r (.both (.r (.r (.r (.r (.r (.skip (.skip (.skip (.both .all (.re ((List Int) × (List Int)) t2 .all)))))))))) .all)))) (.skip (.both .all (.re ((List Int) × (List Int)) t2 .all)))))))) .all))))) (.r (.r (.r .all)))))) .all)) (k := k) (o := f7.o) Tryz.func7 h
def pf7 : Pk Tryz.prog C0 P0 G := ⟨7, sf7, fun k => sum_auto (@f7_ok k)⟩
end Go.Proofs.YtmjmoagmolgacaaGreatDoor.P
namespace Go.Proofs.YtmjmoagmolgacaaGreatDoor.P
open Go Go.Proofs.YtmjmoagmolgacaaGreatDoor.PM Go.Proofs.YtmjmoagmolgacaaGreatDoor.PN Go.Proofs
set_option maxRecDepth 100000
set_option linter.unusedVariables false
theorem f109_ok {k a b c d r} (h : f109 k a b c d = some r) : FOk 109 [.agg [.sl 0 a [], .sl 0 b []], .agg [.sl 0 c [], .sl 0 d []]] [] (f109.o r) :=
 fok [pf7, pf46] .all f109.st f109.hint (D := f109.D) f109.blk (o := f109.o) Tryz.func109 h
def pf109 : Pk Tryz.prog C0 P0 G := ⟨109, sf109, fun k => sum_auto (@f109_ok k)⟩
end Go.Proofs.YtmjmoagmolgacaaGreatDoor.P
namespace Go.Proofs.YtmjmoagmolgacaaGreatDoor.P
open Go Go.Proofs.YtmjmoagmolgacaaGreatDoor.PM Go.Proofs.YtmjmoagmolgacaaGreatDoor.PN Go.Proofs
set_option maxRecDepth 100000
set_option linter.unusedVariables false
theorem f58_ok {k a b c d e g i j l m n p u v w r} (h : f58 k a b c d e g i j l m n p u v w = some r) : FOk 58 [.agg [.id .i64 0 a, .id .i64 0 b, .id .i64 0 c, .id .i64 0 d, .id .i64 0 e, .sl 0 g [], .sl 0 i [], .s j, .sl 3 l [], .id .i64 0 m, .id .i64 0 n, .id .i64 0 p, .sl 0 u [], .sl 4 v []], .s w] [] (f58.o r) :=
 fok [pf15, pf60, pf61, pf108, pf109] .all f58.st f58.hint (D := f58.D) f58.blk (o := f58.o) Tryz.func58 h
def pf58 : Pk Tryz.prog C0 P0 G := ⟨58, sf58, fun k => sum_auto (@f58_ok k)⟩
end Go.Proofs.YtmjmoagmolgacaaGreatDoor.P
namespace Go.Proofs.YtmjmoagmolgacaaGreatDoor.P
open Go Go.Proofs.YtmjmoagmolgacaaGreatDoor.PM Go.Proofs.YtmjmoagmolgacaaGreatDoor.PN Go.Proofs
set_option maxRecDepth 100000
set_option linter.unusedVariables false
theorem f110_ok {k a b c r} (h : f110 k a b c = some r) : FOk 110 [.agg [.sl 0 a [], .sl 0 b []], .sl 0 c []] [] (f110.o r) :=
 fok [pf27, pf30] .all f110.st (fun _ => .all) (D := f110.D) f110.blk (o := f110.o) Tryz.func110 h
def pf110 : Pk Tryz.prog C0 P0 G := ⟨110, sf110, fun k => sum_auto (@f110_ok k)⟩
end Go.Proofs.YtmjmoagmolgacaaGreatDoor.P
namespace Go.Proofs.YtmjmoagmolgacaaGreatDoor.P
open Go Go.Proofs.YtmjmoagmolgacaaGreatDoor.PM Go.Proofs.YtmjmoagmolgacaaGreatDoor.PN Go.Proofs
set_option maxRecDepth 100000
set_option linter.unusedVariables false
theorem f62_ok {k a b c d e g i j l m n p u v r} (h : f62 k a b c d e g i j l m n p u v = some r) : FOk 62 [.agg [.id .i64 0 a, .id .i64 0 b, .id .i64 0 c, .id .i64 0 d, .id .i64 0 e, .sl 0 g [], .sl 0 i [], .s j, .sl 3 l [], .id .i64 0 m, .id .i64 0 n, .id .i64 0 p, .sl 0 u [], .sl 4 v []]] [] (f62.o r) :=
 fok [pf60, pf61, pf108, pf110] .all f62.st (fun _ => .all) (D := f62.D) f62.blk (o := f62.o) Tryz.func62 h
def pf62 : Pk Tryz.prog C0 P0 G := ⟨62, sf62, fun k => sum_auto (@f62_ok k)⟩
end Go.Proofs.YtmjmoagmolgacaaGreatDoor.P
namespace Go.Proofs.YtmjmoagmolgacaaGreatDoor.P
open Go Go.Proofs.YtmjmoagmolgacaaGreatDoor.PM Go.Proofs.YtmjmoagmolgacaaGreatDoor.PN Go.Proofs
set_option maxRecDepth 100000
set_option linter.unusedVariables false
theorem f18_ok {k a b c d e g i j l m n p u v w y r} (h : f18 k a b c d e g i j l m n p u v w y = some r) : FOk 18 [.agg [.id .i64 0 a, .id .i64 0 b, .id .i64 0 c, .id .i64 0 d, .id .i64 0 e, .sl 0 g [], .sl 0 i [], .s j, .sl 3 l [], .id .i64 0 m, .id .i64 0 n, .id .i64 0 p, .sl 0 u [], .sl 4 v []], .id .i64 2 w, .s y] [] (f18.o r) :=
 fok [pf55, pf56, pf57, pf58, pf59, pf60, pf61, pf62] (.skip (.both (.skip (.both (.skip (.both (.both (.l (.l (.skip (.l (.l (.both (.both .all (.l .all)) .all)))))) (.r (.r (.r (.r (.both .all (.r .all))))))) .all)) .all)) .all)) f18.st (fun _ => .all) (D := f18.D) f18.blk (o := f18.o) Tryz.func18 h
def pf18 : Pk Tryz.prog C0 P0 G := ⟨18, sf18, fun k => sum_auto (@f18_ok k)⟩
end Go.Proofs.YtmjmoagmolgacaaGreatDoor.P
namespace Go.Proofs.YtmjmoagmolgacaaGreatDoor.P
open Go Go.Proofs.YtmjmoagmolgacaaGreatDoor.PM Go.Proofs.YtmjmoagmolgacaaGreatDoor.PN Go.Proofs
set_option maxRecDepth 100000
set_option linter.unusedVariables false
theorem f65_ok {k a r} (h : f65 k a = some r) : FOk 65 [.sl 0 a []] [] (f65.o r) :=
 fok [] .all f65.st (fun _ => .all) (D := f65.D) f65.blk (o := f65.o) Tryz.func65 h
def pf65 : Pk Tryz.prog C0 P0 G := ⟨65, sf65, fun k => sum_auto (@f65_ok k)⟩
end Go.Proofs.YtmjmoagmolgacaaGreatDoor.P
namespace Go.Proofs.YtmjmoagmolgacaaGreatDoor.P
open Go Go.Proofs.YtmjmoagmolgacaaGreatDoor.PM Go.Proofs.YtmjmoagmolgacaaGreatDoor.PN Go.Proofs
set_option maxRecDepth 100000
set_option linter.unusedVariables false
theorem f63_ok {k a b r} (h : f63 k a b = some r) : FOk 63 [.agg [.sl 0 a [], .sl 0 b []]] [] (f63.o r) :=
 fok0 [pf65] .all (k := k) (o := f63.o) Tryz.func63 h
def pf63 : Pk Tryz.prog C0 P0 G := ⟨63, sf63, fun k => sum_auto (@f63_ok k)⟩
end Go.Proofs.YtmjmoagmolgacaaGreatDoor.P
namespace Go.Proofs.YtmjmoagmolgacaaGreatDoor.P
open Go Go.Proofs.YtmjmoagmolgacaaGreatDoor.PM Go.Proofs.YtmjmoagmolgacaaGreatDoor.PN Go.Proofs
set_option maxRecDepth 100000
set_option linter.unusedVariables false
theorem f111_ok {k a b c r} (h : f111 k a b c = some r) : FOk 111 [.agg [.id .i64 0 a, .id .i64 0 b, .s c]] [] (f111.o r) :=
 fok0 [] .all (k := k) (o := f111.o) Tryz.func111 h
def pf111 : Pk Tryz.prog C0 P0 G := ⟨111, sf111, fun k => sum_auto (@f111_ok k)⟩
end Go.Proofs.YtmjmoagmolgacaaGreatDoor.P
namespace Go.Proofs.YtmjmoagmolgacaaGreatDoor.P
open Go Go.Proofs.YtmjmoagmolgacaaGreatDoor.PM Go.Proofs.YtmjmoagmolgacaaGreatDoor.PN Go.Proofs
set_option maxRecDepth 100000
set_option linter.unusedVariables false
theorem f64_ok {k a r} (h : f64 k a = some r) : FOk 64 [.sl 1 a []] [] (f64.o r) :=
 fok [pf111] .all f64.st (fun _ => .all) (D := f64.D) f64.blk (o := f64.o) Tryz.func64 h
def pf64 : Pk Tryz.prog C0 P0 G := ⟨64, sf64, fun k => sum_auto (@f64_ok k)⟩
end Go.Proofs.YtmjmoagmolgacaaGreatDoor.P
namespace Go.Proofs.YtmjmoagmolgacaaGreatDoor.P
open Go Go.Proofs.YtmjmoagmolgacaaGreatDoor.PM Go.Proofs.YtmjmoagmolgacaaGreatDoor.PN Go.Proofs
set_option maxRecDepth 100000
set_option linter.unusedVariables false
theorem f112_ok {k a b c r} (h : f112 k a b c = some r) : FOk 112 [.agg [.id .i64 0 a, .id .i64 0 b, .id .i64 0 c]] [] (f112.o r) :=
 fok0 [] .all (k := k) (o := f112.o) Tryz.func112 h
def pf112 : Pk Tryz.prog C0 P0 G := ⟨112, sf112, fun k => sum_auto (@f112_ok k)⟩
end Go.Proofs.YtmjmoagmolgacaaGreatDoor.P
namespace Go.Proofs.YtmjmoagmolgacaaGreatDoor.P
open Go Go.Proofs.YtmjmoagmolgacaaGreatDoor.PM Go.Proofs.YtmjmoagmolgacaaGreatDoor.PN Go.Proofs
set_option maxRecDepth 100000
set_option linter.unusedVariables false
theorem f66_ok {k a r} (h : f66 k a = some r) : FOk 66 [.sl 2 a []] [] (f66.o r) :=
 fok [pf112] .all f66.st (fun _ => .all) (D := f66.D) f66.blk (o := f66.o) Tryz.func66 h
def pf66 : Pk Tryz.prog C0 P0 G := ⟨66, sf66, fun k => sum_auto (@f66_ok k)⟩
end Go.Proofs.YtmjmoagmolgacaaGreatDoor.P
namespace Go.Proofs.YtmjmoagmolgacaaGreatDoor.P
open Go Go.Proofs.YtmjmoagmolgacaaGreatDoor.PM Go.Proofs.YtmjmoagmolgacaaGreatDoor.PN Go.Proofs
set_option maxRecDepth 100000
set_option linter.unusedVariables false
theorem f19_ok {k a b c d e g i j l m n p u v r} (h : f19 k a b c d e g i j l m n p u v = some r) : FOk 19 [.agg [.id .i64 0 a, .id .i64 0 b, .id .i64 0 c, .id .i64 0 d, .id .i64 0 e, .sl 0 g [], .sl 0 i [], .s j, .sl 1 l [], .id .i64 0 m, .id .i64 0 n, .id .i64 0 p, .sl 0 u [], .sl 2 v []]] [] (f19.o r) :=
 fok0 [pf63, pf64, pf65, pf66] .all (k := k) (o := f19.o) Tryz.func19 h
def pf19 : Pk Tryz.prog C0 P0 G := ⟨19, sf19, fun k => sum_auto (@f19_ok k)⟩
end Go.Proofs.YtmjmoagmolgacaaGreatDoor.P
namespace Go.Proofs.YtmjmoagmolgacaaGreatDoor.P
open Go Go.Proofs.YtmjmoagmolgacaaGreatDoor.PM Go.Proofs.YtmjmoagmolgacaaGreatDoor.PN Go.Proofs
set_option maxRecDepth 100000
set_option linter.unusedVariables false
theorem f36_ok {k a b c r} (h : f36 k a b c = some r) : FOk 36 [.id .i64 1 a, .id .i64 2 b, .id .i64 3 c] [] (f36.o r) :=
 fok0 [] (.both (.l (.l (.l .all))) (.r (.r (.r .all)))) (k := k) (o := f36.o) Tryz.func36 h
def pf36 : Pk Tryz.prog C0 P0 G := ⟨36, sf36, fun k => sum_auto (@f36_ok k)⟩
end Go.Proofs.YtmjmoagmolgacaaGreatDoor.P
namespace Go.Proofs.YtmjmoagmolgacaaGreatDoor.P
open Go Go.Proofs.YtmjmoagmolgacaaGreatDoor.PM Go.Proofs.YtmjmoagmolgacaaGreatDoor.PN Go.Proofs
set_option maxRecDepth 100000
set_option linter.unusedVariables false
theorem f113_ok {k a r} (h : f113 k a = some r) : FOk 113 [.id .i64 1 a] [] (f113.o r) :=
 fok0 [pf36] .all (k := k) (o := f113.o) Tryz.func113 h
def pf113 : Pk Tryz.prog C0 P0 G := ⟨113, sf113, fun k => sum_auto (@f113_ok k)⟩
end Go.Proofs.YtmjmoagmolgacaaGreatDoor.P
namespace Go.Proofs.YtmjmoagmolgacaaGreatDoor.P
open Go Go.Proofs.YtmjmoagmolgacaaGreatDoor.PM Go.Proofs.YtmjmoagmolgacaaGreatDoor.PN Go.Proofs
set_option maxRecDepth 100000
set_option linter.unusedVariables false
theorem f71_ok {k a b c d e g i j l m n p u v r} (h : f71 k a b c d e g i j l m n p u v = some r) : FOk 71 [.agg [.id .i64 0 a, .id .i64 0 b, .id .i64 0 c, .id .i64 0 d, .id .i64 0 e, .sl 0 g [], .sl 0 i [], .s j, .sl 3 l [], .id .i64 0 m, .id .i64 0 n, .id .i64 0 p, .sl 0 u [], .sl 4 v []]] [] (f71.o r) :=
 fok0 [] .all (k := k) (o := f71.o) Tryz.func71 h
def pf71 : Pk Tryz.prog C0 P0 G := ⟨71, sf71, fun k => sum_auto (@f71_ok k)⟩
end Go.Proofs.YtmjmoagmolgacaaGreatDoor.P
namespace Go.Proofs.YtmjmoagmolgacaaGreatDoor.P
open Go Go.Proofs.YtmjmoagmolgacaaGreatDoor.PM Go.Proofs.YtmjmoagmolgacaaGreatDoor.PN Go.Proofs
set_option maxRecDepth 100000
set_option linter.unusedVariables false
theorem f37_ok {k a r} (h : f37 k a = some r) : FOk 37 [.id .i64 1 a] [] (f37.o r) :=
 fok0 [pf36] .all (k := k) (o := f37.o) Tryz.func37 h
def pf37 : Pk Tryz.prog C0 P0 G := ⟨37, sf37, fun k => sum_auto (@f37_ok k)⟩
end Go.Proofs.YtmjmoagmolgacaaGreatDoor.P
namespace Go.Proofs.YtmjmoagmolgacaaGreatDoor.P
open Go Go.Proofs.YtmjmoagmolgacaaGreatDoor.PM Go.Proofs.YtmjmoagmolgacaaGreatDoor.PN Go.Proofs
set_option maxRecDepth 100000
set_option linter.unusedVariables false
theorem f93_ok {k a r} (h : f93 k a = some r) : FOk 93 [.sl 0 a []] [] (f93.o r) :=
 fok [pf37] .all f93.st f93.hint (D := f93.D) f93.blk (o := f93.o) Tryz.func93 h
def pf93 : Pk Tryz.prog C0 P0 G := ⟨93, sf93, fun k => sum_auto (@f93_ok k)⟩
end Go.Proofs.YtmjmoagmolgacaaGreatDoor.P
namespace Go.Proofs.YtmjmoagmolgacaaGreatDoor.P
open Go Go.Proofs.YtmjmoagmolgacaaGreatDoor.PM Go.Proofs.YtmjmoagmolgacaaGreatDoor.PN Go.Proofs
set_option maxRecDepth 100000
set_option linter.unusedVariables false
theorem f101_ok {k a b r} (h : f101 k a b = some r) : FOk 101 [.sl 0 a [], .id .i64 2 b] [] (f101.o r) :=
 fok [] .all f101.st (fun _ => .all) (D := f101.D) f101.blk (o := f101.o) Tryz.func101 h
def pf101 : Pk Tryz.prog C0 P0 G := ⟨101, sf101, fun k => sum_auto (@f101_ok k)⟩
end Go.Proofs.YtmjmoagmolgacaaGreatDoor.P
namespace Go.Proofs.YtmjmoagmolgacaaGreatDoor.P
open Go Go.Proofs.YtmjmoagmolgacaaGreatDoor.PM Go.Proofs.YtmjmoagmolgacaaGreatDoor.PN Go.Proofs
set_option maxRecDepth 100000
set_option linter.unusedVariables false
theorem f43_ok {k a b r} (h : f43 k a b = some r) : FOk 43 [.sl 0 a [], .id .i64 2 b] [] (f43.o r) :=
 fok0 [pf101] .all (k := k) (o := f43.o) Tryz.func43 h
def pf43 : Pk Tryz.prog C0 P0 G := ⟨43, sf43, fun k => sum_auto (@f43_ok k)⟩
end Go.Proofs.YtmjmoagmolgacaaGreatDoor.P
namespace Go.Proofs.YtmjmoagmolgacaaGreatDoor.P
open Go Go.Proofs.YtmjmoagmolgacaaGreatDoor.PM Go.Proofs.YtmjmoagmolgacaaGreatDoor.PN Go.Proofs
set_option maxRecDepth 100000
set_option linter.unusedVariables false
theorem f95_ok {k a o0_0 o0_1 r} (h : f95 k a o0_0 o0_1 = some r) : FOk 95 [.id .i64 1 a, .ptr 0 (.l 0) 0] [.box true true 0 2 true [.sl 0 o0_0 [], .sl 0 o0_1 []]] (f95.o o0_0 o0_1 r) :=
 fok0 [pf43] .all (k := k) (o := (f95.o o0_0 o0_1)) Tryz.func95 h
def pf95 : Pk Tryz.prog C0 P0 G := ⟨95, sf95, fun k => sum_auto (@f95_ok k)⟩
end Go.Proofs.YtmjmoagmolgacaaGreatDoor.P
namespace Go.Proofs.YtmjmoagmolgacaaGreatDoor.P
open Go Go.Proofs.YtmjmoagmolgacaaGreatDoor.PM Go.Proofs.YtmjmoagmolgacaaGreatDoor.PN Go.Proofs
set_option maxRecDepth 100000
set_option linter.unusedVariables false
theorem f125_ok {k a o0_0 o0_1 r} (h : f125 k a o0_0 o0_1 = some r) : FOk 125 [.sl 0 a [], .fn 95 [.ptr 0 (.l 0) 0]] [.box true true 0 2 true [.sl 0 o0_0 [], .sl 0 o0_1 []]] (f125.o r) :=
 fok [pf95] .all f125.st (fun _ => .all) (D := f125.D) f125.blk (o := f125.o) Tryz.func125 h
def pf125 : Pk Tryz.prog C0 P0 G := ⟨125, sf125, fun k => sum_auto (@f125_ok k)⟩
end Go.Proofs.YtmjmoagmolgacaaGreatDoor.P
namespace Go.Proofs.YtmjmoagmolgacaaGreatDoor.P
open Go Go.Proofs.YtmjmoagmolgacaaGreatDoor.PM Go.Proofs.YtmjmoagmolgacaaGreatDoor.PN Go.Proofs
set_option maxRecDepth 100000
set_option linter.unusedVariables false
theorem f94_ok {k a o0_0 o0_1 r} (h : f94 k a o0_0 o0_1 = some r) : FOk 94 [.sl 0 a [], .fn 95 [.ptr 0 (.l 0) 0]] [.box true true 0 2 true [.sl 0 o0_0 [], .sl 0 o0_1 []]] (f94.o r) :=
 fok0 [pf125] .all (k := k) (o := f94.o) Tryz.func94 h
def pf94 : Pk Tryz.prog C0 P0 G := ⟨94, sf94, fun k => sum_auto (@f94_ok k)⟩
end Go.Proofs.YtmjmoagmolgacaaGreatDoor.P
namespace Go.Proofs.YtmjmoagmolgacaaGreatDoor.P
open Go Go.Proofs.YtmjmoagmolgacaaGreatDoor.PM Go.Proofs.YtmjmoagmolgacaaGreatDoor.PN Go.Proofs
set_option maxRecDepth 100000
set_option linter.unusedVariables false
theorem f35_ok {k a b r} (h : f35 k a b = some r) : FOk 35 [.agg [.sl 0 a [], .sl 0 b []]] [] (f35.o r) :=
 fok0 [pf93, pf94] (.both (.l (.l (.skip (.l (.both (.l (.l (.skip (.l (.both (.l (.l (.l (.skip (.l (.l .all)))))) (.r (.r (.r (.r (.r .all)))))))))) (.r (.r (.r .all)))))))) (.r (.r (.r .all)))) (k := k) (o := f35.o) Tryz.func35 h
def pf35 : Pk Tryz.prog C0 P0 G := ⟨35, sf35, fun k => sum_auto (@f35_ok k)⟩
end Go.Proofs.YtmjmoagmolgacaaGreatDoor.P
namespace Go.Proofs.YtmjmoagmolgacaaGreatDoor.P
open Go Go.Proofs.YtmjmoagmolgacaaGreatDoor.PM Go.Proofs.YtmjmoagmolgacaaGreatDoor.PN Go.Proofs
set_option maxRecDepth 100000
set_option linter.unusedVariables false
theorem f144_ok {k a r} (h : f144 k a = some r) : FOk 144 [.id .i64 1 a] [] (f144.o r) :=
 fok0 [] .all (k := k) (o := f144.o) Tryz.func144 h
def pf144 : Pk Tryz.prog C0 P0 G := ⟨144, sf144, fun k => sum_auto (@f144_ok k)⟩
end Go.Proofs.YtmjmoagmolgacaaGreatDoor.P
namespace Go.Proofs.YtmjmoagmolgacaaGreatDoor.P
open Go Go.Proofs.YtmjmoagmolgacaaGreatDoor.PM Go.Proofs.YtmjmoagmolgacaaGreatDoor.PN Go.Proofs
set_option maxRecDepth 100000
set_option linter.unusedVariables false
theorem f130_ok {k a b r} (h : f130 k a b = some r) : FOk 130 [.id .i64 1 a, .id .i64 2 b] [] (f130.o r) :=
 fok0 [pf144] (.both (.both (.l (.l (.both .all (.r .all)))) (.r (.r (.l .all)))) .all) (k := k) (o := f130.o) Tryz.func130 h
def pf130 : Pk Tryz.prog C0 P0 G := ⟨130, sf130, fun k => sum_auto (@f130_ok k)⟩
end Go.Proofs.YtmjmoagmolgacaaGreatDoor.P
namespace Go.Proofs.YtmjmoagmolgacaaGreatDoor.P
open Go Go.Proofs.YtmjmoagmolgacaaGreatDoor.PM Go.Proofs.YtmjmoagmolgacaaGreatDoor.PN Go.Proofs
set_option maxRecDepth 100000
set_option linter.unusedVariables false
theorem f100_ok {k a b r} (h : f100 k a b = some r) : FOk 100 [.id .i64 1 a, .id .i64 2 b] [] (f100.o r) :=
 fok0 [pf130] .all (k := k) (o := f100.o) Tryz.func100 h
def pf100 : Pk Tryz.prog C0 P0 G := ⟨100, sf100, fun k => sum_auto (@f100_ok k)⟩
end Go.Proofs.YtmjmoagmolgacaaGreatDoor.P
namespace Go.Proofs.YtmjmoagmolgacaaGreatDoor.P
open Go Go.Proofs.YtmjmoagmolgacaaGreatDoor.PM Go.Proofs.YtmjmoagmolgacaaGreatDoor.PN Go.Proofs
set_option maxRecDepth 100000
set_option linter.unusedVariables false
theorem f41_ok {k a b r} (h : f41 k a b = some r) : FOk 41 [.agg [.sl 0 a [], .sl 0 b []]] [] (f41.o r) :=
 fok [pf100] .all f41.st (fun _ => .all) (D := f41.D) f41.blk (o := f41.o) Tryz.func41 h
def pf41 : Pk Tryz.prog C0 P0 G := ⟨41, sf41, fun k => sum_auto (@f41_ok k)⟩
end Go.Proofs.YtmjmoagmolgacaaGreatDoor.P
namespace Go.Proofs.YtmjmoagmolgacaaGreatDoor.P
open Go Go.Proofs.YtmjmoagmolgacaaGreatDoor.PM Go.Proofs.YtmjmoagmolgacaaGreatDoor.PN Go.Proofs
set_option maxRecDepth 100000
set_option linter.unusedVariables false
theorem f98_ok {k a0_0 a1_0 r} (h : f98 k a0_0 a1_0 = some r) : callT Tryz.prog C0 P0 98 [.sc (.string a0_0), .sc (.string a1_0)] [] = some (.win 0 0 r.length, [Ob.mkRow 1 (r.map fun x => .sc (.string x))]) := by
 unfold f98 at h
 obtain ⟨c, h⟩ := ite_l h
 obtain rfl := Option.some.inj h
 exact callT_prim (d := splD) rfl (if_pos c)
def pf98 : Pk Tryz.prog C0 P0 G := ⟨98, sf98, fun k => sum_auto (@f98_ok k)⟩
end Go.Proofs.YtmjmoagmolgacaaGreatDoor.P
namespace Go.Proofs.YtmjmoagmolgacaaGreatDoor.P
open Go Go.Proofs.YtmjmoagmolgacaaGreatDoor.PM Go.Proofs.YtmjmoagmolgacaaGreatDoor.PN Go.Proofs
set_option maxRecDepth 100000
set_option linter.unusedVariables false
theorem f99_ok {k a0_0 a1_0 a2_0 r} (h : f99 k a0_0 a1_0 a2_0 = some r) : callT Tryz.prog C0 P0 99 [.sc (.string a0_0), .sc (.int .i64 a1_0), .sc (.int .i64 a2_0)] [] = some (.tup [.sc (.int .i64 r.1), .ifc r.2], []) := by
 unfold f99 at h
 obtain ⟨c, h⟩ := ite_l h
 obtain rfl := Option.some.inj h
 exact callT_prim (d := pintD) rfl (if_pos c)
def pf99 : Pk Tryz.prog C0 P0 G := ⟨99, sf99, fun k => sum_auto (@f99_ok k)⟩
end Go.Proofs.YtmjmoagmolgacaaGreatDoor.P
namespace Go.Proofs.YtmjmoagmolgacaaGreatDoor.P
open Go Go.Proofs.YtmjmoagmolgacaaGreatDoor.PM Go.Proofs.YtmjmoagmolgacaaGreatDoor.PN Go.Proofs
set_option maxRecDepth 100000
set_option linter.unusedVariables false
theorem f40_ok {k a r} (h : f40 k a = some r) : FOk 40 [.s a] [] (f40.o r) :=
 fok [pf35, pf41, pf98, pf99] .all f40.st f40.hint (D := f40.D) f40.blk (o := f40.o) Tryz.func40 h
def pf40 : Pk Tryz.prog C0 P0 G := ⟨40, sf40, fun k => sum_auto (@f40_ok k)⟩
end Go.Proofs.YtmjmoagmolgacaaGreatDoor.P
namespace Go.Proofs.YtmjmoagmolgacaaGreatDoor.P
open Go Go.Proofs.YtmjmoagmolgacaaGreatDoor.PM Go.Proofs.YtmjmoagmolgacaaGreatDoor.PN Go.Proofs
set_option maxRecDepth 100000
set_option linter.unusedVariables false
theorem f117_ok {k a b c d e g i j l m n p u v r} (h : f117 k a b c d e g i j l m n p u v = some r) : FOk 117 [.agg [.id .i64 0 a, .id .i64 0 b, .id .i64 0 c, .id .i64 0 d, .id .i64 0 e, .sl 0 g [], .sl 0 i [], .s j, .sl 3 l [], .id .i64 0 m, .id .i64 0 n, .id .i64 0 p, .sl 0 u [], .sl 4 v []]] [] (f117.o r) :=
 fok [pf40] .all f117.st (fun _ => .all) (D := f117.D) f117.blk (o := f117.o) Tryz.func117 h
def pf117 : Pk Tryz.prog C0 P0 G := ⟨117, sf117, fun k => sum_auto (@f117_ok k)⟩
end Go.Proofs.YtmjmoagmolgacaaGreatDoor.P
namespace Go.Proofs.YtmjmoagmolgacaaGreatDoor.P
open Go Go.Proofs.YtmjmoagmolgacaaGreatDoor.PM Go.Proofs.YtmjmoagmolgacaaGreatDoor.PN Go.Proofs
set_option maxRecDepth 100000
set_option linter.unusedVariables false
theorem f119_ok {k o0 r} (h : f119 k o0 = some r) : callT Tryz.prog C0 P0 119 [.win 0 0 o0.length] [Ob.mkRow 1 (o0.map fun z => .sc (.int .i64 z))] = some (.tup [], [Ob.mkRow 1 (r.map fun z => .sc (.int .i64 z))]) := by
 unfold f119 at h
 obtain ⟨c, h⟩ := ite_l h
 obtain rfl := Option.some.inj h
 refine callT_prim (d := srtD) rfl ?_
 show srtD [.win 0 0 o0.length] [Ob.mkRow 1 (o0.map tI)] = some (.tup [], [Ob.mkRow 1 ((sortI o0).map tI)])
 simp only [srtD, Ob.mkRow, intsT_map]
 exact if_pos ⟨by first | rfl | trivial, by rw [List.length_map], c.1, c.2⟩
def pf119 : Pk Tryz.prog C0 P0 G := ⟨119, sf119, fun k => sum_auto (@f119_ok k)⟩
end Go.Proofs.YtmjmoagmolgacaaGreatDoor.P
namespace Go.Proofs.YtmjmoagmolgacaaGreatDoor.P
open Go Go.Proofs.YtmjmoagmolgacaaGreatDoor.PM Go.Proofs.YtmjmoagmolgacaaGreatDoor.PN Go.Proofs
set_option maxRecDepth 100000
set_option linter.unusedVariables false
theorem f72_ok {k a b c d e g i j l m n p u v w r} (h : f72 k a b c d e g i j l m n p u v w = some r) : FOk 72 [.agg [.id .i64 0 a, .id .i64 0 b, .id .i64 0 c, .id .i64 0 d, .id .i64 0 e, .sl 0 g [], .sl 0 i [], .s j, .sl 3 l [], .id .i64 0 m, .id .i64 0 n, .id .i64 0 p, .sl 0 u [], .sl 4 v []], .id .i64 2 w] [] (f72.o r) :=
 fok [pf117, pf119] .all f72.st (fun _ => .all) (D := f72.D) f72.blk (o := f72.o) Tryz.func72 h
def pf72 : Pk Tryz.prog C0 P0 G := ⟨72, sf72, fun k => sum_auto (@f72_ok k)⟩
end Go.Proofs.YtmjmoagmolgacaaGreatDoor.P
namespace Go.Proofs.YtmjmoagmolgacaaGreatDoor.P
open Go Go.Proofs.YtmjmoagmolgacaaGreatDoor.PM Go.Proofs.YtmjmoagmolgacaaGreatDoor.PN Go.Proofs
set_option maxRecDepth 100000
set_option linter.unusedVariables false
theorem f114_ok {k a b c d e g i j l m n p u v r} (h : f114 k a b c d e g i j l m n p u v = some r) : FOk 114 [.agg [.id .i64 0 a, .id .i64 0 b, .id .i64 0 c, .id .i64 0 d, .id .i64 0 e, .sl 0 g [], .sl 0 i [], .s j, .sl 3 l [], .id .i64 0 m, .id .i64 0 n, .id .i64 0 p, .sl 0 u [], .sl 4 v []]] [] (f114.o r) :=
 fok [pf36, pf71, pf72] .all f114.st f114.hint (D := f114.D) f114.blk (o := f114.o) Tryz.func114 h
def pf114 : Pk Tryz.prog C0 P0 G := ⟨114, sf114, fun k => sum_auto (@f114_ok k)⟩
end Go.Proofs.YtmjmoagmolgacaaGreatDoor.P
namespace Go.Proofs.YtmjmoagmolgacaaGreatDoor.P
open Go Go.Proofs.YtmjmoagmolgacaaGreatDoor.PM Go.Proofs.YtmjmoagmolgacaaGreatDoor.PN Go.Proofs
set_option maxRecDepth 100000
set_option linter.unusedVariables false
theorem f115_ok {k a b c r} (h : f115 k a b c = some r) : FOk 115 [.agg [.id .i64 0 a, .id .i64 0 b, .s c]] [] (f115.o r) :=
 fok0 [pf36] (.skip (.both (.l (.l (.skip (.l (.both (.l (.l (.l (.l .all)))) (.r (.r (.r (.r .all))))))))) (.r (.r (.r .all))))) (k := k) (o := f115.o) Tryz.func115 h
def pf115 : Pk Tryz.prog C0 P0 G := ⟨115, sf115, fun k => sum_auto (@f115_ok k)⟩
end Go.Proofs.YtmjmoagmolgacaaGreatDoor.P
namespace Go.Proofs.YtmjmoagmolgacaaGreatDoor.P
open Go Go.Proofs.YtmjmoagmolgacaaGreatDoor.PM Go.Proofs.YtmjmoagmolgacaaGreatDoor.PN Go.Proofs
set_option maxRecDepth 100000
set_option linter.unusedVariables false
theorem f69_ok {k a b c r} (h : f69 k a b c = some r) : FOk 69 [.agg [.id .i64 0 a, .id .i64 0 b, .s c]] [] (f69.o r) :=
 fok0 [pf40, pf115] .all (k := k) (o := f69.o) Tryz.func69 h
def pf69 : Pk Tryz.prog C0 P0 G := ⟨69, sf69, fun k => sum_auto (@f69_ok k)⟩
end Go.Proofs.YtmjmoagmolgacaaGreatDoor.P
namespace Go.Proofs.YtmjmoagmolgacaaGreatDoor.P
open Go Go.Proofs.YtmjmoagmolgacaaGreatDoor.PM Go.Proofs.YtmjmoagmolgacaaGreatDoor.PN Go.Proofs
set_option maxRecDepth 100000
set_option linter.unusedVariables false
theorem f67_ok {k a b c d e g i j l m n p u v r} (h : f67 k a b c d e g i j l m n p u v = some r) : FOk 67 [.agg [.id .i64 0 a, .id .i64 0 b, .id .i64 0 c, .id .i64 0 d, .id .i64 0 e, .sl 0 g [], .sl 0 i [], .s j, .sl 3 l [], .id .i64 0 m, .id .i64 0 n, .id .i64 0 p, .sl 0 u [], .sl 4 v []]] [] (f67.o r) :=
 fok [pf35, pf36, pf37, pf69, pf71, pf113, pf114] (.skip (.both (.l (.l (.skip (.l (.l (.both (.l (.l (.skip (.l (.l (.both (.l (.l (.skip (.l (.l (.both (.l (.l (.l (.l (.skip (.l (.l (.both (.l (.l (.skip (.l (.l (.both (.l (.l (.skip (.l (.l (.both (.l (.l (.l (.l (.both (.l (.l (.l (.l .all)))) (.r (.r (.r (.r (.both (.l (.l (.l (.l .all)))) (.r (.r (.skip (.r (.r .all))))))))))))))) (.r (.r (.r (.r .all)))))))))) (.r (.r (.r (.r .all)))))))))) (.r (.r (.r (.r .all)))))))))))) (.r (.r (.r (.r (.r (.r .all)))))))))))) (.r (.r (.r (.r .all)))))))))) (.r (.r (.r (.r .all)))))))))) (.r (.r (.r (.r .all)))))) f67.st f67.hint (D := f67.D) f67.blk (o := f67.o) Tryz.func67 h
def pf67 : Pk Tryz.prog C0 P0 G := ⟨67, sf67, fun k => sum_auto (@f67_ok k)⟩
end Go.Proofs.YtmjmoagmolgacaaGreatDoor.P
namespace Go.Proofs.YtmjmoagmolgacaaGreatDoor.P
open Go Go.Proofs.YtmjmoagmolgacaaGreatDoor.PM Go.Proofs.YtmjmoagmolgacaaGreatDoor.PN Go.Proofs
set_option maxRecDepth 100000
set_option linter.unusedVariables false
theorem f33_ok {k a b r} (h : f33 k a b = some r) : FOk 33 [.agg [.sl 0 a [], .sl 0 b []]] [] (f33.o r) :=
 fok0 [] .all (k := k) (o := f33.o) Tryz.func33 h
def pf33 : Pk Tryz.prog C0 P0 G := ⟨33, sf33, fun k => sum_auto (@f33_ok k)⟩
end Go.Proofs.YtmjmoagmolgacaaGreatDoor.P
namespace Go.Proofs.YtmjmoagmolgacaaGreatDoor.P
open Go Go.Proofs.YtmjmoagmolgacaaGreatDoor.PM Go.Proofs.YtmjmoagmolgacaaGreatDoor.PN Go.Proofs
set_option maxRecDepth 100000
set_option linter.unusedVariables false
theorem f68_ok {k a b c d e g i j l m n p u v r} (h : f68 k a b c d e g i j l m n p u v = some r) : FOk 68 [.agg [.id .i64 0 a, .id .i64 0 b, .id .i64 0 c, .id .i64 0 d, .id .i64 0 e, .sl 0 g [], .sl 0 i [], .s j, .sl 3 l [], .id .i64 0 m, .id .i64 0 n, .id .i64 0 p, .sl 0 u [], .sl 4 v []]] [] (f68.o r) :=
 fok0 [pf33] .all (k := k) (o := f68.o) Tryz.func68 h
def pf68 : Pk Tryz.prog C0 P0 G := ⟨68, sf68, fun k => sum_auto (@f68_ok k)⟩
end Go.Proofs.YtmjmoagmolgacaaGreatDoor.P
namespace Go.Proofs.YtmjmoagmolgacaaGreatDoor.P
open Go Go.Proofs.YtmjmoagmolgacaaGreatDoor.PM Go.Proofs.YtmjmoagmolgacaaGreatDoor.PN Go.Proofs
set_option maxRecDepth 100000
set_option linter.unusedVariables false
theorem f116_ok {k a b c d e g i j l m n p u v w r} (h : f116 k a b c d e g i j l m n p u v w = some r) : FOk 116 [.agg [.id .i64 0 a, .id .i64 0 b, .id .i64 0 c, .id .i64 0 d, .id .i64 0 e, .sl 0 g [], .sl 0 i [], .s j, .sl 3 l [], .id .i64 0 m, .id .i64 0 n, .id .i64 0 p, .sl 0 u [], .sl 4 v []], .id .i64 2 w] [] (f116.o r) :=
 fok0 [] .all (k := k) (o := f116.o) Tryz.func116 h
def pf116 : Pk Tryz.prog C0 P0 G := ⟨116, sf116, fun k => sum_auto (@f116_ok k)⟩
end Go.Proofs.YtmjmoagmolgacaaGreatDoor.P
namespace Go.Proofs.YtmjmoagmolgacaaGreatDoor.P
open Go Go.Proofs.YtmjmoagmolgacaaGreatDoor.PM Go.Proofs.YtmjmoagmolgacaaGreatDoor.PN Go.Proofs
set_option maxRecDepth 100000
set_option linter.unusedVariables false
theorem f132_ok {k a b r} (h : f132 k a b = some r) : FOk 132 [.sl 0 a [], .sl 0 b []] [] (f132.o r) :=
 fok [] .all f132.st (fun _ => .all) (D := f132.D) f132.blk (o := f132.o) Tryz.func132 h
def pf132 : Pk Tryz.prog C0 P0 G := ⟨132, sf132, fun k => sum_auto (@f132_ok k)⟩
end Go.Proofs.YtmjmoagmolgacaaGreatDoor.P
namespace Go.Proofs.YtmjmoagmolgacaaGreatDoor.P
open Go Go.Proofs.YtmjmoagmolgacaaGreatDoor.PM Go.Proofs.YtmjmoagmolgacaaGreatDoor.PN Go.Proofs
set_option maxRecDepth 100000
set_option linter.unusedVariables false
theorem f118_ok {k a b c d r} (h : f118 k a b c d = some r) : FOk 118 [.agg [.sl 0 a [], .sl 0 b []], .agg [.sl 0 c [], .sl 0 d []]] [] (f118.o r) :=
 fok0 [pf132] (.skip (.both (.l (.l (.l (.l (.skip (.l .all)))))) (.r (.r (.r (.r (.r .all))))))) (k := k) (o := f118.o) Tryz.func118 h
def pf118 : Pk Tryz.prog C0 P0 G := ⟨118, sf118, fun k => sum_auto (@f118_ok k)⟩
end Go.Proofs.YtmjmoagmolgacaaGreatDoor.P
