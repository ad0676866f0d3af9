/- Part of the proof of FnExactConfText: no statement of its own. -/
import Derived.Test.YtolloakdibhidaaDoorCFnExactConfTextB
set_option linter.unusedVariables false
set_option linter.unusedSimpArgs false
namespace Go.Proofs.YtolloakdibhidaaDoor.P
open Go Go.Proofs.YtolloakdibhidaaDoor.PM Go.Proofs
theorem wr {n : Int} (h1 : -9223372036854775808 ≤ n) (h2 : n ≤ 9223372036854775807) : IntKind.i64.wrap n = n := wrap_i64 h1 h2
theorem f17_loop (l : List Int) (hl : l.length ≤ 1048576) (d : Nat) : ∀ i : Nat, l.length - i = d → i ≤ l.length → Ev (fun k => f17.l3 k (l.take i ++ List.replicate (l.length - i) 0) l (i : Int)) l := by
  induction d with
  | zero =>
    intro i hd hi
    refine Ev.step (fun k => by rw [f17.l3]) (Ev.neg (by omega) (Ev.ret' (fill_end 0 l i (by omega))))
  | succ d ih =>
    intro i hd hi
    refine Ev.step (fun k => by rw [f17.l3]) ?_
    have hq := fill_length 0 l i hi
    refine Ev.pos (by omega) (Ev.pos (by omega) (Ev.pos (by rw [hq]; omega) ?_))
    have hn := ih (i + 1) (by omega) (by omega)
    rw [wr (by omega) (by omega), Int.toNat_natCast, at_nat l i (by omega), fillL_step 0 l i (by omega)]
    rwa [show ((i + 1 : Nat) : Int) = (i : Int) + 1 by omega] at hn
theorem f17_ev (l : List Int) (hl : l.length ≤ 1048576) : Ev (fun k => f17 k l) l := by
  unfold f17
  refine Ev.pos (by omega) (Ev.pos (by omega) (Ev.pos (by omega) (Ev.pos (by omega) ?_)))
  have := f17_loop l hl _ 0 rfl (Nat.zero_le _)
  simpa using this
theorem f7_ev (a b : List Int) (ha : a.length ≤ 1048576) (hb : b.length ≤ 1048576) : Ev (fun k => f7 k a b) (a, b) := by
  unfold f7
  exact Ev.bind (f17_ev a ha) (Ev.bind (f17_ev b hb) (Ev.ret _))
theorem f20_loop (l : List Int) (hl : l.length ≤ 1048576) (d : Nat) : ∀ i : Nat, l.length - i = d → i ≤ l.length → Ev (fun k => f20.l4 k l l (i : Int)) true := by
  induction d with
  | zero =>
    intro i hd hi
    exact Ev.step (fun k => by rw [f20.l4]) (Ev.neg (by omega) (Ev.ret _))
  | succ d ih =>
    intro i hd hi
    refine Ev.step (fun k => by rw [f20.l4]) (Ev.pos (by omega) (Ev.pos (by omega) (Ev.pos (by omega) (Ev.pos rfl ?_))))
    have hn := ih (i + 1) (by omega) (by omega)
    rw [wr (by omega) (by omega)]
    rwa [show ((i + 1 : Nat) : Int) = (i : Int) + 1 by omega] at hn
theorem f9_ev (a b : List Int) (ha : a.length ≤ 1048576) (hb : b.length ≤ 1048576) : Ev (fun k => f9 k a b a b) true := by
  unfold f9
  refine Ev.bind (a := true) ?_ (Ev.pos rfl (Ev.bind (a := true) ?_ (Ev.pos rfl (Ev.ret _))))
  · unfold f20; exact Ev.pos rfl (f20_loop a ha _ 0 rfl (Nat.zero_le _))
  · unfold f20; exact Ev.pos rfl (f20_loop b hb _ 0 rfl (Nat.zero_le _))
def idAt (l : List Int) (i : Nat) : Bool := decide (1 ≤ at' l (i : Int)) && decide (at' l (i : Int) ≤ 50) && (decide (i = 0) || decide (at' l ((i : Int) - 1) < at' l (i : Int)))
def areB (l : List Int) : Bool := allFrom (idAt l) 0 l.length && decide (l.length ≤ 7)
def hasI (l : List Int) (x : Int) : Bool := anyFrom (fun y => y == x) l 0
def confB (a b : List Int) : Bool := decide (0 < a.length) && (areB a && (areB b && !(anyFrom (hasI a) b 0)))
theorem l1In_ev (x : Int) : Ev (fun k => f36 k x 1 50) (decide (1 ≤ x) && decide (x ≤ 50)) := by
  unfold f36
  refine Ev.ite (fun h => Ev.ret' ?_) (fun h => Ev.ret' ?_)
  · rw [decide_eq_true h]; rfl
  · rw [decide_eq_false h]; rfl
theorem isNodeId_ev (x : Int) : Ev (fun k => f37 k x) (decide (1 ≤ x) && decide (x ≤ 50)) := by
  unfold f37 f44
  refine Ev.bind (a := decide (1 ≤ x) && decide (x ≤ 50)) ?_ (Ev.ret _)
  refine Ev.ite (fun h => Ev.ret' ?_) (fun h => Ev.ret' ?_)
  · rw [decide_eq_true h]; rfl
  · rw [decide_eq_false h]; rfl
theorem f26_loop (l : List Int) (hl : l.length ≤ 1048576) (d : Nat) : ∀ i : Nat, l.length - i = d → i ≤ l.length → Ev (fun k => f26.l4 k l (i : Int)) (allFrom (idAt l) i l.length) := by
  induction d with
  | zero =>
    intro i hd hi
    exact Ev.step (fun k => by rw [f26.l4]) (Ev.neg (by omega) (Ev.ret' (allFrom_end _ (by omega)).symm))
  | succ d ih =>
    intro i hd hi
    refine Ev.step (fun k => by rw [f26.l4]) (Ev.pos (by omega) (Ev.pos (by omega) (Ev.bind (l1In_ev _) ?_)))
    have hn := ih (i + 1) (by omega) (by omega)
    rw [show ((i + 1 : Nat) : Int) = IntKind.i64.wrap ((i : Int) + 1) by rw [wr (by omega) (by omega)]; omega] at hn
    rw [allFrom_step _ (by omega), idAt]
    cases hb : decide (1 ≤ at' l (i : Int)) && decide (at' l (i : Int) ≤ 50) with
    | false => exact Ev.neg (by simp) (Ev.ret' (by simp))
    | true =>
      refine Ev.pos rfl ?_
      by_cases h0 : i = 0
      · refine Ev.neg (by omega) ?_
        rw [decide_eq_true h0]
        simpa using hn
      · refine Ev.pos (by omega) ?_
        rw [wr (n := (i : Int) - 1) (by omega) (by omega)]
        refine Ev.pos (by omega) (Ev.pos (by omega) ?_)
        by_cases h1 : at' l ((i : Int) - 1) < at' l (i : Int)
        · refine Ev.neg (by omega) ?_
          rw [decide_eq_true h1]
          simpa using hn
        · refine Ev.pos (by omega) (Ev.ret' ?_)
          rw [decide_eq_false h1, decide_eq_false h0]
          simp
theorem f26_ev (l : List Int) (hl : l.length ≤ 1048576) : Ev (fun k => f26 k l 7) (areB l) := by
  unfold f26 areB
  refine Ev.ite (fun h => Ev.ret' ?_) (fun h => ?_)
  · rw [decide_eq_false (p := l.length ≤ 7) (by omega)]; simp
  · rw [decide_eq_true (p := l.length ≤ 7) (by omega), Bool.and_true]
    exact f26_loop l hl _ 0 rfl (Nat.zero_le _)
theorem f28_loop (l : List Int) (hl : l.length ≤ 1048576) (d : Nat) : ∀ i : Nat, l.length - i = d → i ≤ l.length → Ev (fun k => f28.l2 k l l (l.length : Int) (i : Int)) (allFrom (idAt l) i l.length && decide (l.length ≤ 7)) := by
  induction d with
  | zero =>
    intro i hd hi
    refine Ev.step (fun k => by rw [f28.l2]) (Ev.neg (by omega) (Ev.ret' ?_))
    rw [allFrom_end _ (by omega), Bool.true_and]
    by_cases h : l.length ≤ 7
    · rw [decide_eq_true h, decide_eq_true (by omega)]
    · rw [decide_eq_false h, decide_eq_false (by omega)]
  | succ d ih =>
    intro i hd hi
    refine Ev.step (fun k => by rw [f28.l2]) (Ev.pos (by omega) (Ev.pos (by omega) (Ev.pos (by omega) (Ev.bind (isNodeId_ev _) ?_))))
    have hn := ih (i + 1) (by omega) (by omega)
    rw [show ((i + 1 : Nat) : Int) = IntKind.i64.wrap ((i : Int) + 1) by rw [wr (by omega) (by omega)]; omega] at hn
    rw [allFrom_step _ (by omega), idAt]
    cases hb : decide (1 ≤ at' l (i : Int)) && decide (at' l (i : Int) ≤ 50) with
    | false => exact Ev.neg (by simp) (Ev.ret' (by simp))
    | true =>
      refine Ev.pos rfl ?_
      by_cases h0 : i = 0
      · refine Ev.neg (by omega) ?_
        rw [decide_eq_true h0]
        simpa using hn
      · refine Ev.pos (by omega) ?_
        rw [wr (n := (i : Int) - 1) (by omega) (by omega)]
        refine Ev.pos (by omega) (Ev.pos (by omega) ?_)
        by_cases h1 : at' l ((i : Int) - 1) < at' l (i : Int)
        · refine Ev.neg (by omega) ?_
          rw [decide_eq_true h1]
          simpa using hn
        · refine Ev.pos (by omega) (Ev.ret' ?_)
          rw [decide_eq_false h1, decide_eq_false h0]
          simp
theorem f28_ev (l : List Int) (hl : l.length ≤ 1048576) : Ev (fun k => f28 k l) (areB l) := by
  unfold f28
  exact f28_loop l hl _ 0 rfl (Nat.zero_le _)
theorem f27_loop (l : List Int) (x : Int) (hl : l.length ≤ 1048576) (d : Nat) : ∀ i : Nat, l.length - i = d → i ≤ l.length → Ev (fun k => f27.l2 k l x (i : Int)) (anyFrom (fun y => y == x) l i) := by
  induction d with
  | zero =>
    intro i hd hi
    exact Ev.step (fun k => by rw [f27.l2]) (Ev.neg (by omega) (Ev.ret' (anyFrom_end _ (by omega)).symm))
  | succ d ih =>
    intro i hd hi
    refine Ev.step (fun k => by rw [f27.l2]) (Ev.pos (by omega) (Ev.pos (by omega) ?_))
    have hn := ih (i + 1) (by omega) (by omega)
    rw [show ((i + 1 : Nat) : Int) = IntKind.i64.wrap ((i : Int) + 1) by rw [wr (by omega) (by omega)]; omega] at hn
    rw [at_nat l i (by omega), anyFrom_step _ (by omega)]
    by_cases h : l[i] = x
    · exact Ev.pos h (Ev.ret' (by simp [h]))
    · refine Ev.neg h (hn.eq ?_)
      simp [h]
theorem f39_loop (l : List Int) (x : Int) (hl : l.length ≤ 1048576) (d : Nat) : ∀ i : Nat, l.length - i = d → i ≤ l.length → ∃ r, Ev (fun k => f39.l2 k l x (l.length : Int) (i : Int)) r ∧ decide (0 ≤ r) = anyFrom (fun y => y == x) l i := by
  induction d with
  | zero =>
    intro i hd hi
    exact ⟨-1, Ev.step (fun k => by rw [f39.l2]) (Ev.neg (by omega) (Ev.ret _)), by rw [anyFrom_end _ (by omega)]; rfl⟩
  | succ d ih =>
    intro i hd hi
    obtain ⟨r, hn, hr⟩ := ih (i + 1) (by omega) (by omega)
    rw [show ((i + 1 : Nat) : Int) = IntKind.i64.wrap ((i : Int) + 1) by rw [wr (by omega) (by omega)]; omega] at hn
    rw [anyFrom_step _ (by omega)]
    by_cases h : l[i] = x
    · exact ⟨i, Ev.step (fun k => by rw [f39.l2]) (Ev.pos (by omega) (Ev.pos (by omega) (Ev.pos (by omega) (Ev.pos (by rw [at_nat l i (by omega)]; exact h.symm) (Ev.ret _))))), by simp [h]⟩
    · exact ⟨r, Ev.step (fun k => by rw [f39.l2]) (Ev.pos (by omega) (Ev.pos (by omega) (Ev.pos (by omega) (Ev.neg (by rw [at_nat l i (by omega)]; exact fun e => h e.symm) hn)))), by simp [h, hr]⟩
theorem f31_ev (l : List Int) (x : Int) (hl : l.length ≤ 1048576) : Ev (fun k => f31 k l x) (hasI l x) := by
  unfold f31 f39
  obtain ⟨r, h, hr⟩ := f39_loop l x hl _ 0 rfl (Nat.zero_le _)
  exact Ev.bind h (Ev.ret' hr)
theorem f38_loop (l a b : List Int) (hl : l.length ≤ 1048576) (ha : a.length ≤ 1048576) (d : Nat) : ∀ i : Nat, l.length - i = d → i ≤ l.length → ∃ r, Ev (fun k => f38.l2 k l (l.length : Int) (i : Int) a b) (r, a, b) ∧ decide (0 ≤ r) = anyFrom (hasI a) l i := by
  induction d with
  | zero =>
    intro i hd hi
    exact ⟨-1, Ev.step (fun k => by rw [f38.l2]) (Ev.neg (by omega) (Ev.ret _)), by rw [anyFrom_end _ (by omega)]; rfl⟩
  | succ d ih =>
    intro i hd hi
    obtain ⟨r, hn, hr⟩ := ih (i + 1) (by omega) (by omega)
    rw [show ((i + 1 : Nat) : Int) = IntKind.i64.wrap ((i : Int) + 1) by rw [wr (by omega) (by omega)]; omega] at hn
    rw [anyFrom_step _ (by omega)]
    have hc : Ev (fun k => f30 k (at' l (i : Int)) a b) (hasI a l[i]) := by
      unfold f30
      rw [at_nat l i (by omega)]
      exact Ev.bind (f31_ev a _ ha) (Ev.ret _)
    by_cases h : hasI a l[i] = true
    · exact ⟨i, Ev.step (fun k => by rw [f38.l2]) (Ev.pos (by omega) (Ev.pos (by omega) (Ev.pos (by omega) (Ev.bind hc (Ev.pos h (Ev.ret _)))))), by simp [h]⟩
    · exact ⟨r, Ev.step (fun k => by rw [f38.l2]) (Ev.pos (by omega) (Ev.pos (by omega) (Ev.pos (by omega) (Ev.bind hc (Ev.neg h hn))))), by simp [h, hr]⟩
theorem f18_ev (a b : List Int) (ha : a.length ≤ 1048576) (hb : b.length ≤ 1048576) : Ev (fun k => f18 k a b) (confB a b) := by
  unfold f18 confB
  refine Ev.ite (fun h => ?_) (fun h => Ev.ret' (by rw [decide_eq_false (by omega)]; rfl))
  rw [decide_eq_true (by omega), Bool.true_and]
  refine Ev.bind (f28_ev a ha) (Ev.ite (fun h1 => ?_) (fun h1 => Ev.ret' (by simp [h1])))
  rw [h1, Bool.true_and]
  refine Ev.bind (f28_ev b hb) (Ev.ite (fun h2 => ?_) (fun h2 => Ev.ret' (by simp [h2])))
  rw [h2, Bool.true_and]
  obtain ⟨r, hr, he⟩ := f38_loop b a b hb ha _ 0 rfl (Nat.zero_le _)
  refine Ev.bind (a := (decide (0 ≤ r), a, b)) ?_ (Ev.ret' (by rw [he]))
  unfold f29 f38
  exact Ev.bind hr (Ev.ret _)
theorem f15_loop (a b : List Int) (ha : a.length ≤ 1048576) (hb : b.length ≤ 1048576) (d : Nat) : ∀ i : Nat, b.length - i = d → i ≤ b.length → Ev (fun k => f15.l4 k (i : Int) a b) (!(anyFrom (hasI a) b i)) := by
  induction d with
  | zero =>
    intro i hd hi
    exact Ev.step (fun k => by rw [f15.l4]) (Ev.neg (by omega) (Ev.ret' (by rw [anyFrom_end _ (by omega)]; rfl)))
  | succ d ih =>
    intro i hd hi
    have hn := ih (i + 1) (by omega) (by omega)
    rw [show ((i + 1 : Nat) : Int) = IntKind.i64.wrap ((i : Int) + 1) by rw [wr (by omega) (by omega)]; omega] at hn
    rw [anyFrom_step _ (by omega)]
    have hc : Ev (fun k => f27 k a (at' b (i : Int))) (hasI a b[i]) := by
      unfold f27
      rw [at_nat b i (by omega)]
      exact f27_loop a _ ha _ 0 rfl (Nat.zero_le _)
    refine Ev.step (fun k => by rw [f15.l4]) (Ev.pos (by omega) (Ev.pos (by omega) (Ev.bind hc ?_)))
    by_cases h : hasI a b[i] = true
    · exact Ev.pos h (Ev.ret' (by simp [h]))
    · exact Ev.neg h (hn.eq (by simp [h]))
theorem f15_ev (a b : List Int) (ha : a.length ≤ 1048576) (hb : b.length ≤ 1048576) : Ev (fun k => f15 k a b) (confB a b) := by
  unfold f15 confB
  refine Ev.ite (fun h => Ev.ret' (by rw [decide_eq_false (by omega)]; rfl)) (fun h => ?_)
  rw [decide_eq_true (by omega), Bool.true_and]
  refine Ev.bind (f26_ev a ha) (Ev.ite (fun h1 => ?_) (fun h1 => Ev.ret' (by simp [h1])))
  rw [h1, Bool.true_and]
  refine Ev.bind (f26_ev b hb) (Ev.ite (fun h2 => ?_) (fun h2 => Ev.ret' (by simp [h2])))
  rw [h2, Bool.true_and]
  exact f15_loop a b ha hb _ 0 rfl (Nat.zero_le _)
def dec1 (n : Int) : ByteArray := (f16 3 n).getD default
theorem dec_ev (n : Int) (h1 : 1 ≤ n) (h2 : n ≤ 50) : (∀ m, f16 (m + 3) n = some (dec1 n)) ∧ (∀ m, f32 m n 10 = some (dec1 n)) ∧ (dec1 n).size ≤ 2 := by
  have h : n = 1 ∨ n = 2 ∨ n = 3 ∨ n = 4 ∨ n = 5 ∨ n = 6 ∨ n = 7 ∨ n = 8 ∨ n = 9 ∨ n = 10 ∨ n = 11 ∨ n = 12 ∨ n = 13 ∨ n = 14 ∨ n = 15 ∨ n = 16 ∨ n = 17 ∨ n = 18 ∨ n = 19 ∨ n = 20 ∨ n = 21 ∨ n = 22 ∨ n = 23 ∨ n = 24 ∨ n = 25 ∨ n = 26 ∨ n = 27 ∨ n = 28 ∨ n = 29 ∨ n = 30 ∨ n = 31 ∨ n = 32 ∨ n = 33 ∨ n = 34 ∨ n = 35 ∨ n = 36 ∨ n = 37 ∨ n = 38 ∨ n = 39 ∨ n = 40 ∨ n = 41 ∨ n = 42 ∨ n = 43 ∨ n = 44 ∨ n = 45 ∨ n = 46 ∨ n = 47 ∨ n = 48 ∨ n = 49 ∨ n = 50 := by omega
  rcases h with rfl | rfl | rfl | rfl | rfl | rfl | rfl | rfl | rfl | rfl | rfl | rfl | rfl | rfl | rfl | rfl | rfl | rfl | rfl | rfl | rfl | rfl | rfl | rfl | rfl | rfl | rfl | rfl | rfl | rfl | rfl | rfl | rfl | rfl | rfl | rfl | rfl | rfl | rfl | rfl | rfl | rfl | rfl | rfl | rfl | rfl | rfl | rfl | rfl | rfl <;> exact ⟨fun m => by kernel_rfl, fun m => by kernel_rfl, of_decide_eq_true (by kernel_rfl)⟩
theorem f16_ev (n : Int) (h1 : 1 ≤ n) (h2 : n ≤ 50) : Ev (fun k => f16 k n) (dec1 n) := Ev.plus 3 (dec_ev n h1 h2).1
theorem f32_ev (n : Int) (h1 : 1 ≤ n) (h2 : n ≤ 50) : Ev (fun k => f32 k n 10) (dec1 n) := Ev.plus 0 (dec_ev n h1 h2).2.1

def txt (s : ByteArray) (l : List Int) : ByteArray := l.foldl (fun s n => s ++ (⟨#[32]⟩ : ByteArray) ++ dec1 n) s
def oks (l : List Int) : Prop := ∀ i : Nat, i < l.length → 1 ≤ at' l (i : Int) ∧ at' l (i : Int) ≤ 50
theorem sp_size : (⟨#[32]⟩ : ByteArray).size = 1 := rfl
theorem txt_step (s : ByteArray) (l : List Int) (i : Nat) (h : i < l.length) : txt s (l.drop i) = txt (s ++ (⟨#[32]⟩ : ByteArray) ++ dec1 (at' l (i : Int))) (l.drop (i + 1)) := by
  rw [at_nat l i h, List.drop_eq_getElem_cons h]; rfl
theorem txt_end (s : ByteArray) (l : List Int) (i : Nat) (h : l.length ≤ i) : txt s (l.drop i) = s := by rw [List.drop_eq_nil_of_le h]; rfl
theorem bsz (a b : ByteArray) : (a ++ b).size = a.size + b.size := ByteArray.size_append
theorem f6_l11 (a b : List Int) (hb : b.length ≤ 7) (ok : oks b) (d : Nat) : ∀ (i : Nat) (s : ByteArray), b.length - i = d → i ≤ b.length → s.size + 3 * d ≤ 1000 → Ev (fun k => f6.l11 k s (i : Int) a b) (txt s (b.drop i)) := by
  induction d with
  | zero =>
    intro i s hd hi hs
    exact Ev.step (fun k => by rw [f6.l11]) (Ev.neg (by omega) (Ev.ret' (txt_end s b i (by omega)).symm))
  | succ d ih =>
    intro i s hd hi hs
    obtain ⟨o1, o2⟩ := ok i (by omega)
    have hz := (dec_ev _ o1 o2).2.2
    have hn := ih (i + 1) (s ++ (⟨#[32]⟩ : ByteArray) ++ dec1 (at' b (i : Int))) (by omega) (by omega) (by rw [bsz, bsz, sp_size]; omega)
    rw [show ((i + 1 : Nat) : Int) = IntKind.i64.wrap ((i : Int) + 1) by rw [wr (by omega) (by omega)]; omega] at hn
    rw [txt_step s b i (by omega)]
    refine Ev.step (fun k => by rw [f6.l11]) (Ev.pos (by omega) (Ev.pos (by omega) (Ev.pos (by omega) (Ev.bind (f16_ev _ o1 o2) ?_))))
    exact Ev.pos (by omega) hn
def tail1 (s : ByteArray) (b : List Int) : ByteArray := if 0 < b.length then txt (s ++ ⟨#[32, 108]⟩) b else s
theorem f6_l5 (a b : List Int) (ha : a.length ≤ 7) (hb : b.length ≤ 7) (oka : oks a) (okb : oks b) (d : Nat) : ∀ (i : Nat) (s : ByteArray), a.length - i = d → i ≤ a.length → s.size + 3 * d ≤ 900 → Ev (fun k => f6.l5 k s (i : Int) a b) (tail1 (txt s (a.drop i)) b) := by
  induction d with
  | zero =>
    intro i s hd hi hs
    rw [txt_end s a i (by omega)]
    refine Ev.step (fun k => by rw [f6.l5]) (Ev.neg (by omega) (Ev.ite (fun h => Ev.pos (by omega) ?_) (fun h => ?_)))
    · have := f6_l11 a b hb okb _ 0 (s ++ ⟨#[32, 108]⟩) rfl (Nat.zero_le _) (by rw [bsz, show (⟨#[32, 108]⟩ : ByteArray).size = 2 from rfl]; omega)
      rw [tail1, if_pos (by omega)]
      exact this
    · have := f6_l11 a b hb okb _ 0 s rfl (Nat.zero_le _) (by omega)
      rw [tail1, if_neg (by omega)]
      rw [txt_end s b 0 (by omega)] at this
      exact this
  | succ d ih =>
    intro i s hd hi hs
    obtain ⟨o1, o2⟩ := oka i (by omega)
    have hz := (dec_ev _ o1 o2).2.2
    have hn := ih (i + 1) (s ++ (⟨#[32]⟩ : ByteArray) ++ dec1 (at' a (i : Int))) (by omega) (by omega) (by rw [bsz, bsz, sp_size]; omega)
    rw [show ((i + 1 : Nat) : Int) = IntKind.i64.wrap ((i : Int) + 1) by rw [wr (by omega) (by omega)]; omega] at hn
    rw [txt_step s a i (by omega)]
    refine Ev.step (fun k => by rw [f6.l5]) (Ev.pos (by omega) (Ev.pos (by omega) (Ev.pos (by omega) (Ev.bind (f16_ev _ o1 o2) ?_))))
    exact Ev.pos (by omega) hn
theorem f19_l10 (b : List Int) (hb : b.length ≤ 7) (ok : oks b) (d : Nat) : ∀ (i : Nat) (s : ByteArray), b.length - i = d → i ≤ b.length → s.size + 3 * d ≤ 1000 → Ev (fun k => f19.l10 k s b (b.length : Int) (i : Int)) (txt s (b.drop i)) := by
  induction d with
  | zero =>
    intro i s hd hi hs
    exact Ev.step (fun k => by rw [f19.l10]) (Ev.neg (by omega) (Ev.ret' (txt_end s b i (by omega)).symm))
  | succ d ih =>
    intro i s hd hi hs
    obtain ⟨o1, o2⟩ := ok i (by omega)
    have hz := (dec_ev _ o1 o2).2.2
    have hn := ih (i + 1) (s ++ (⟨#[32]⟩ : ByteArray) ++ dec1 (at' b (i : Int))) (by omega) (by omega) (by rw [bsz, bsz, sp_size]; omega)
    rw [show ((i + 1 : Nat) : Int) = IntKind.i64.wrap ((i : Int) + 1) by rw [wr (by omega) (by omega)]; omega, ByteArray.append_assoc] at hn
    rw [txt_step s b i (by omega), ByteArray.append_assoc]
    refine Ev.step (fun k => by rw [f19.l10]) (Ev.pos (by omega) (Ev.pos (by omega) (Ev.pos (by omega) (Ev.bind (f32_ev _ o1 o2) ?_))))
    exact Ev.pos (by omega) (Ev.pos (by omega) hn)
theorem f19_l3 (a b : List Int) (ha : a.length ≤ 7) (hb : b.length ≤ 7) (oka : oks a) (okb : oks b) (d : Nat) : ∀ (i : Nat) (s : ByteArray), a.length - i = d → i ≤ a.length → s.size + 3 * d ≤ 900 → Ev (fun k => f19.l3 k s a (a.length : Int) (i : Int) a b) (tail1 (txt s (a.drop i)) b) := by
  induction d with
  | zero =>
    intro i s hd hi hs
    rw [txt_end s a i (by omega)]
    refine Ev.step (fun k => by rw [f19.l3]) (Ev.neg (by omega) (Ev.ite (fun h => Ev.pos (by omega) ?_) (fun h => ?_)))
    · have := f19_l10 b hb okb _ 0 (s ++ ⟨#[32, 108]⟩) rfl (Nat.zero_le _) (by rw [bsz, show (⟨#[32, 108]⟩ : ByteArray).size = 2 from rfl]; omega)
      rw [tail1, if_pos (by omega)]
      exact this
    · have := f19_l10 b hb okb _ 0 s rfl (Nat.zero_le _) (by omega)
      rw [tail1, if_neg (by omega)]
      rw [txt_end s b 0 (by omega)] at this
      exact this
  | succ d ih =>
    intro i s hd hi hs
    obtain ⟨o1, o2⟩ := oka i (by omega)
    have hz := (dec_ev _ o1 o2).2.2
    have hn := ih (i + 1) (s ++ (⟨#[32]⟩ : ByteArray) ++ dec1 (at' a (i : Int))) (by omega) (by omega) (by rw [bsz, bsz, sp_size]; omega)
    rw [show ((i + 1 : Nat) : Int) = IntKind.i64.wrap ((i : Int) + 1) by rw [wr (by omega) (by omega)]; omega, ByteArray.append_assoc] at hn
    rw [txt_step s a i (by omega), ByteArray.append_assoc]
    refine Ev.step (fun k => by rw [f19.l3]) (Ev.pos (by omega) (Ev.pos (by omega) (Ev.pos (by omega) (Ev.bind (f32_ev _ o1 o2) ?_))))
    exact Ev.pos (by omega) (Ev.pos (by omega) hn)
theorem are_oks {l : List Int} (h : areB l = true) : oks l ∧ l.length ≤ 7 := by
  unfold areB at h
  rw [Bool.and_eq_true] at h
  refine ⟨fun i hi => ?_, of_decide_eq_true h.2⟩
  have := (allFrom_iff _ _ _).1 h.1 i (Nat.zero_le _) hi
  unfold idAt at this
  simp only [Bool.and_eq_true, decide_eq_true_eq] at this
  exact this.1
def confT (a b : List Int) : ByteArray := if confB a b = true then tail1 (txt ⟨#[118]⟩ a) b else ⟨#[]⟩
theorem confB_oks {a b : List Int} (h : confB a b = true) : (oks a ∧ a.length ≤ 7) ∧ (oks b ∧ b.length ≤ 7) := by
  unfold confB at h
  simp only [Bool.and_eq_true] at h
  exact ⟨are_oks h.2.1, are_oks h.2.2.1⟩
theorem f6_ev (a b : List Int) (ha : a.length ≤ 1048576) (hb : b.length ≤ 1048576) : Ev (fun k => f6 k a b) (confT a b) := by
  unfold f6 confT
  refine Ev.bind (f15_ev a b ha hb) ?_
  by_cases h : confB a b = true
  · obtain ⟨⟨h1, h2⟩, h3, h4⟩ := confB_oks h
    rw [if_pos h]
    exact Ev.pos h (f6_l5 a b h2 h4 h1 h3 _ 0 ⟨#[118]⟩ rfl (Nat.zero_le _) (by rw [show (⟨#[118]⟩ : ByteArray).size = 1 from rfl]; omega))
  · rw [if_neg h]
    exact Ev.neg h (Ev.ret _)
theorem f8_ev (a b : List Int) (ha : a.length ≤ 1048576) (hb : b.length ≤ 1048576) : Ev (fun k => f8 k a b) (confT a b) := by
  unfold f8 confT
  refine Ev.bind (f18_ev a b ha hb) ?_
  by_cases h : confB a b = true
  · obtain ⟨⟨h1, h2⟩, h3, h4⟩ := confB_oks h
    rw [if_pos h]
    refine Ev.pos h (Ev.bind (a := tail1 (txt ⟨#[118]⟩ a) b) ?_ (Ev.ret _))
    unfold f19
    exact f19_l3 a b h2 h4 h1 h3 _ 0 ⟨#[118]⟩ rfl (Nat.zero_le _) (by rw [show (⟨#[118]⟩ : ByteArray).size = 1 from rfl]; omega)
  · rw [if_neg h]
    exact Ev.neg h (Ev.ret _)
theorem f14_ev (l : List Int) (q : Int) (hl : l.length ≤ maxLen) (h0 : 0 ≤ q) (hq : q ≤ 1048576) : Ev (fun k => f14 k l q) (if q - l.length < 0 then -1 else q - l.length) := by
  unfold maxLen at hl
  unfold f14
  rw [wr (n := q - l.length) (by omega) (by omega)]
  exact Ev.ite (fun h => Ev.ret' (by rw [if_pos h])) (fun h => Ev.ret' (by rw [if_neg h]))
theorem law3_ev (a b : List Int) (ha : a.length ≤ maxLen) (hb : b.length ≤ maxLen) : Ev (fun k => f3 k a b) true := by
  unfold f3 f5
  by_cases h1 : (1048576 : Int) - a.length < 0
  · refine Ev.bind (a := -1) ?_ (Ev.pos (by omega) (Ev.ret _))
    refine Ev.bind (f14_ev a 1048576 ha (by omega) (by omega)) ?_
    rw [if_pos h1]
    exact Ev.pos (by omega) (Ev.ret _)
  · by_cases h2 : (1048576 : Int) - a.length - b.length < 0
    · refine Ev.bind (a := -1) ?_ (Ev.pos (by omega) (Ev.ret _))
      refine Ev.bind (f14_ev a 1048576 ha (by omega) (by omega)) ?_
      rw [if_neg h1]
      refine Ev.neg h1 (Ev.bind (f14_ev b _ hb (by omega) (by omega)) ?_)
      rw [if_pos h2]
      exact Ev.pos (by omega) (Ev.ret _)
    · have ha' : a.length ≤ 1048576 := by omega
      have hb' : b.length ≤ 1048576 := by omega
      refine Ev.bind (a := (1048576 : Int) - a.length - b.length) ?_ (Ev.neg h2 ?_)
      · refine Ev.bind (f14_ev a 1048576 ha (by omega) (by omega)) ?_
        rw [if_neg h1]
        refine Ev.neg h1 (Ev.bind (f14_ev b _ hb (by omega) (by omega)) ?_)
        rw [if_neg h2]
        exact Ev.neg h2 (Ev.ret _)
      · refine Ev.bind (f7_ev a b ha' hb') (Ev.bind (f6_ev a b ha' hb') (Ev.bind (f8_ev a b ha' hb') (Ev.pos (strEq_self _) (Ev.bind (f9_ev a b ha' hb') (Ev.pos rfl (Ev.ret _))))))
theorem law3 (a b : List Int) (ha : okL (okI .i64) a) (hb : okL (okI .i64) b) : Ev (fun k => f3 k a b) true := law3_ev a b ha.1 hb.1
end Go.Proofs.YtolloakdibhidaaDoor.P
