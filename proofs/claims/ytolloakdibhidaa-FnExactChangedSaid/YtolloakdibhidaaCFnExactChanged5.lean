/- Part 5 of what the row of FnExactChanged needs: functions of the program as plain Lean functions, their contracts, and lemmas; made by a program of this session out of its texts. -/
import Derived.Laws.BitsLemmas
import Derived.Test.YtolloakdibhidaaCFnExactChanged0
import Derived.Test.YtolloakdibhidaaCFnExactChanged1
import Derived.Test.YtolloakdibhidaaCFnExactChanged2
import Derived.Test.YtolloakdibhidaaCFnExactChanged3
import Derived.Test.YtolloakdibhidaaCFnExactChanged4
namespace Go.Proofs.Ytolloakdibhidaa.Q
open Go.RowKit Go.Proofs.YtolloakdibhidaaW.PrintWords Go.Proofs.YtolloakdibhidaaW.PrintLast Go.Proofs.YtolloakdibhidaaW.PrintMore
attribute [local go_sem] max2_int min2_int max_two min_two max_three min_three max_four min_four   -- for this text's walks alone
set_option linter.unusedVariables false
set_option linter.unusedSimpArgs false
section
def placeI (l : List Int) (x : Int) : Nat := l.countP (fun y => decide (y < x))
def cutI (l : List Int) (x : Int) : List Int := l.filter (fun y => y != x)
def putI (l : List Int) (x : Int) : List Int := l.take (placeI l x) ++ x :: l.drop (placeI l x)
theorem placeI_le (l : List Int) (x : Int) : placeI l x ≤ l.length := List.countP_le_length
theorem placeI_take : ∀ {l : List Int} (_ : l.Pairwise (· < ·)) (x : Int), l.take (placeI l x) = l.filter (fun y => decide (y < x)) ∧ l.drop (placeI l x) = l.filter (fun y => !decide (y < x))
  | [], _, _ => ⟨rfl, rfl⟩
  | a :: l, h, x => by
    have hp := List.pairwise_cons.1 h
    by_cases hx : a < x
    · obtain ⟨i1, i2⟩ := placeI_take hp.2 x
      have e : placeI (a :: l) x = placeI l x + 1 := by unfold placeI; rw [List.countP_cons]; simp [hx]
      rw [e, List.take_succ_cons, List.drop_succ_cons, i1, i2]
      constructor <;> simp [hx]
    · have hn : ∀ y ∈ a :: l, ¬ y < x := fun y hy => by
        rcases List.mem_cons.1 hy with rfl | hy
        · exact hx
        · have := hp.1 y hy
          omega
      have e : placeI (a :: l) x = 0 := by
        unfold placeI
        rw [List.countP_eq_zero]
        intro y hy
        simpa using hn y hy
      rw [e, List.take_zero, List.drop_zero]
      constructor
      · symm
        rw [List.filter_eq_nil_iff]
        intro y hy
        simpa using hn y hy
      · symm
        rw [List.filter_eq_self]
        intro y hy
        simpa using hn y hy
theorem placeI_iff {l : List Int} (h : l.Pairwise (· < ·)) (x : Int) (k : Nat) (hk : k < l.length) : rd l k < x ↔ k < placeI l x := by
  rw [rd_nat l k hk]
  obtain ⟨h1, h2⟩ := placeI_take h x
  constructor
  · intro hlt
    by_cases hc : k < placeI l x
    · exact hc
    · have : l[k] ∈ l.drop (placeI l x) := List.mem_iff_getElem.2 ⟨k - placeI l x, by rw [List.length_drop]; omega, by rw [List.getElem_drop]; congr 1; omega⟩
      rw [h2, List.mem_filter] at this
      have := this.2
      simp only [Bool.not_eq_true', decide_eq_false_iff_not] at this
      omega
  · intro hc
    have : l[k] ∈ l.take (placeI l x) := List.mem_iff_getElem.2 ⟨k, by rw [List.length_take]; omega, by rw [List.getElem_take]⟩
    rw [h1, List.mem_filter] at this
    simpa using this.2
theorem putI_mem {l : List Int} {x y : Int} : y ∈ putI l x ↔ y = x ∨ y ∈ l := by
  unfold putI
  rw [List.mem_append, List.mem_cons]
  constructor
  · rintro (h | h | h)
    · exact .inr (List.mem_of_mem_take h)
    · exact .inl h
    · exact .inr (List.mem_of_mem_drop h)
  · rintro (h | h)
    · exact .inr (.inl h)
    · rw [← List.take_append_drop (placeI l x) l, List.mem_append] at h
      exact h.elim .inl (fun h => .inr (.inr h))
theorem putI_length (l : List Int) (x : Int) : (putI l x).length = l.length + 1 := by
  unfold putI
  have := placeI_le l x
  rw [List.length_append, List.length_cons, List.length_take, List.length_drop]
  omega
theorem putI_rises {l : List Int} (h : l.Pairwise (· < ·)) {x : Int} (hx : x ∉ l) : (putI l x).Pairwise (· < ·) := by
  unfold putI
  obtain ⟨h1, h2⟩ := placeI_take h x
  have hb : ∀ y ∈ l.drop (placeI l x), x < y := fun y hy => by
    have hm := List.mem_of_mem_drop hy
    rw [h2, List.mem_filter] at hy
    have := hy.2
    simp only [Bool.not_eq_true', decide_eq_false_iff_not] at this
    have : y ≠ x := fun e => hx (e ▸ hm)
    omega
  have ha : ∀ y ∈ l.take (placeI l x), y < x := fun y hy => by
    rw [h1, List.mem_filter] at hy
    simpa using hy.2
  rw [List.pairwise_append, List.pairwise_cons]
  refine ⟨h.sublist (List.take_sublist _ _), ⟨hb, h.sublist (List.drop_sublist _ _)⟩, fun a ha' b hb' => ?_⟩
  have := ha a ha'
  rcases List.mem_cons.1 hb' with rfl | hb'
  · exact this
  · have := hb b hb'
    omega
theorem cutI_mem {l : List Int} {x y : Int} : y ∈ cutI l x ↔ y ∈ l ∧ y ≠ x := by
  unfold cutI
  rw [List.mem_filter]
  simp
theorem cutI_length (l : List Int) (x : Int) : (cutI l x).length ≤ l.length := List.length_filter_le _ _
theorem cutI_rises {l : List Int} (h : l.Pairwise (· < ·)) (x : Int) : (cutI l x).Pairwise (· < ·) := h.sublist List.filter_sublist
theorem cutI_none {l : List Int} {x : Int} (h : x ∉ l) : cutI l x = l := by
  unfold cutI
  rw [List.filter_eq_self]
  intro y hy
  simp only [bne_iff_ne, ne_eq]
  intro e
  exact h (e ▸ hy)
theorem placeI_hit {l : List Int} (h : l.Pairwise (· < ·)) {x : Int} (hx : x ∈ l) : placeI l x < l.length ∧ rd l (placeI l x) = x := by
  obtain ⟨k, hk, rfl⟩ := List.getElem_of_mem hx
  have h0 := placeI_iff h l[k] k hk
  rw [rd_nat l k hk] at h0
  have h1 : placeI l l[k] ≤ k := by
    have : ¬ k < placeI l l[k] := fun hc => by
      have := h0.2 hc
      omega
    omega
  have hpl : placeI l l[k] < l.length := by omega
  refine ⟨hpl, ?_⟩
  by_cases he : placeI l l[k] = k
  · rw [he, rd_nat l k hk]
  · have h2 := List.pairwise_iff_getElem.1 h (placeI l l[k]) k hpl hk (by omega)
    have h3 := (placeI_iff h l[k] (placeI l l[k]) hpl).1 (by rw [rd_nat l _ hpl]; exact h2)
    omega
theorem cutI_place {l : List Int} (h : l.Pairwise (· < ·)) {x : Int} (hx : x ∈ l) : cutI l x = l.take (placeI l x) ++ l.drop (placeI l x + 1) := by
  obtain ⟨hp, hr⟩ := placeI_hit h hx
  rw [rd_nat l _ hp] at hr
  unfold cutI
  conv => lhs; rw [← List.take_append_drop (placeI l x) l]
  rw [List.filter_append, List.drop_eq_getElem_cons hp, List.filter_cons, hr]
  simp only [bne_self_eq_false, Bool.false_eq_true, if_false]
  have hn : ∀ (j : Nat) (hj : j < l.length), j ≠ placeI l x → l[j] ≠ x := fun j hj hne he => by
    rcases Nat.lt_or_gt_of_ne hne with hlt | hlt
    · have := List.pairwise_iff_getElem.1 h j _ hj hp hlt
      omega
    · have := List.pairwise_iff_getElem.1 h _ j hp hj hlt
      omega
  congr 1
  · rw [List.filter_eq_self]
    intro y hy
    obtain ⟨j, hj, rfl⟩ := List.getElem_of_mem hy
    rw [List.length_take] at hj
    rw [List.getElem_take]
    simpa using hn j (by omega) (by omega)
  · rw [List.filter_eq_self]
    intro y hy
    obtain ⟨j, hj, rfl⟩ := List.getElem_of_mem hy
    rw [List.length_drop] at hj
    rw [List.getElem_drop]
    simpa using hn (placeI l x + 1 + j) (by omega) (by omega)
theorem areB_iff (l : List Int) : areB l = true ↔ l.Pairwise (· < ·) ∧ (∀ x ∈ l, 1 ≤ x ∧ x ≤ 50) ∧ l.length ≤ 7 := by
  unfold areB
  rw [Bool.and_eq_true, decide_eq_true_eq, allFrom_iff]
  constructor
  · rintro ⟨h, h7⟩
    have h' : ∀ (j : Nat) (hj : j < l.length), 1 ≤ l[j] ∧ l[j] ≤ 50 ∧ (j = 0 ∨ rd l ((j : Int) - 1) < l[j]) := fun j hj => by
      have := h j (Nat.zero_le _) hj
      unfold idAt at this
      simpa [rd_nat l j hj, and_assoc] using this
    refine ⟨?_, ?_, h7⟩
    · rw [List.pairwise_iff_getElem]
      have key : ∀ (d i : Nat) (hi : i < l.length) (hj : i + d + 1 < l.length), l[i] < l[i + d + 1] := by
        intro d
        induction d with
        | zero =>
          intro i hi hj
          rcases (h' (i + 1) hj).2.2 with h0 | h0
          · omega
          · rw [show ((i + 1 : Nat) : Int) - 1 = (i : Int) by omega, rd_nat l i hi] at h0
            exact h0
        | succ d ih =>
          intro i hi hj
          have h1 := ih i hi (by omega)
          rcases (h' (i + (d + 1) + 1) hj).2.2 with h0 | h0
          · omega
          · rw [show ((i + (d + 1) + 1 : Nat) : Int) - 1 = ((i + d + 1 : Nat) : Int) by omega, rd_nat l _ (by omega)] at h0
            omega
      intro i j hi hj hij
      have := key (j - i - 1) i hi (by omega)
      simpa [show i + (j - i - 1) + 1 = j by omega] using this
    · intro x hx
      obtain ⟨j, hj, rfl⟩ := List.getElem_of_mem hx
      exact ⟨(h' j hj).1, (h' j hj).2.1⟩
  · rintro ⟨hp, hr, h7⟩
    refine ⟨fun j _ hj => ?_, h7⟩
    unfold idAt
    have := hr l[j] (List.getElem_mem hj)
    rw [rd_nat l j hj]
    by_cases h0 : j = 0
    · subst h0
      simp [this]
    · have h2 := List.pairwise_iff_getElem.1 hp (j - 1) j (by omega) hj (by omega)
      rw [show (j : Int) - 1 = ((j - 1 : Nat) : Int) by omega, rd_nat l (j - 1) (by omega)]
      simp [this, h2]

end

section
theorem less_eq (a b : Int) : cmp_Less_int64.f a b = some (decide (a < b)) := by
  unfold cmp_Less_int64.f cmp_isNaN_int64.f
  simp
theorem bs_l0 (l : List Int) (x : Int) (hl : l.length ≤ 1048576) (d : Nat) : ∀ i j : Nat, j - i ≤ d → i ≤ j → j ≤ l.length →
    ∃ m : Nat, m ≤ l.length ∧ Ev (fun k => slices_BinarySearch_int64_int64.l0 k l x (l.length : Int) (i : Int) (j : Int)) ((m : Int), decide (m < l.length) && decide (rd l m = x)) ∧ (∀ c : Nat, (∀ k : Nat, k < l.length → (rd l k < x ↔ k < c)) → i ≤ c → c ≤ j → m = c) := by
  have fin : ∀ i : Nat, i ≤ l.length → Ev (fun k => slices_BinarySearch_int64_int64.l0 k l x (l.length : Int) (i : Int) (i : Int)) ((i : Int), decide (i < l.length) && decide (rd l i = x)) := by
    intro i hi
    refine Ev.step (fun k => by rw [slices_BinarySearch_int64_int64.l0]) ?_
    refine Ev.neg (by omega) ?_
    by_cases h1 : i < l.length
    · refine Ev.pos (by omega) (Ev.pos (by omega) (Ev.pos (by omega) ?_))
      rw [decide_eq_true h1, Bool.true_and]
      by_cases h2 : rd l i = x
      · exact Ev.pos h2 (Ev.ret' (by rw [decide_eq_true h2]))
      · refine Ev.neg h2 (Ev.bindS (a := false) (by unfold slices_isNaN_int64.f; simp) (Ev.neg (by simp) (Ev.ret' (by rw [decide_eq_false h2]))))
    · refine Ev.neg (by omega) (Ev.ret' ?_)
      rw [decide_eq_false h1, Bool.false_and]
  induction d with
  | zero =>
    intro i j hd hij hj
    obtain rfl : i = j := by omega
    exact ⟨i, hj, fin i hj, fun c _ h1 h2 => by omega⟩
  | succ d ih =>
    intro i j hd hij hj
    by_cases he : i = j
    · subst he
      exact ⟨i, hj, fin i hj, fun c _ h1 h2 => by omega⟩
    · have hw : wrap64 ((IntKind.u64.wrap (wrap64 ((i : Int) + j))) / 2) = (((i + j) / 2 : Nat) : Int) := by
        rw [wrap_id (x := (i : Int) + j) (by omega) (by omega), IntKind.wrap_u64, Int.emod_eq_of_lt (by omega) (by omega), wrap_id (by omega) (by omega)]
        omega
      generalize hh : (i + j) / 2 = h at hw
      have hh1 : i ≤ h := by omega
      have hh2 : h < j := by omega
      by_cases hlt : rd l h < x
      · obtain ⟨m, hm, hev, hc⟩ := ih (h + 1) j (by omega) (by omega) hj
        refine ⟨m, hm, ?_, fun c hk h1 h2 => hc c hk (by have := (hk h (by omega)).1 hlt; omega) h2⟩
        refine Ev.step (fun k => by rw [slices_BinarySearch_int64_int64.l0]) ?_
        rw [hw]
        refine Ev.pos (by omega) (Ev.pos (by omega) (Ev.pos (by omega) (Ev.bindS (less_eq _ _) (Ev.pos (by simpa using hlt) ?_))))
        rw [show ((h + 1 : Nat) : Int) = wrap64 ((h : Int) + 1) from by rw [wrap_id (by omega) (by omega)]; omega] at hev
        exact hev
      · obtain ⟨m, hm, hev, hc⟩ := ih i h (by omega) hh1 (by omega)
        refine ⟨m, hm, ?_, fun c hk h1 h2 => hc c hk h1 (by have : ¬ h < c := fun q => hlt ((hk h (by omega)).2 q); omega)⟩
        refine Ev.step (fun k => by rw [slices_BinarySearch_int64_int64.l0]) ?_
        rw [hw]
        exact Ev.pos (by omega) (Ev.pos (by omega) (Ev.pos (by omega) (Ev.bindS (less_eq _ _) (Ev.neg (by simpa using hlt) hev))))
theorem bs_ev (l : List Int) (x : Int) (hl : l.length ≤ 1048576) : ∃ r, Ev (fun k => slices_BinarySearch_int64_int64.f k l x) r ∧ (l.Pairwise (· < ·) → r = ((placeI l x : Int), hasI l x)) := by
  obtain ⟨m, hm, hev, hc⟩ := bs_l0 l x hl l.length 0 l.length (by omega) (Nat.zero_le _) (Nat.le_refl _)
  refine ⟨_, hev, fun hp => ?_⟩
  rw [hc (placeI l x) (fun k hk => placeI_iff hp x k hk) (Nat.zero_le _) (placeI_le l x)]
  congr 1
  rw [Bool.eq_iff_iff, hasI_iff, Bool.and_eq_true, decide_eq_true_eq, decide_eq_true_eq]
  constructor
  · rintro ⟨h1, h2⟩
    rw [rd_nat l _ h1] at h2
    rw [← h2]
    exact List.getElem_mem h1
  · intro hx
    exact placeI_hit hp hx
theorem spec_l9Cut.l0_ev (l : List Int) (x : Int) (hl : l.length ≤ 1048576) (d : Nat) : ∀ i : Nat, l.length - i = d → i ≤ l.length →
    Ev (fun k => spec_l9Cut.l0 k l x (cutI (l.take i) x) i) (cutI l x) := by
  induction d with
  | zero =>
    intro i hd hi
    refine Ev.step (fun k => by rw [spec_l9Cut.l0]) (Ev.neg (by omega) (Ev.ret' ?_))
    rw [List.take_of_length_le (by omega)]
  | succ d ih =>
    intro i hd hi
    refine Ev.step (fun k => by rw [spec_l9Cut.l0]) (Ev.pos (by omega) (Ev.pos (by omega) ?_))
    have hn := ih (i + 1) (by omega) (by omega)
    rw [show ((i + 1 : Nat) : Int) = wrap64 ((i : Int) + 1) from by rw [wrap_id (by omega) (by omega)]; omega] at hn
    have ht : cutI (l.take (i + 1)) x = cutI (l.take i) x ++ cutI [l[i]] x := by
      unfold cutI
      rw [← List.filter_append, List.take_succ_eq_append_getElem (by omega)]
    have hlen := cutI_length (l.take i) x
    rw [List.length_take] at hlen
    rw [ht] at hn
    rw [rd_nat l i (by omega)]
    by_cases h1 : l[i] = x
    · refine Ev.pos h1 ?_
      have e : cutI [l[i]] x = [] := by unfold cutI; simp [h1]
      rwa [e, List.append_nil] at hn
    · refine Ev.neg h1 (Ev.pos (by omega) ?_)
      have e : cutI [l[i]] x = [l[i]] := by unfold cutI; simp [h1]
      rwa [e] at hn
theorem spec_l9Cut.ev (l : List Int) (x : Int) (hl : l.length ≤ 1048576) : Ev (fun k => spec_l9Cut.f k l x) (cutI l x) :=
  spec_l9Cut.l0_ev l x hl _ 0 rfl (Nat.zero_le _)
theorem spec_l9Put.l0_ev (l : List Int) (x : Int) (hl : l.length ≤ 1048576) (c : Nat) (hc : c ≤ l.length) (hk : ∀ k : Nat, k < l.length → (rd l k > x ↔ c ≤ k)) (d : Nat) : ∀ i : Nat, l.length - i = d → i ≤ l.length →
    Ev (fun k => spec_l9Put.l0 k l x (if c < i then l.take c ++ x :: (l.take i).drop c else l.take i) (decide (c < i)) i) (l.take c ++ x :: l.drop c) := by
  induction d with
  | zero =>
    intro i hd hi
    refine Ev.step (fun k => by rw [spec_l9Put.l0]) (Ev.neg (by omega) ?_)
    by_cases h : c < i
    · rw [decide_eq_true h]
      refine Ev.pos rfl (Ev.ret' ?_)
      rw [if_pos h, List.take_of_length_le (l := l) (i := i) (by omega)]
    · rw [decide_eq_false h]
      refine Ev.neg (by simp) (Ev.pos (by rw [if_neg h, List.length_take]; omega) (Ev.ret' ?_))
      obtain rfl : c = i := by omega
      rw [if_neg h, List.drop_of_length_le (by omega)]
  | succ d ih =>
    intro i hd hi
    refine Ev.step (fun k => by rw [spec_l9Put.l0]) (Ev.pos (by omega) ?_)
    have hn := ih (i + 1) (by omega) (by omega)
    rw [show ((i + 1 : Nat) : Int) = wrap64 ((i : Int) + 1) from by rw [wrap_id (by omega) (by omega)]; omega] at hn
    have hi' : i < l.length := by omega
    have hr := rd_nat l i hi'
    have ht : l.take (i + 1) = l.take i ++ [l[i]] := List.take_succ_eq_append_getElem hi'
    by_cases h : c < i
    · rw [if_pos (by omega), decide_eq_true (show c < i + 1 by omega)] at hn
      rw [decide_eq_true h, if_pos h, hr]
      refine Ev.pos rfl (Ev.pos (by omega) (Ev.pos (by simp only [List.length_append, List.length_cons, List.length_take, List.length_drop]; omega) ?_))
      rw [ht, List.drop_append_of_le_length (by rw [List.length_take]; omega)] at hn
      simpa [List.append_assoc] using hn
    · rw [decide_eq_false h, if_neg h]
      refine Ev.neg (by simp) (Ev.pos (by omega) ?_)
      by_cases hg : c = i
      · subst hg
        rw [if_pos (by omega), decide_eq_true (show c < c + 1 by omega)] at hn
        refine Ev.pos ((hk c hi').2 (Nat.le_refl _)) (Ev.pos (by rw [List.length_take]; omega) (Ev.bindS rfl (Ev.pos (by rw [List.length_append, List.length_take]; simp; omega) ?_)))
        rw [ht, List.drop_append_of_le_length (by rw [List.length_take]; omega), List.drop_of_length_le (by rw [List.length_take]; omega), List.nil_append] at hn
        rw [hr]
        simpa [List.append_assoc] using hn
      · rw [if_neg (by omega), decide_eq_false (show ¬ c < i + 1 by omega), ht] at hn
        refine Ev.neg (fun q => by have := (hk i hi').1 q; omega) (Ev.pos (by rw [List.length_take]; omega) ?_)
        rw [hr]
        exact hn
theorem spec_l9Put.ev (l : List Int) (x : Int) (hl : l.length ≤ 1048576) (hp : l.Pairwise (· < ·)) (hx : x ∉ l) : Ev (fun k => spec_l9Put.f k l x) (putI l x) := by
  have := spec_l9Put.l0_ev l x hl (placeI l x) (placeI_le l x) (fun k hk => by
    have h0 := placeI_iff hp x k hk
    have h1 : rd l k ≠ x := fun e => hx (by rw [← e, rd_nat l k hk]; exact List.getElem_mem hk)
    constructor
    · intro h
      have : ¬ k < placeI l x := fun q => by have := h0.2 q; omega
      omega
    · intro h
      have : ¬ rd l k < x := fun q => by have := h0.1 q; omega
      omega) _ 0 rfl (Nat.zero_le _)
  unfold spec_l9Put.f putI
  simpa using this

end

section
def impl_ConfOk.f (l0_0 : List Int) (l0_1 : List Int) : Option (Bool) := (impl_isConf.f l0_0 l0_1).bind fun t102 => (some t102)
set_option maxHeartbeats 8000000 in
set_option maxRecDepth 100000 in
theorem impl_ConfOk.calls (A0_0 : Option Addr) (c0_0 : Nat) (l0_0 : List Int) (A0_1 : Option Addr) (c0_1 : Nat) (l0_1 : List Int) (r : Bool) (w : World) (hr0_0 : Kd.C (Kd.int .i64) w A0_0 l0_0.length l0_0) (hc0_0 : l0_0.length ≤ c0_0) (hr0_1 : Kd.C (Kd.int .i64) w A0_1 l0_1.length l0_1) (hc0_1 : l0_1.length ≤ c0_1) (h : impl_ConfOk.f l0_0 l0_1 = some r) :
    Calls Try.prog 14 #[.agg #[.slice A0_0 l0_0.length c0_0, .slice A0_1 l0_1.length c0_1]] w fun e w' => e = .returned (.bool r) ∧ Below w.heap.size w w' := by
  have hu27 := Try.underlying27
  have HR0_0 := Aside0.mk hr0_0
  have HC0_0 := Aside0.mk hc0_0
  clear hr0_0 hc0_0
  have HR0_1 := Aside0.mk hr0_1
  have HC0_1 := Aside0.mk hc0_1
  clear hr0_1 hc0_1
  have HB := Aside0.mk (Below.refl w.heap.size w)
  have H : ((impl_isConf.f l0_0 l0_1).bind fun t102 => (some t102)) = some r := h
  clear h
  replace H := Option.bind_eq_some_iff.mp H
  obtain ⟨t102, A20, H⟩ := H
  replace H : (some t102) = some r := H
  have A2 := Aside0.mk A20
  clear A20
  obtain rfl := Option.some.inj H
  go_enter Try.func14, Try.ntmps14
  go_wp2_with (first | ((with_reducible refine gate_dst (N := 1) rfl ?_); refine box_event ?hg (N := 1) ?hd (cs := #[.slice A0_0 l0_0.length c0_0, .slice A0_1 l0_1.length c0_1]) (t := 27) ?hr ?_; (case hd => rfl); (case hg => rfl); (case hr => first | (go_simp; done) | (go_simp; rfl)); intro gb101 hg w3 hbox hb; have n0_ := Aside0.mk (below_step (by repeat (first | (with_reducible first | exact HB.out | apply below_alloc | apply pw_below_drewN | apply below_drew1) | exact HB.out)) hb); have n1_ := Aside0.mk (hbox); have n2_ := Aside0.mk ((by rw [hg]; exact (below_size (by repeat (first | (with_reducible first | exact HB.out | apply below_alloc | apply pw_below_drewN | apply below_drew1) | exact HB.out))) : w.heap.size ≤ gb101)); have n3_ := Aside0.mk ((by rw [hg]; exact (below_size (by repeat (first | (with_reducible first | exact HB.out | apply below_alloc | apply pw_below_drewN | apply below_drew1) | exact HB.out))) : w.heap.size ≤ gb101)); clear HB; have HB := n0_; have BK101 := n1_; have GW101 := n2_; have GE101 := n3_; clear n0_ n1_ n2_ n3_; clear hb hbox hg; have hcz4_0 : w3.cell? ⟨gb101, 0, none⟩ = some (.slice A0_0 l0_0.length c0_0) := (blk_cell BK101.out 0).trans rfl; have hcz4_1 : w3.cell? ⟨gb101, 1, none⟩ = some (.slice A0_1 l0_1.length c0_1) := (blk_cell BK101.out 1).trans rfl; have hfz4_0 := blk_frozen BK101.out 0; have hfz4_1 := blk_frozen BK101.out 1) | ((with_reducible refine gate_callee (f := 44) rfl ?_); refine goesL_ (some 4) rfl rfl Try.func44 (by kernel_rfl) rfl #[.agg #[.slice A0_0 l0_0.length c0_0, .slice A0_1 l0_1.length c0_1]] rfl (by (try simp only [List.map_toArray, List.map_cons, List.map_nil]); first | done | rfl | (simp only [List.length_drop, List.length_take]; rfl)) ?_; (with_reducible refine (impl_isConf.calls _ _ l0_0 _ _ l0_1 t102 _ ?side1 ?side2 ?side3 ?side4 A2.out).mono ?_); (case side1 => repeat (first | exact (Kd.C_below HR0_0.out HB.out) | (with_reducible refine Kd.C_alloc ?_ _) | (with_reducible refine Kd.C_drewN ?_ _) | (with_reducible refine Kd.C_drew ?_))); (case side2 => exact HC0_0.out); (case side3 => repeat (first | exact (Kd.C_below HR0_1.out HB.out) | (with_reducible refine Kd.C_alloc ?_ _) | (with_reducible refine Kd.C_drewN ?_ _) | (with_reducible refine Kd.C_drew ?_))); (case side4 => exact HC0_1.out); rintro e w5 ⟨rfl, hb⟩; refine ⟨_, rfl, ?_⟩; have n0_ := Aside0.mk (blk_below (g := gb101) (o := .cells #[.slice A0_0 l0_0.length c0_0, .slice A0_1 l0_1.length c0_1] 27 (0, 0)) (by (with_reducible repeat (first | refine blk_drewN ?_ _ | refine blk_drew ?_ | refine blk_alloc ?_ _)); exact BK101.out) hb); have n1_ := Aside0.mk (below_step (by repeat (first | (with_reducible first | exact HB.out | apply below_alloc | apply pw_below_drewN | apply below_drew1 | refine below_set ?_ GE101.out) | exact HB.out)) hb); clear BK101; clear HB; have BK101 := n0_; have HB := n1_; clear n0_ n1_; (try clear hb); (try clear hb2); (try clear hk); (try clear hi)))
  go_ret
  exact ⟨by first | rfl | (simp [errW_none, errW_some] <;> rfl) | (simp [*, errW_none, errW_some] <;> rfl), by repeat (first | (with_reducible first | exact HB.out | apply below_alloc | apply pw_below_drewN | apply below_drew1 | refine below_set ?_ GE101.out) | exact HB.out)⟩

end

section
theorem spec_ConfOk.l0_ev (l0 l1 : List Int) (h0 : l0.length ≤ 1048576) (h1 : l1.length ≤ 1048576) (d : Nat) : ∀ i : Nat, l1.length - i = d → i ≤ l1.length →
    Ev (fun k => spec_ConfOk.l0 k i l0 l1) (!anyFrom (fun x => hasI l0 x) l1 i) := by
  induction d with
  | zero =>
    intro i hd hi
    refine Ev.step (fun k => by rw [spec_ConfOk.l0]) ?_
    exact Ev.neg (by omega) (Ev.ret' (by rw [anyFrom_end _ (by omega)]; rfl))
  | succ d ih =>
    intro i hd hi
    refine Ev.step (fun k => by rw [spec_ConfOk.l0]) ?_
    refine Ev.pos (by omega) (Ev.pos (by omega) (Ev.bind (spec_l1Ints.ev l0 _ (by omega)) ?_))
    have hn := ih (i + 1) (by omega) (by omega)
    rw [show ((i + 1 : Nat) : Int) = wrap64 ((i : Int) + 1) from by rw [wrap_id (by omega) (by omega)]; omega] at hn
    rw [anyFrom_step _ (by omega), rd_nat l1 i (by omega)]
    cases hasI l0 l1[i] with
    | true => exact Ev.pos rfl (Ev.ret' rfl)
    | false => exact Ev.neg (by simp) hn
theorem spec_ConfOk.ev (l0 l1 : List Int) (h0 : l0.length ≤ 1048576) (h1 : l1.length ≤ 1048576) : Ev (fun k => spec_ConfOk.f k l0 l1) (impl_isConf.B l0 l1) := by
  have hj : Ev (fun k => spec_ConfOk.j0 k true l0 l1) false := Ev.step (fun k => by rw [spec_ConfOk.j0]) (Ev.pos rfl (Ev.ret _))
  unfold spec_ConfOk.f impl_isConf.B
  by_cases hz : 0 < l0.length
  · rw [decide_eq_true hz]
    refine Ev.neg (by omega) (Ev.bind (spec_l9Ids.ev l0 (by omega)) ?_)
    cases areB l0 with
    | false => exact Ev.neg (by simp) hj
    | true =>
      refine Ev.pos rfl (Ev.bind (spec_l9Ids.ev l1 (by omega)) ?_)
      cases areB l1 with
      | false => exact hj
      | true =>
        show Ev (fun k => spec_ConfOk.j0 k false l0 l1) _
        refine Ev.step (fun k => by rw [spec_ConfOk.j0]) ?_
        refine Ev.neg (by simp) ?_
        exact spec_ConfOk.l0_ev l0 l1 h0 h1 _ 0 rfl (Nat.zero_le _)
  · rw [decide_eq_false hz]
    exact Ev.pos (by omega) hj
theorem impl_ConfOk.eq (l0 l1 : List Int) : impl_ConfOk.f l0 l1 = some (impl_isConf.B l0 l1) := rfl

end

section
theorem isConf_iff (l0 l1 : List Int) : impl_isConf.B l0 l1 = true ↔ 0 < l0.length ∧ areB l0 = true ∧ areB l1 = true ∧ ∀ x ∈ l1, x ∉ l0 := by
  unfold impl_isConf.B
  simp only [Bool.and_eq_true, decide_eq_true_eq, Bool.not_eq_true', List.any_eq_false, hasI_iff]
theorem conf_learn {l0 l1 : List Int} {x : Int} (h : impl_isConf.B l0 l1 = true) (hx : 1 ≤ x ∧ x ≤ 50) (h0 : x ∉ l0) (h1 : x ∉ l1) : impl_isConf.B l0 (putI l1 x) = decide (l1.length ≠ 7) := by
  obtain ⟨hl, ha0, ha1, hd⟩ := (isConf_iff _ _).1 h
  obtain ⟨p1, q1, s1⟩ := (areB_iff _).1 ha1
  rw [Bool.eq_iff_iff, isConf_iff, areB_iff (putI l1 x), decide_eq_true_eq, putI_length]
  constructor
  · rintro ⟨_, _, ⟨_, _, h7⟩, _⟩
    omega
  · intro h7
    refine ⟨hl, ha0, ⟨putI_rises p1 h1, fun y hy => ?_, by omega⟩, fun y hy => ?_⟩
    · rcases putI_mem.1 hy with rfl | hy
      · exact hx
      · exact q1 y hy
    · rcases putI_mem.1 hy with rfl | hy
      · exact h0
      · exact hd y hy
theorem conf_promote {l0 l1 : List Int} {x : Int} (h : impl_isConf.B l0 l1 = true) (h1 : x ∈ l1) : impl_isConf.B (putI l0 x) (cutI l1 x) = decide (l0.length ≠ 7) := by
  obtain ⟨hl, ha0, ha1, hd⟩ := (isConf_iff _ _).1 h
  obtain ⟨p0, q0, s0⟩ := (areB_iff _).1 ha0
  obtain ⟨p1, q1, s1⟩ := (areB_iff _).1 ha1
  rw [Bool.eq_iff_iff, isConf_iff, areB_iff (putI l0 x), areB_iff (cutI l1 x), decide_eq_true_eq, putI_length]
  constructor
  · rintro ⟨_, ⟨_, _, h7⟩, _⟩
    omega
  · intro h7
    have := cutI_length l1 x
    refine ⟨by omega, ⟨putI_rises p0 (hd x h1), fun y hy => ?_, by omega⟩, ⟨cutI_rises p1 x, fun y hy => q1 y (cutI_mem.1 hy).1, by omega⟩, fun y hy hy0 => ?_⟩
    · rcases putI_mem.1 hy with rfl | hy
      · exact q1 y h1
      · exact q0 y hy
    · obtain ⟨hy1, hne⟩ := cutI_mem.1 hy
      exact (putI_mem.1 hy0).elim hne (hd y hy1)
theorem conf_remove {l0 l1 : List Int} {x : Int} (h : impl_isConf.B l0 l1 = true) (hn : ¬ (x ∈ l0 ∧ l0.length = 1)) : impl_isConf.B (cutI l0 x) (cutI l1 x) = true := by
  obtain ⟨hl, ha0, ha1, hd⟩ := (isConf_iff _ _).1 h
  obtain ⟨p0, q0, s0⟩ := (areB_iff _).1 ha0
  obtain ⟨p1, q1, s1⟩ := (areB_iff _).1 ha1
  have c0 := cutI_length l0 x
  have c1 := cutI_length l1 x
  rw [isConf_iff, areB_iff, areB_iff]
  refine ⟨?_, ⟨cutI_rises p0 x, fun y hy => q0 y (cutI_mem.1 hy).1, by omega⟩, ⟨cutI_rises p1 x, fun y hy => q1 y (cutI_mem.1 hy).1, by omega⟩, fun y hy hy0 => hd y (cutI_mem.1 hy).1 (cutI_mem.1 hy0).1⟩
  by_cases hx : x ∈ l0
  · have hp := placeI_hit p0 hx
    rw [cutI_place p0 hx, List.length_append, List.length_take, List.length_drop]
    have : l0.length ≠ 1 := fun e => hn ⟨hx, e⟩
    omega
  · rw [cutI_none hx]
    exact hl
def changedB (l0 l1 : List Int) (a x : Int) : List Int × List Int × Int :=
  if impl_isConf.B l0 l1 = true then
    if (1 ≤ a ∧ a ≤ 3) ∧ (1 ≤ x ∧ x ≤ 50) then
      if a = 1 then (if x ∈ l0 ∨ x ∈ l1 then (l0, l1, 12) else if l1.length = 7 then (l0, l1, 14) else (l0, putI l1 x, 0))
      else if a = 2 then (if x ∈ l1 then (if l0.length = 7 then (l0, l1, 14) else (putI l0 x, cutI l1 x, 0)) else (l0, l1, 12))
      else (if ¬ (x ∈ l0 ∨ x ∈ l1) then (l0, l1, 12) else if x ∈ l0 ∧ l0.length = 1 then (l0, l1, 13) else (cutI l0 x, cutI l1 x, 0))
    else (l0, l1, 11)
  else ([], [], 10)
theorem l9Copy_eq (l0 l1 : List Int) (h0 : l0.length ≤ 1048576) (h1 : l1.length ≤ 1048576) : spec_l9Copy.f l0 l1 = some (l0, l1) := by
  unfold spec_l9Copy.f
  rw [Option.bind_some, if_pos (by simp; omega), Option.bind_some, if_pos (by simp; omega), List.nil_append, List.nil_append]
theorem copyConf_eq (l0 l1 : List Int) (h0 : l0.length ≤ 1048576) (h1 : l1.length ≤ 1048576) : impl_copyConf.f l0 l1 = some (l0, l1) := by
  unfold impl_copyConf.f
  rw [Option.bind_some, if_pos (by simp; omega), Option.bind_some, if_pos (by simp; omega), List.nil_append, List.nil_append]
theorem hasI_mem {l : List Int} {x : Int} (h : x ∈ l) : hasI l x = true := (hasI_iff l x).2 h
theorem hasI_not {l : List Int} {x : Int} (h : x ∉ l) : hasI l x = false := by
  rw [Bool.eq_false_iff]
  exact fun e => h ((hasI_iff l x).1 e)
theorem spec_Changed.j3_ev {l0 l1 y0 y1 : List Int} (h0 : l0.length ≤ 1048576) (h1 : l1.length ≤ 1048576) (i0 : y0.length ≤ 1048576) (i1 : y1.length ≤ 1048576) :
    Ev (fun k => spec_Changed.j3 k l0 l1 y0 y1) (if impl_isConf.B y0 y1 = true then (y0, y1, 0) else (l0, l1, 14)) := by
  refine Ev.step (fun k => by rw [spec_Changed.j3]) (Ev.bind (spec_ConfOk.ev y0 y1 i0 i1) ?_)
  cases impl_isConf.B y0 y1 with
  | true => exact Ev.pos rfl (Ev.ret _)
  | false => exact Ev.neg (by simp) (Ev.bindS (l9Copy_eq l0 l1 h0 h1) (Ev.ret _))
theorem spec_Changed.ev (l0 l1 : List Int) (a x : Int) (h0 : l0.length ≤ 1048576) (h1 : l1.length ≤ 1048576) : Ev (fun k => spec_Changed.f k l0 l1 a x) (changedB l0 l1 a x) := by
  unfold spec_Changed.f changedB
  refine Ev.bind (spec_ConfOk.ev l0 l1 h0 h1) ?_
  cases hb : impl_isConf.B l0 l1 with
  | false => exact Ev.neg (by simp) (Ev.ret _)
  | true =>
    rw [if_pos rfl]
    refine Ev.pos rfl (Ev.bindS (l9Copy_eq l0 l1 h0 h1) (Ev.bindS (spec_l1In.eq _ _ _) ?_))
    obtain ⟨hl, ha0, ha1, hd⟩ := (isConf_iff _ _).1 hb
    obtain ⟨p0, q0, s0⟩ := (areB_iff _).1 ha0
    obtain ⟨p1, q1, s1⟩ := (areB_iff _).1 ha1
    by_cases hk : 1 ≤ a ∧ a ≤ 3
    · refine Ev.pos (by simp [hk]) (Ev.bindS (spec_l1In.eq _ _ _) ?_)
      by_cases hx : 1 ≤ x ∧ x ≤ 50
      · rw [if_pos ⟨hk, hx⟩]
        refine Ev.step (fun k => by rw [spec_Changed.j0]) (Ev.neg (by simp [hx]) (Ev.bind (spec_l1Ints.ev l0 x (by omega)) (Ev.bind (spec_l1Ints.ev l1 x (by omega)) ?_)))
        by_cases e1 : a = 1
        · rw [if_pos e1]
          refine Ev.pos e1 ?_
          by_cases m0 : x ∈ l0
          · rw [if_pos (.inl m0)]
            exact Ev.pos (hasI_mem m0) (Ev.ret _)
          · refine Ev.neg (by rw [hasI_not m0]; simp) ?_
            by_cases m1 : x ∈ l1
            · rw [if_pos (.inr m1)]
              exact Ev.pos (hasI_mem m1) (Ev.ret _)
            · rw [if_neg (by simp [m0, m1])]
              refine Ev.neg (by rw [hasI_not m1]; simp) (Ev.bind (spec_l9Put.ev l1 x h1 p1 m1) (Ev.eq (spec_Changed.j3_ev h0 h1 h0 (by rw [putI_length]; omega)) ?_))
              rw [conf_learn hb hx m0 m1]
              by_cases e7 : l1.length = 7
              · rw [if_pos e7, if_neg (by simp [e7])]
              · rw [if_neg e7, if_pos (by simp [e7])]
        · rw [if_neg e1]
          refine Ev.neg e1 ?_
          by_cases e2 : a = 2
          · rw [if_pos e2]
            refine Ev.pos e2 ?_
            by_cases m1 : x ∈ l1
            · rw [if_pos m1]
              have := cutI_length l1 x
              refine Ev.pos (hasI_mem m1) (Ev.bind (spec_l9Cut.ev l1 x h1) (Ev.bind (spec_l9Put.ev l0 x h0 p0 (hd x m1)) (Ev.eq (spec_Changed.j3_ev h0 h1 (by rw [putI_length]; omega) (by omega)) ?_)))
              rw [conf_promote hb m1]
              by_cases e7 : l0.length = 7
              · rw [if_pos e7, if_neg (by simp [e7])]
              · rw [if_neg e7, if_pos (by simp [e7])]
            · rw [if_neg m1]
              exact Ev.neg (by rw [hasI_not m1]; simp) (Ev.ret _)
          · rw [if_neg e2]
            refine Ev.neg e2 (Ev.pos (by omega) ?_)
            have c0 := cutI_length l0 x
            have c1 := cutI_length l1 x
            have cut : ¬ (x ∈ l0 ∧ l0.length = 1) → Ev (fun k => (spec_l9Cut.f k l1 x).bind fun t124 => (spec_l9Cut.f k l0 x).bind fun t127 => spec_Changed.j3 k l0 l1 t127 t124) (cutI l0 x, cutI l1 x, 0) := fun hn => by
              refine Ev.bind (spec_l9Cut.ev l1 x h1) (Ev.bind (spec_l9Cut.ev l0 x h0) (Ev.eq (spec_Changed.j3_ev h0 h1 (by omega) (by omega)) ?_))
              rw [if_pos (conf_remove hb hn)]
            by_cases m0 : x ∈ l0
            · rw [if_neg (by simp [m0])]
              refine Ev.pos (hasI_mem m0) (Ev.step (fun k => by rw [spec_Changed.j1]) (Ev.neg (by simp) (Ev.pos (hasI_mem m0) (Ev.step (fun k => by rw [spec_Changed.j2]) ?_))))
              by_cases e7 : l0.length = 1
              · rw [if_pos ⟨m0, e7⟩]
                exact Ev.pos (by simp [e7]) (Ev.ret _)
              · rw [if_neg (fun q => e7 q.2)]
                exact Ev.neg (by simp; omega) (cut (fun q => e7 q.2))
            · refine Ev.neg (by rw [hasI_not m0]; simp) (Ev.step (fun k => by rw [spec_Changed.j1]) ?_)
              by_cases m1 : x ∈ l1
              · rw [if_neg (by simp [m1]), if_neg (fun q => m0 q.1)]
                exact Ev.neg (by simp [hasI_mem m1]) (Ev.neg (by rw [hasI_not m0]; simp) (Ev.step (fun k => by rw [spec_Changed.j2]) (Ev.neg (by simp) (cut (fun q => m0 q.1)))))
              · rw [if_pos (by simp [m0, m1])]
                exact Ev.pos (by simp [hasI_not m1]) (Ev.ret _)
      · rw [if_neg (fun q => hx q.2)]
        exact Ev.step (fun k => by rw [spec_Changed.j0]) (Ev.pos (by simp; omega) (Ev.ret _))
    · rw [if_neg (fun q => hk q.1)]
      refine Ev.neg (by simp; omega) (Ev.step (fun k => by rw [spec_Changed.j0]) (Ev.pos rfl (Ev.ret _)))
theorem ins_eq {l : List Int} {x : Int} (h : l.length ≤ 1048576) : slices_Insert_int64_int64.f l (placeI l x) [x] = some (putI l x, [x]) := by
  unfold slices_Insert_int64_int64.f
  have := placeI_le l x
  rw [if_pos ⟨rfl, by omega, by omega, by omega⟩, Int.toNat_natCast]
  rfl
theorem del_eq {l : List Int} {x : Int} (h : l.length ≤ 1048576) (hp : l.Pairwise (· < ·)) (hx : x ∈ l) : slices_Delete_int64_int64.f l (placeI l x) (wrap64 ((placeI l x : Int) + 1)) = some (cutI l x) := by
  have h1 := placeI_hit hp hx
  unfold slices_Delete_int64_int64.f
  rw [wrap_id (by omega) (by omega), if_pos ⟨by omega, by omega, rfl⟩, Int.toNat_natCast, cutI_place hp hx]
theorem impl_Changed.ev (l0 l1 : List Int) (a x : Int) (h0 : l0.length ≤ 1048576) (h1 : l1.length ≤ 1048576) : Ev (fun k => impl_Changed.f k l0 l1 a x) (changedB l0 l1 a x) := by
  unfold impl_Changed.f changedB
  obtain ⟨r0, hr0, hs0⟩ := bs_ev l0 x h0
  obtain ⟨r1, hr1, hs1⟩ := bs_ev l1 x h1
  refine Ev.bindS (copyConf_eq l0 l1 h0 h1) (Ev.bind hr0 (Ev.bind hr1 (Ev.bindS (a := impl_isConf.B l0 l1) rfl ?_)))
  cases hb : impl_isConf.B l0 l1 with
  | false => exact Ev.neg (by simp) (Ev.ret _)
  | true =>
    rw [if_pos rfl]
    refine Ev.pos rfl (Ev.bindS (impl_in.eq _ _ _) ?_)
    obtain ⟨hl, ha0, ha1, hd⟩ := (isConf_iff _ _).1 hb
    obtain ⟨p0, q0, s0⟩ := (areB_iff _).1 ha0
    obtain ⟨p1, q1, s1⟩ := (areB_iff _).1 ha1
    obtain rfl := hs0 p0
    obtain rfl := hs1 p1
    clear hr0 hr1 hs0 hs1
    by_cases hk : 1 ≤ a ∧ a ≤ 3
    · refine Ev.pos (by simp [hk]) (Ev.bindS (impl_isNodeId.eq _) ?_)
      by_cases hx : 1 ≤ x ∧ x ≤ 50
      · rw [if_pos ⟨hk, hx⟩]
        refine Ev.step (fun k => by rw [impl_Changed.j0]) (Ev.neg (by simp [hx]) ?_)
        have j1t : ∀ {b0 b1 : Bool} {i0 i1 : Int}, Ev (fun k => impl_Changed.j1 k a x i0 b0 i1 b1 true l0 l1 l0 l1) (l0, l1, 12) := fun {_ _ _ _} => Ev.step (fun k => by rw [impl_Changed.j1]) (Ev.pos rfl (Ev.ret _))
        by_cases e1 : a = 1
        · rw [if_pos e1]
          refine Ev.pos e1 ?_
          by_cases m0 : x ∈ l0
          · rw [if_pos (.inl m0)]
            exact Ev.pos (hasI_mem m0) j1t
          · refine Ev.neg (by rw [hasI_not m0]; simp) ?_
            by_cases m1 : x ∈ l1
            · rw [if_pos (.inr m1)]
              exact Ev.pos (hasI_mem m1) j1t
            · rw [if_neg (by simp [m0, m1])]
              refine Ev.neg (by rw [hasI_not m1]; simp) (Ev.neg (by omega) (Ev.neg (by omega) (Ev.step (fun k => by rw [impl_Changed.j1]) (Ev.neg (by simp) (Ev.neg (by omega) (Ev.step (fun k => by rw [impl_Changed.j2]) (Ev.neg (by simp) (Ev.pos e1 ?_))))))))
              by_cases e7 : l1.length = 7
              · rw [if_pos e7]
                exact Ev.pos (by omega) (Ev.ret _)
              · rw [if_neg e7]
                exact Ev.neg (by omega) (Ev.neg (by omega) (Ev.step (fun k => by rw [impl_Changed.j3]) (Ev.neg (by rw [hasI_not m1]; simp) (Ev.step (fun k => by rw [impl_Changed.j4]) (Ev.pos e1 (Ev.bindS (ins_eq h1) (Ev.ret _)))))))
        · rw [if_neg e1]
          refine Ev.neg e1 ?_
          by_cases e2 : a = 2
          · rw [if_pos e2]
            refine Ev.pos e2 ?_
            by_cases m1 : x ∈ l1
            · rw [if_pos m1]
              refine Ev.pos (hasI_mem m1) (Ev.neg (by omega) (Ev.step (fun k => by rw [impl_Changed.j1]) (Ev.neg (by simp) (Ev.neg (by omega) (Ev.step (fun k => by rw [impl_Changed.j2]) (Ev.neg (by simp) (Ev.neg e1 (Ev.pos e2 ?_))))))))
              by_cases e7 : l0.length = 7
              · rw [if_pos e7]
                exact Ev.pos (by omega) (Ev.ret _)
              · rw [if_neg e7]
                exact Ev.neg (by omega) (Ev.step (fun k => by rw [impl_Changed.j3]) (Ev.pos (hasI_mem m1) (Ev.bindS (del_eq h1 p1 m1) (Ev.step (fun k => by rw [impl_Changed.j4]) (Ev.neg e1 (Ev.pos e2 (Ev.bindS (ins_eq h0) (Ev.ret _))))))))
            · rw [if_neg m1]
              exact Ev.neg (by rw [hasI_not m1]; simp) j1t
          · rw [if_neg e2]
            refine Ev.neg e2 (Ev.pos (by omega) ?_)
            have fin : Ev (fun k => impl_Changed.j2 k a x (placeI l0 x) (hasI l0 x) (placeI l1 x) (hasI l1 x) false l0 l1 l0 l1) (cutI l0 x, cutI l1 x, 0) := by
              refine Ev.step (fun k => by rw [impl_Changed.j2]) (Ev.neg (by simp) (Ev.neg e1 (Ev.neg e2 (Ev.step (fun k => by rw [impl_Changed.j3]) ?_))))
              have tail : Ev (fun k => impl_Changed.j4 k a x (placeI l0 x) (hasI l0 x) (placeI l1 x) l0 (cutI l1 x)) (cutI l0 x, cutI l1 x, 0) := by
                refine Ev.step (fun k => by rw [impl_Changed.j4]) (Ev.neg e1 (Ev.neg e2 ?_))
                by_cases m0 : x ∈ l0
                · exact Ev.pos (hasI_mem m0) (Ev.bindS (del_eq h0 p0 m0) (Ev.ret _))
                · exact Ev.neg (by rw [hasI_not m0]; simp) (Ev.ret' (by rw [cutI_none m0]))
              by_cases m1 : x ∈ l1
              · exact Ev.pos (hasI_mem m1) (Ev.bindS (del_eq h1 p1 m1) tail)
              · rw [cutI_none m1] at tail ⊢
                exact Ev.neg (by rw [hasI_not m1]; simp) tail
            by_cases m0 : x ∈ l0
            · rw [if_neg (by simp [m0])]
              refine Ev.pos (hasI_mem m0) (Ev.step (fun k => by rw [impl_Changed.j1]) (Ev.neg (by simp) (Ev.pos (by omega) (Ev.pos (hasI_mem m0) ?_))))
              by_cases e7 : l0.length = 1
              · rw [if_pos ⟨m0, e7⟩]
                exact Ev.step (fun k => by rw [impl_Changed.j2]) (Ev.pos (by simp [e7]) (Ev.ret _))
              · rw [if_neg (fun q => e7 q.2), show ((l0.length : Int) == 1) = false by simp; omega]
                exact fin
            · refine Ev.neg (by rw [hasI_not m0]; simp) ?_
              by_cases m1 : x ∈ l1
              · rw [if_neg (by simp [m1]), if_neg (fun q => m0 q.1), hasI_mem m1]
                refine Ev.step (fun k => by rw [impl_Changed.j1]) (Ev.neg (by simp) (Ev.pos (by omega) (Ev.neg (by rw [hasI_not m0]; simp) ?_)))
                rw [← hasI_mem m1]
                exact fin
              · rw [if_pos (by simp [m0, m1]), hasI_not m1]
                exact j1t
      · rw [if_neg (fun q => hx q.2)]
        exact Ev.step (fun k => by rw [impl_Changed.j0]) (Ev.pos (by simp; omega) (Ev.ret _))
    · rw [if_neg (fun q => hk q.1)]
      refine Ev.neg (by simp; omega) (Ev.step (fun k => by rw [impl_Changed.j0]) (Ev.pos rfl (Ev.ret _)))

end

section
theorem changedB_length (l0 l1 : List Int) (a x : Int) (h0 : l0.length ≤ 1048576) (h1 : l1.length ≤ 1048576) : (changedB l0 l1 a x).1.length ≤ 1048576 ∧ (changedB l0 l1 a x).2.1.length ≤ 1048576 := by
  have c0 := cutI_length l0 x
  have c1 := cutI_length l1 x
  have p0 := putI_length l0 x
  have p1 := putI_length l1 x
  unfold changedB
  by_cases hb : impl_isConf.B l0 l1 = true
  · rw [if_pos hb]
    obtain ⟨hl, ha0, ha1, hd⟩ := (isConf_iff _ _).1 hb
    have s0 := ((areB_iff _).1 ha0).2.2
    have s1 := ((areB_iff _).1 ha1).2.2
    repeat' split
    all_goals
      simp only
      omega
  · rw [if_neg hb]
    simp
theorem law_FnExactChanged.ev (l0 l1 : List Int) (a x : Int) (o0 : okL (okI .i64) l0) (o1 : okL (okI .i64) l1) (_ : okI .i64 a) (_ : okI .i64 x) : Ev (fun k => laws_FnExactChanged.f k l0 l1 a x) true := by
  unfold laws_FnExactChanged.f
  obtain ⟨r, hr, hr'⟩ := laws_szConf.sz l0 l1 1048576 (by omega) (by omega) o0.1 o1.1
  refine Ev.bindS hr ?_
  rcases hr' with hr' | ⟨h0, _, b0, b1⟩
  · exact Ev.pos hr' (Ev.ret _)
  have cv := laws_toConf.ev l0 l1 b0 b1
  obtain ⟨d0, d1⟩ := changedB_length l0 l1 a x b0 b1
  have hs := spec_Changed.ev l0 l1 a x b0 b1
  have hi := impl_Changed.ev l0 l1 a x b0 b1
  generalize changedB l0 l1 a x = v at *
  obtain ⟨v0, v1, v2⟩ := v
  simp only at d0 d1
  have eqr := laws_eqConf.refl v0 v1 d0 d1
  have eqx := laws_eqConf.refl l0 l1 b0 b1
  obtain ⟨xa, xb, xr, x1, x2, x3⟩ := conf_marked l0 l1 (by omega) (by omega) 1 (by omega) (by omega)
  obtain ⟨ya, yb, yr, y1, y2, y3⟩ := conf_marked v0 v1 (by omega) (by omega) 1 (by omega) (by omega)
  refine Ev.neg (by omega) (Ev.bind cv (Ev.bind hs (Ev.bind cv (Ev.bind hi (Ev.bind eqr (Ev.pos rfl (Ev.step (fun k => by rw [laws_FnExactChanged.j0]) (Ev.neg (by simp) ?_))))))))
  refine Ev.bind cv (Ev.bind eqx (Ev.pos rfl (Ev.bind x1 (Ev.neg (by show ¬ xr < 0; omega) (Ev.bind eqr (Ev.pos rfl (Ev.step (fun k => by rw [laws_FnExactChanged.j1]) (Ev.neg (by simp) ?_))))))))
  refine Ev.bind y1 (Ev.bind y2 (Ev.neg (by omega) (Ev.pos rfl (Ev.bind cv (Ev.bind hi (Ev.bind eqr (Ev.pos rfl (Ev.step (fun k => by rw [laws_FnExactChanged.j2]) (Ev.neg (by simp) ?_)))))))))
  exact Ev.bind y2 (Ev.neg (by omega) (Ev.pos rfl (Ev.ret _)))

end

end Go.Proofs.Ytolloakdibhidaa.Q
