/- Part 1 of what the row of FnExactPieces needs: functions of the program as plain Lean functions, their contracts, and lemmas; made by a program of this session out of its texts. -/
import Derived.Deep.Slices
import Derived.ChangeArms
import Derived.DataReads
import Derived.DataElems
import Derived.Test.YtolloakdibhidaaCFnExactPieces0
namespace Go.Proofs.Ytolloakdibhidaa.Q
open Go.RowKit Go.Proofs.YtolloakdibhidaaW.PrintWords Go.Proofs.YtolloakdibhidaaW.PrintLast Go.Proofs.YtolloakdibhidaaW.PrintMore
attribute [local go_sem] max2_int min2_int max_two min_two max_three min_three max_four min_four   -- for this text's walks alone
set_option linter.unusedVariables false
set_option linter.unusedSimpArgs false
section
theorem rdOf_nat {α : Type} (z : α) (l : List α) (i : Nat) (h : i < l.length) : rdOf z l (i : Int) = l[i] := by
  unfold rdOf
  rw [Int.toNat_natCast, List.getD_eq_getElem?_getD, List.getElem?_eq_getElem h]
  rfl
theorem rdOf_set_eq {α : Type} (z : α) (l : List α) (i : Nat) (v : α) (h : i < l.length) : rdOf z (l.set i v) (i : Int) = v := by
  rw [rdOf_nat z _ i (by rw [List.length_set]; exact h), List.getElem_set_self]
theorem rdOf_set_ne {α : Type} (z : α) (l : List α) (i j : Nat) (v : α) (h : i ≠ j) : rdOf z (l.set i v) (j : Int) = rdOf z l (j : Int) := by
  unfold rdOf
  rw [Int.toNat_natCast, List.getD_eq_getElem?_getD, List.getD_eq_getElem?_getD, List.getElem?_set_ne h]
theorem laws_markText.l0_ok (d : Nat) : ∀ (n : Int) (s : ByteArray), n.toNat ≤ d → (s.size : Int) + n ≤ 4611686018427387904 → n ≤ 4611686018427387904 → s.size ≤ 4611686018427387904 → ∃ t, Ev (fun k => laws_markText.l0 k n s) t := by
  induction d with
  | zero =>
    intro n s hd hs hn hs2
    refine ⟨(⟨#[109]⟩ : ByteArray) ++ s, ?_⟩
    refine Ev.step (fun k => by rw [laws_markText.l0]) ?_
    refine Ev.neg (by omega) ?_
    exact Ev.pos (by omega) (Ev.ret _)
  | succ d ih =>
    intro n s hd hs hn hs2
    by_cases h : n > 0
    · have e1 : Int.tdiv n 10 = n / 10 := Int.tdiv_eq_ediv_of_nonneg (by omega)
      have e2 : wrap64 (n / 10) = n / 10 := wrap_id (by omega) (by omega)
      have hsz : (strOfNums [(wrap64 (48 + (Int.tmod n 10))) % 256] ++ s).size = 1 + s.size := by
        rw [ByteArray.size_append]
        rfl
      obtain ⟨t, ht⟩ := ih (n / 10) (strOfNums [(wrap64 (48 + (Int.tmod n 10))) % 256] ++ s) (by omega) (by rw [hsz]; omega) (by omega) (by rw [hsz]; omega)
      refine ⟨t, ?_⟩
      refine Ev.step (fun k => by rw [laws_markText.l0]) ?_
      refine Ev.pos h ?_
      refine Ev.bindS rfl ?_
      refine Ev.pos ?_ ?_
      · show 1 + s.size ≤ _
        omega
      rw [e1, e2]
      exact ht
    · refine ⟨(⟨#[109]⟩ : ByteArray) ++ s, ?_⟩
      refine Ev.step (fun k => by rw [laws_markText.l0]) ?_
      refine Ev.neg h ?_
      exact Ev.pos (by omega) (Ev.ret _)
theorem laws_markText.ok (n : Int) (hn : n ≤ 4611686018427387904) : ∃ t, Ev (fun k => laws_markText.f k n) t := by
  unfold laws_markText.f
  by_cases h : n ≤ 0
  · exact ⟨_, Ev.pos h (Ev.ret _)⟩
  · obtain ⟨t, ht⟩ := laws_markText.l0_ok n.toNat n ⟨#[]⟩ (Nat.le_refl _) (by show ((0 : Nat) : Int) + n ≤ _; omega) hn (by show 0 ≤ _; omega)
    exact ⟨t, Ev.neg h ht⟩
theorem laws_markStringS.l0_ok (q : Int) (hq : 0 ≤ q) (hq2 : q ≤ 1099511627776) (d : Nat) : ∀ (i : Nat) (l : List ByteArray), l.length - i = d → i ≤ l.length → l.length ≤ 1099511627776 →
    (∀ j : Nat, j < i → Ev (fun k => laws_markText.f k (q + j)) (rdOf ByteArray.empty l (j : Int))) →
    ∃ l' : List ByteArray, Ev (fun k => laws_markStringS.l0 k l (q + i) i) (q + l.length, l') ∧ l'.length = l.length ∧ ∀ j : Nat, j < l'.length → Ev (fun k => laws_markText.f k (q + j)) (rdOf ByteArray.empty l' (j : Int)) := by
  induction d with
  | zero =>
    intro i l hd hi hl hm
    refine ⟨l, ?_, rfl, fun j hj => hm j (by omega)⟩
    refine Ev.step (fun k => by rw [laws_markStringS.l0]) ?_
    refine Ev.neg (by omega) (Ev.ret' ?_)
    rw [show i = l.length by omega]
  | succ d ih =>
    intro i l hd hi hl hm
    obtain ⟨t, ht⟩ := laws_markText.ok (q + i) (by omega)
    obtain ⟨l', h1, h2, h3⟩ := ih (i + 1) (l.set i t) (by rw [List.length_set]; omega) (by rw [List.length_set]; omega) (by rw [List.length_set]; exact hl) (by
      intro j hj
      by_cases e : j = i
      · subst e
        rw [rdOf_set_eq _ _ _ _ (by omega)]
        exact ht
      · rw [rdOf_set_ne _ _ _ _ _ (by omega)]
        exact hm j (by omega))
    rw [List.length_set] at h1 h2
    refine ⟨l', ?_, h2, h3⟩
    refine Ev.step (fun k => by rw [laws_markStringS.l0]) ?_
    refine Ev.pos (by omega) ?_
    refine Ev.bind ht ?_
    refine Ev.pos (by omega) ?_
    rw [Int.toNat_natCast, show wrap64 (q + (i : Int) + 1) = q + ((i + 1 : Nat) : Int) from by rw [wrap_id (by omega) (by omega)]; omega, show wrap64 ((i : Int) + 1) = ((i + 1 : Nat) : Int) from by rw [wrap_id (by omega) (by omega)]; omega]
    exact h1
theorem laws_heldStringS.l0_ok (q : Int) (hq : 0 ≤ q) (hq2 : q ≤ 1099511627776) (l : List ByteArray) (hl : l.length ≤ 1099511627776) (hm : ∀ j : Nat, j < l.length → Ev (fun k => laws_markText.f k (q + j)) (rdOf ByteArray.empty l (j : Int))) (d : Nat) : ∀ i : Nat, l.length - i = d → i ≤ l.length →
    Ev (fun k => laws_heldStringS.l0 k l (q + i) i) (q + l.length) := by
  induction d with
  | zero =>
    intro i hd hi
    refine Ev.step (fun k => by rw [laws_heldStringS.l0]) ?_
    refine Ev.neg (by omega) (Ev.ret' ?_)
    rw [show i = l.length by omega]
  | succ d ih =>
    intro i hd hi
    refine Ev.step (fun k => by rw [laws_heldStringS.l0]) ?_
    refine Ev.pos (by omega) ?_
    refine Ev.pos (by omega) ?_
    refine Ev.bind (hm i (by omega)) ?_
    refine Ev.pos rfl ?_
    rw [show wrap64 (q + (i : Int) + 1) = q + ((i + 1 : Nat) : Int) from by rw [wrap_id (by omega) (by omega)]; omega, show wrap64 ((i : Int) + 1) = ((i + 1 : Nat) : Int) from by rw [wrap_id (by omega) (by omega)]; omega]
    exact ih (i + 1) (by omega) (by omega)
/-- What was marked is held. -/
theorem strs_marked (q : Int) (hq : 0 ≤ q) (hq2 : q ≤ 1099511627776) (l : List ByteArray) (hl : l.length ≤ 1099511627776) :
    ∃ l' : List ByteArray, Ev (fun k => laws_markStringS.f k l q) (q + l.length, l') ∧ l'.length = l.length ∧ Ev (fun k => laws_heldStringS.f k l' q) (q + l.length) := by
  obtain ⟨l', h1, h2, h3⟩ := laws_markStringS.l0_ok q hq hq2 _ 0 l rfl (Nat.zero_le _) hl (fun j hj => by omega)
  have h4 := laws_heldStringS.l0_ok q hq hq2 l' (by omega) h3 _ 0 rfl (Nat.zero_le _)
  rw [h2] at h4
  rw [show q + ((0 : Nat) : Int) = q by omega] at h1 h4
  exact ⟨l', h1, h2, h4⟩
theorem laws_eqStringS.refl0 (l : List ByteArray) (hl : l.length ≤ 1099511627776) (d : Nat) : ∀ i : Nat, l.length - i = d → i ≤ l.length → Ev (fun k => laws_eqStringS.l0 k l l i) true := by
  induction d with
  | zero =>
    intro i hd hi
    refine Ev.step (fun k => by rw [laws_eqStringS.l0]) ?_
    exact Ev.neg (by omega) (Ev.ret _)
  | succ d ih =>
    intro i hd hi
    refine Ev.step (fun k => by rw [laws_eqStringS.l0]) ?_
    refine Ev.pos (by omega) ?_
    refine Ev.pos (by omega) ?_
    refine Ev.pos (by omega) ?_
    refine Ev.pos rfl ?_
    rw [show wrap64 ((i : Int) + 1) = ((i + 1 : Nat) : Int) from by rw [wrap_id (by omega) (by omega)]; omega]
    exact ih (i + 1) (by omega) (by omega)
theorem laws_eqStringS.refl (l : List ByteArray) (hl : l.length ≤ 1099511627776) : Ev (fun k => laws_eqStringS.f k l l) true := by
  unfold laws_eqStringS.f
  exact Ev.pos rfl (laws_eqStringS.refl0 l hl _ 0 rfl (Nat.zero_le _))
end

section
/-- What a number, a string, a list that was read as data is bounded by. -/
def okI (k : IntKind) (x : Int) : Prop := (Lit.int k x).wf = true
def okB (_ : Bool) : Prop := True
def okS (s : ByteArray) : Prop := s.size ≤ maxLen
def okL {α : Type} (ok : α → Prop) (l : List α) : Prop := l.length ≤ maxLen ∧ ∀ x ∈ l, ok x
/-- What reads as data at type t is of kind d. -/
def Opens {α : Type} (P : Program) (t : TypeId) (d : Kd α) (ok : α → Prop) : Prop :=
  ∀ (H : Type) (enc : TypeId × Value → H) (W : World) (base : Nat) (spare : Nat → Bool) (held : Bool) (fuel : Nat) (cs : List Value) (y : DataW H × List MemPlace),
    DataW.trod enc P W base spare held fuel t cs = some y → ∃ x, d.K W x cs ∧ ok x
theorem Opens.int {P : Program} {t : TypeId} {k : IntKind} (ht : P.underlying t = some (.int k)) : Opens P t (Kd.int k) (okI k) := by
  intro H enc W base spare held fuel cs y h
  obtain ⟨n, rfl, _, hw⟩ := DataW.trod_int ht h
  exact ⟨n, rfl, hw⟩
theorem Opens.bool {P : Program} {t : TypeId} (ht : P.underlying t = some .bool) : Opens P t Kd.bool okB := by
  intro H enc W base spare held fuel cs y h
  obtain ⟨n, rfl, _⟩ := DataW.trod_bool ht h
  exact ⟨n, rfl, trivial⟩
theorem Opens.string {P : Program} {t : TypeId} (ht : P.underlying t = some .string) : Opens P t Kd.string okS := by
  intro H enc W base spare held fuel cs y h
  obtain ⟨n, rfl, _, hw⟩ := DataW.trod_string ht h
  exact ⟨n, rfl, hw⟩
theorem list_of_index {α : Type} {p : Nat → α → Prop} (n : Nat) (h : ∀ i, i < n → ∃ x, p i x) : ∃ xs : List α, xs.length = n ∧ ∀ i x, xs[i]? = some x → p i x := by
  induction n with
  | zero => exact ⟨[], rfl, fun i x hx => by simp at hx⟩
  | succ n ih =>
    obtain ⟨xs, hl, hx⟩ := ih (fun i hi => h i (by omega))
    obtain ⟨y, hy⟩ := h n (by omega)
    refine ⟨xs ++ [y], by simp [hl], fun i x he => ?_⟩
    by_cases hi : i < xs.length
    · rw [List.getElem?_append_left hi] at he
      exact hx i x he
    · rw [List.getElem?_append_right (by omega)] at he
      by_cases e : i = xs.length
      · subst e
        simp at he
        subst he
        rw [hl]
        exact hy
      · rw [List.getElem?_eq_none (by simp; omega)] at he
        cases he
theorem Opens.slice {α : Type} {P : Program} {t e : TypeId} {d : Kd α} {ok : α → Prop} (ht : P.underlying t = some (.slice e)) (hd : Opens P e d ok) (hs : P.cellsOf e = d.sz) : Opens P t (Kd.slice e d) (okL ok) := by
  intro H enc W base spare held fuel cs y h
  rcases Deep.open_slice ht h with ⟨rfl, _⟩ | ⟨a, len, cap, m, n, D, Pl, rfl, hb, hl, hm, hme, _, hel⟩
  · exact ⟨[], ⟨none, 0, rfl, Nat.le_refl _, Kd.C_nil _ _⟩, Nat.zero_le _, fun x hx => by simp at hx⟩
  · have hlm : len ≤ m := by
      rw [hme]
      split <;> omega
    have hx : ∀ i, i < len → ∃ x, ok x ∧ ∃ cs', W.cells? base (a.add (i * P.cellsOf e)) (P.cellsOf e) = some cs' ∧ d.K W x cs' := by
      intro i hi
      obtain ⟨cs', h1, h2⟩ := hel i (by omega)
      obtain ⟨x, hk, ho⟩ := hd H enc W base spare held n cs' _ h2
      exact ⟨x, ho, cs', h1, hk⟩
    obtain ⟨xs, rfl, hxs⟩ := list_of_index len hx
    have hmax : xs.length ≤ maxLen := Nat.le_trans hl hm
    refine ⟨xs, ⟨some a, cap, rfl, hl, rfl, hmax, fun _ => ⟨a, rfl, ?_⟩⟩, hmax, ?_⟩
    · intro j p hp
      obtain ⟨_, cs', h1, h2⟩ := hxs j p hp
      refine ⟨cs', d.K_len h2, h2, fun i u hu => ?_⟩
      unfold World.cells? at h1
      split at h1
      · have hi : i < P.cellsOf e := by
          rw [hs, ← d.K_len h2]
          exact (List.getElem?_eq_some_iff.1 hu).1
        have := mapM_some_get h1 i i (by rw [List.getElem?_range hi])
        rw [Addr.add_add, hs] at this
        rw [this]
        exact hu
      · cases h1
    · intro x hx'
      obtain ⟨i, hi, rfl⟩ := List.getElem_of_mem hx'
      exact (hxs i _ (List.getElem?_eq_getElem hi)).1
/-- A struct's fields, each at its place. -/
theorem trod_fields {H : Type} {enc : TypeId × Value → H} {P : Program} {W : World} {base : Nat} {spare : Nat → Bool} {held : Bool} {fuel : Nat} {t : TypeId} {cs : List Value} {y : DataW H × List MemPlace} {fs : Array Field}
    (ht : P.underlying t = some (.struct fs)) (h : DataW.trod enc P W base spare held fuel t cs = some y) :
    cs.length = P.cellsOf t ∧ ∃ n, ∀ (i : Nat) (f : Field), fs[i]? = some f → ∃ z, DataW.trod enc P W base spare held n f.type ((cs.drop f.offset).take (P.cellsOf f.type)) = some z := by
  obtain ⟨xs, n, _, _, hl, hsz, hf⟩ := DataW.trod_struct ht h
  refine ⟨hl, n, fun i f hi => ?_⟩
  have h1 := hf i f hi
  have h2 : i < xs.length := by
    rw [hsz]
    exact (Array.getElem?_eq_some_iff.1 hi).1
  rw [List.getElem?_eq_getElem h2] at h1
  exact ⟨_, h1⟩
theorem okI_u8 {x : Int} (h : okI .u8 x) : 0 ≤ x ∧ x ≤ 255 := by
  have h' : (decide (IntKind.u8.min ≤ x) && decide (x ≤ IntKind.u8.max)) = true := h
  rw [Bool.and_eq_true] at h'
  have h1 := of_decide_eq_true h'.1
  have h2 := of_decide_eq_true h'.2
  rw [show IntKind.u8.min = 0 from by decide] at h1
  rw [show IntKind.u8.max = 255 from by decide] at h2
  exact ⟨h1, h2⟩
theorem okI_i64 {x : Int} (h : okI .i64 x) : -9223372036854775808 ≤ x ∧ x ≤ 9223372036854775807 := by
  have h' : (decide (IntKind.i64.min ≤ x) && decide (x ≤ IntKind.i64.max)) = true := h
  rw [Bool.and_eq_true] at h'
  have h1 := of_decide_eq_true h'.1
  have h2 := of_decide_eq_true h'.2
  rw [show IntKind.i64.min = -9223372036854775808 from by decide] at h1
  rw [show IntKind.i64.max = 9223372036854775807 from by decide] at h2
  exact ⟨h1, h2⟩
end

section
/-! ### impl_isNodeId: function 70 -/
def impl_isNodeId.f (a0 : Int) : Option (Bool) := (impl_in.f a0 1 50).bind fun t101 => (some t101)
set_option maxHeartbeats 8000000 in
set_option maxRecDepth 100000 in
theorem impl_isNodeId.calls (a0 : Int) (r : Bool) (w : World) (h : impl_isNodeId.f a0 = some r) :
    Calls Try.prog 70 #[.int .i64 a0] w fun e w' => e = .returned (.bool r) ∧ Drawn0 w w' := by
  have H : ((impl_in.f a0 1 50).bind fun t101 => (some t101)) = some r := h
  clear h
  replace H := Option.bind_eq_some_iff.mp H
  obtain ⟨t101, A20, H⟩ := H
  replace H : (some t101) = some r := H
  have A2 := Aside0.mk A20
  clear A20
  obtain rfl := Option.some.inj H
  go_enter Try.func70, Try.ntmps70
  go_wp2_with (first | ((with_reducible refine gate_callee (f := 50) rfl ?_); refine goesL_ (some 4) rfl rfl Try.func50 (by kernel_rfl) rfl #[.int .i64 a0, .int .i64 1, .int .i64 50] rfl (by (try simp only [List.map_toArray, List.map_cons, List.map_nil]); first | done | rfl | (simp only [List.length_drop, List.length_take]; rfl)) ?_; (with_reducible refine (impl_in.calls a0 1 50 t101 _ A2.out).mono ?_); rintro e w' ⟨rfl, ⟨nd, rfl⟩⟩; refine ⟨_, rfl, ?_⟩))
  go_ret
  exact ⟨by first | rfl | (simp; done) | (simp [*]; done), by repeat (first | exact Drawn0.refl _ | apply Drawn0.step)⟩
end

section
/-! ### impl_areMembers: function 77 -/
def impl_areMembers.l0 : Nat → List Int → List Int → Int → Int → Option (Bool)
  | 0, _, _, _, _ => none
  | k + 1, x0, x5, x6, x7 => if x7 < x6 then (if 0 ≤ x7 then (if x7 < (x5.length : Int) then ((impl_isNodeId.f (rd x5 x7)).bind fun t102 => (if t102 = true then (if x7 > 0 then (if 0 ≤ (wrap64 (x7 - 1)) then (if (wrap64 (x7 - 1)) < (x0.length : Int) then (if (rd x0 (wrap64 (x7 - 1))) ≥ (rd x5 x7) then (some false) else (impl_areMembers.l0 k x0 x5 x6 (wrap64 (x7 + 1)))) else (none)) else (none)) else (impl_areMembers.l0 k x0 x5 x6 (wrap64 (x7 + 1)))) else (some false))) else (none)) else (none)) else (some (decide ((x0.length : Int) ≤ 7)))
def impl_areMembers.f (k : Nat) (l0 : List Int) : Option (Bool) := impl_areMembers.l0 k l0 l0 (l0.length : Int) 0
theorem impl_areMembers.mono_l : ∀ k, (∀ y0 y1 y2 y3, LeO (impl_areMembers.l0 k y0 y1 y2 y3) (impl_areMembers.l0 (k + 1) y0 y1 y2 y3))
  | 0 => fun _ _ _ _ r h => by simp [impl_areMembers.l0] at h
  | k + 1 => by
    have ih0 := impl_areMembers.mono_l k
    · intro y0 y1 y2 y3
      unfold impl_areMembers.l0
      repeat' first
      | (with_reducible exact ih0 _ _ _ _)
      | (with_reducible exact LeO.refl _)
      | (with_reducible exact LeO.none _)
      | (with_reducible refine LeO.ite ?_ ?_)
      | (with_reducible refine LeO.bind ?_ (fun _ => ?_))
      | exact ih0 _ _ _ _
      | exact LeO.none _
      | refine LeO.ite ?_ ?_
      | refine LeO.bind ?_ (fun _ => ?_)
theorem impl_areMembers.mono : ∀ a0 k, LeO (impl_areMembers.f k a0) (impl_areMembers.f (k + 1) a0) := by
  intro a0 k
  have ih0 := impl_areMembers.mono_l k
  unfold impl_areMembers.f
  repeat' first
      | (with_reducible exact ih0 _ _ _ _)
      | (with_reducible exact LeO.refl _)
      | (with_reducible exact LeO.none _)
      | (with_reducible refine LeO.ite ?_ ?_)
      | (with_reducible refine LeO.bind ?_ (fun _ => ?_))
      | exact ih0 _ _ _ _
      | exact LeO.none _
      | refine LeO.ite ?_ ?_
      | refine LeO.bind ?_ (fun _ => ?_)
set_option maxHeartbeats 8000000 in
set_option maxRecDepth 100000 in
theorem impl_areMembers.calls (k : Nat) (A0 : Option Addr) (c0 : Nat) (l0 : List Int) (r : Bool) (w : World) (hr0 : Kd.C (Kd.int .i64) w A0 l0.length l0) (hc0 : l0.length ≤ c0) (h : impl_areMembers.f k l0 = some r) :
    Calls Try.prog 77 #[.slice A0 l0.length c0] w fun e w' => e = .returned (.bool r) ∧ Drawn0 w w' := by
  have HR0 := Aside0.mk hr0
  have HC0 := Aside0.mk hc0
  clear hr0 hc0
  have H : (impl_areMembers.l0 k l0 l0 (l0.length : Int) 0) = some r := h
  clear h
  have H' := Aside0.mk H
  clear H
  go_enter Try.func77, Try.ntmps77
  go_wp2
  go_loopg [7] k (fun kq v7 w' => ∃ (x7_1 : Int), v7 = .int .i64 x7_1 ∧ Aside0 (impl_areMembers.l0 kq l0 l0 (l0.length : Int) x7_1 = some r) ∧ Aside0 (kq ≤ k) ∧ Drawn0 w w')
  case atStart => exact ⟨(0), (by first | rfl | (simp; done) | (simp [*]; done)), H', ⟨Nat.le_refl _⟩, by repeat (first | exact Drawn0.refl _ | apply Drawn0.step)⟩
  case round =>
    clear H'
    obtain ⟨x7_1, rfl, HA, HK1, ⟨m1, rfl⟩⟩ := hrel
    cases gk with
    | zero => exact absurd HA.out (by simp [impl_areMembers.l0])
    | succ k1 =>
      have H := HA.out
      clear HA
      simp only [impl_areMembers.l0] at H
      by_cases c2 : x7_1 < (l0.length : Int)
      · rw [if_pos c2] at H
        have c2b0 : decide (x7_1 < (l0.length : Int)) = true := decide_eq_true c2
        clear c2
        by_cases c3 : 0 ≤ x7_1
        · rw [if_pos c3] at H
          have c3b0 : decide (0 ≤ x7_1) = true := decide_eq_true c3
          clear c3
          by_cases c4 : x7_1 < (l0.length : Int)
          · rw [if_pos c4] at H
            have c4b0 : decide (x7_1 < (l0.length : Int)) = true := decide_eq_true c4
            clear c4
            replace H := Option.bind_eq_some_iff.mp H
            obtain ⟨t102, A50, H⟩ := H
            replace H : (if t102 = true then (if x7_1 > 0 then (if 0 ≤ (wrap64 (x7_1 - 1)) then (if (wrap64 (x7_1 - 1)) < (l0.length : Int) then (if (rd l0 (wrap64 (x7_1 - 1))) ≥ (rd l0 x7_1) then (some false) else (impl_areMembers.l0 k1 l0 l0 (l0.length : Int) (wrap64 (x7_1 + 1)))) else (none)) else (none)) else (impl_areMembers.l0 k1 l0 l0 (l0.length : Int) (wrap64 (x7_1 + 1)))) else (some false)) = some r := H
            have A5 := Aside0.mk A50
            clear A50
            by_cases c6 : t102 = true
            · subst c6
              have H1 : (if x7_1 > 0 then (if 0 ≤ (wrap64 (x7_1 - 1)) then (if (wrap64 (x7_1 - 1)) < (l0.length : Int) then (if (rd l0 (wrap64 (x7_1 - 1))) ≥ (rd l0 x7_1) then (some false) else (impl_areMembers.l0 k1 l0 l0 (l0.length : Int) (wrap64 (x7_1 + 1)))) else (none)) else (none)) else (impl_areMembers.l0 k1 l0 l0 (l0.length : Int) (wrap64 (x7_1 + 1)))) = some r := by rw [if_pos rfl] at H; exact H
              clear H
              have H := H1
              clear H1
              by_cases c7 : x7_1 > 0
              · rw [if_pos c7] at H
                have c7b0 : decide (0 < x7_1) = true := decide_eq_true c7
                clear c7
                obtain ⟨ji8, hji8⟩ : ∃ j_ : Int, (wrap64 (x7_1 - 1)) = j_ := ⟨_, rfl⟩
                replace H : (if 0 ≤ (ji8) then (if (ji8) < (l0.length : Int) then (if (rd l0 (ji8)) ≥ (rd l0 x7_1) then (some false) else (impl_areMembers.l0 k1 l0 l0 (l0.length : Int) (wrap64 (x7_1 + 1)))) else (none)) else (none)) = some r := by first | (rw [hji8] at H; exact H) | (simp only [hji8] at H ⊢; exact H)
                (try rw [hji8] at A5)
                have hji8w : (IntKind.i64.wrap (x7_1 - 1)) = ji8 := (i64_w _).trans hji8
                by_cases c9 : 0 ≤ (ji8)
                · rw [if_pos c9] at H
                  have c9b0 : decide (0 ≤ (ji8)) = true := decide_eq_true c9
                  clear c9
                  by_cases c10 : (ji8) < (l0.length : Int)
                  · rw [if_pos c10] at H
                    have c10b0 : decide ((ji8) < (l0.length : Int)) = true := decide_eq_true c10
                    clear c10
                    by_cases c11 : (rd l0 (ji8)) ≥ (rd l0 x7_1)
                    · rw [if_pos c11] at H
                      have c11b0 : decide ((rd l0 x7_1) ≤ (rd l0 (ji8))) = true := decide_eq_true c11
                      clear c11
                      obtain rfl := Option.some.inj H
                      have p101 : 0 ≤ (x7_1 : Int) := of_decide_eq_true (by first | (with_reducible assumption) | assumption)
                      have q101 : x7_1 < (l0.length : Int) := of_decide_eq_true (by first | (with_reducible assumption) | assumption)
                      obtain ⟨ad101, e101, hx101_0⟩ := Kd.at_int HR0.out x7_1 p101 q101
                      cases e101
                      replace p101 := eq_true p101
                      replace q101 := eq_true q101
                      go_wp2_with (first | ((with_reducible refine gate_callee (f := 70) rfl ?_); refine goesL_ (some 13) rfl rfl Try.func70 (by kernel_rfl) rfl #[.int .i64 (rd l0 x7_1)] rfl (by (try simp only [List.map_toArray, List.map_cons, List.map_nil]); first | done | rfl | (simp only [List.length_drop, List.length_take]; rfl)) ?_; (with_reducible refine (impl_isNodeId.calls (rd l0 x7_1) true _ A5.out).mono ?_); rintro e w' ⟨rfl, ⟨nd, rfl⟩⟩; refine ⟨_, rfl, ?_⟩; have p103 : 0 ≤ ((ji8) : Int) := of_decide_eq_true (by first | (with_reducible assumption) | assumption); have q103 : (ji8) < (l0.length : Int) := of_decide_eq_true (by first | (with_reducible assumption) | assumption); obtain ⟨ad103, e103, hx103_0⟩ := Kd.at_int HR0.out (ji8) p103 q103; obtain rfl : ad101 = ad103 := (by injection e103); replace p103 := eq_true p103; replace q103 := eq_true q103))
                      go_ret
                      exact ⟨by first | rfl | (simp; done) | (simp only [← hji8] <;> (first | rfl | simp)) | (simp [*]; done), by repeat (first | exact Drawn0.refl _ | apply Drawn0.step)⟩
                    · rw [if_neg c11] at H
                      have c11b0 : decide ((rd l0 x7_1) ≤ (rd l0 (ji8))) = false := decide_eq_false c11
                      clear c11
                      have H' := Aside0.mk H
                      clear H
                      have p101 : 0 ≤ (x7_1 : Int) := of_decide_eq_true (by first | (with_reducible assumption) | assumption)
                      have q101 : x7_1 < (l0.length : Int) := of_decide_eq_true (by first | (with_reducible assumption) | assumption)
                      obtain ⟨ad101, e101, hx101_0⟩ := Kd.at_int HR0.out x7_1 p101 q101
                      cases e101
                      replace p101 := eq_true p101
                      replace q101 := eq_true q101
                      go_wp2_with (first | ((with_reducible refine gate_callee (f := 70) rfl ?_); refine goesL_ (some 13) rfl rfl Try.func70 (by kernel_rfl) rfl #[.int .i64 (rd l0 x7_1)] rfl (by (try simp only [List.map_toArray, List.map_cons, List.map_nil]); first | done | rfl | (simp only [List.length_drop, List.length_take]; rfl)) ?_; (with_reducible refine (impl_isNodeId.calls (rd l0 x7_1) true _ A5.out).mono ?_); rintro e w' ⟨rfl, ⟨nd, rfl⟩⟩; refine ⟨_, rfl, ?_⟩; have p103 : 0 ≤ ((ji8) : Int) := of_decide_eq_true (by first | (with_reducible assumption) | assumption); have q103 : (ji8) < (l0.length : Int) := of_decide_eq_true (by first | (with_reducible assumption) | assumption); obtain ⟨ad103, e103, hx103_0⟩ := Kd.at_int HR0.out (ji8) p103 q103; obtain rfl : ad101 = ad103 := (by injection e103); replace p103 := eq_true p103; replace q103 := eq_true q103))
                      go_roundg k1
                      case measure => have := HK1.out; omega
                      case rel => exact ⟨(wrap64 (x7_1 + 1)), (by first | rfl | (simp; done) | (simp [*]; done)), H', ⟨by have := HK1.out; omega⟩, by repeat (first | exact Drawn0.refl _ | apply Drawn0.step)⟩
                  · rw [if_neg c10] at H
                    exact absurd H (by simp)
                · rw [if_neg c9] at H
                  exact absurd H (by simp)
              · rw [if_neg c7] at H
                have c7b0 : decide (0 < x7_1) = false := decide_eq_false c7
                clear c7
                have H' := Aside0.mk H
                clear H
                have p101 : 0 ≤ (x7_1 : Int) := of_decide_eq_true (by first | (with_reducible assumption) | assumption)
                have q101 : x7_1 < (l0.length : Int) := of_decide_eq_true (by first | (with_reducible assumption) | assumption)
                obtain ⟨ad101, e101, hx101_0⟩ := Kd.at_int HR0.out x7_1 p101 q101
                cases e101
                replace p101 := eq_true p101
                replace q101 := eq_true q101
                go_wp2_with (first | ((with_reducible refine gate_callee (f := 70) rfl ?_); refine goesL_ (some 13) rfl rfl Try.func70 (by kernel_rfl) rfl #[.int .i64 (rd l0 x7_1)] rfl (by (try simp only [List.map_toArray, List.map_cons, List.map_nil]); first | done | rfl | (simp only [List.length_drop, List.length_take]; rfl)) ?_; (with_reducible refine (impl_isNodeId.calls (rd l0 x7_1) true _ A5.out).mono ?_); rintro e w' ⟨rfl, ⟨nd, rfl⟩⟩; refine ⟨_, rfl, ?_⟩))
                go_roundg k1
                case measure => have := HK1.out; omega
                case rel => exact ⟨(wrap64 (x7_1 + 1)), (by first | rfl | (simp; done) | (simp [*]; done)), H', ⟨by have := HK1.out; omega⟩, by repeat (first | exact Drawn0.refl _ | apply Drawn0.step)⟩
            · replace c6 := Bool.eq_false_iff.mpr c6
              subst c6
              have H1 : (some false) = some r := by rw [if_neg (show ¬ (false = true) by decide)] at H; exact H
              clear H
              have H := H1
              clear H1
              obtain rfl := Option.some.inj H
              have p101 : 0 ≤ (x7_1 : Int) := of_decide_eq_true (by first | (with_reducible assumption) | assumption)
              have q101 : x7_1 < (l0.length : Int) := of_decide_eq_true (by first | (with_reducible assumption) | assumption)
              obtain ⟨ad101, e101, hx101_0⟩ := Kd.at_int HR0.out x7_1 p101 q101
              cases e101
              replace p101 := eq_true p101
              replace q101 := eq_true q101
              go_wp2_with (first | ((with_reducible refine gate_callee (f := 70) rfl ?_); refine goesL_ (some 13) rfl rfl Try.func70 (by kernel_rfl) rfl #[.int .i64 (rd l0 x7_1)] rfl (by (try simp only [List.map_toArray, List.map_cons, List.map_nil]); first | done | rfl | (simp only [List.length_drop, List.length_take]; rfl)) ?_; (with_reducible refine (impl_isNodeId.calls (rd l0 x7_1) false _ A5.out).mono ?_); rintro e w' ⟨rfl, ⟨nd, rfl⟩⟩; refine ⟨_, rfl, ?_⟩))
              go_ret
              exact ⟨by first | rfl | (simp; done) | (simp [*]; done), by repeat (first | exact Drawn0.refl _ | apply Drawn0.step)⟩
          · rw [if_neg c4] at H
            exact absurd H (by simp)
        · rw [if_neg c3] at H
          exact absurd H (by simp)
      · rw [if_neg c2] at H
        have c2b0 : decide (x7_1 < (l0.length : Int)) = false := decide_eq_false c2
        clear c2
        obtain rfl := Option.some.inj H
        go_wp2
        go_ret
        exact ⟨by first | rfl | (simp; done) | (simp [*]; done), by repeat (first | exact Drawn0.refl _ | apply Drawn0.step)⟩
end

section
/-- Is place i of a list of members right? -/
def idAt (l : List Int) (i : Nat) : Bool := decide (1 ≤ rd l i) && decide (rd l i ≤ 50) && (decide (i = 0) || decide (rd l ((i : Int) - 1) < rd l i))
def areB (l : List Int) : Bool := allFrom (idAt l) 0 l.length && decide (l.length ≤ 7)
theorem impl_in.eq (a b c : Int) : impl_in.f a b c = some (decide (b ≤ a) && decide (a ≤ c)) := by
  unfold impl_in.f
  by_cases h : a ≥ b
  · rw [if_pos h, decide_eq_true h, Bool.true_and]
  · rw [if_neg h, decide_eq_false h, Bool.false_and]
theorem impl_isNodeId.eq (a : Int) : impl_isNodeId.f a = some (decide (1 ≤ a) && decide (a ≤ 50)) := by
  unfold impl_isNodeId.f
  rw [impl_in.eq]
  rfl
theorem spec_l1In.eq (a b c : Int) : spec_l1In.f a b c = some (decide (b ≤ a) && decide (a ≤ c)) := by
  unfold spec_l1In.f
  by_cases h : a ≥ b
  · rw [if_pos h, decide_eq_true h, Bool.true_and]
  · rw [if_neg h, decide_eq_false h, Bool.false_and]
theorem impl_areMembers.l0_ev (l : List Int) (hl : l.length ≤ 9223372036854775807) (d : Nat) : ∀ i : Nat, l.length - i = d → i ≤ l.length →
    Ev (fun k => impl_areMembers.l0 k l l (l.length : Int) i) (allFrom (idAt l) i l.length && decide (l.length ≤ 7)) := by
  induction d with
  | zero =>
    intro i hd hi
    refine Ev.step (fun k => by rw [impl_areMembers.l0]) ?_
    refine Ev.neg (by omega) (Ev.ret' ?_)
    rw [allFrom_end _ (by omega), Bool.true_and]
    by_cases h : l.length ≤ 7
    · rw [decide_eq_true h, decide_eq_true (by omega)]
    · rw [decide_eq_false h, decide_eq_false (by omega)]
  | succ d ih =>
    intro i hd hi
    refine Ev.step (fun k => by rw [impl_areMembers.l0]) ?_
    refine Ev.pos (by omega) (Ev.pos (by omega) (Ev.pos (by omega) (Ev.bindS (impl_isNodeId.eq _) ?_)))
    have hn := ih (i + 1) (by omega) (by omega)
    rw [show ((i + 1 : Nat) : Int) = wrap64 ((i : Int) + 1) from by rw [wrap_id (by omega) (by omega)]; omega] at hn
    rw [allFrom_step _ (by omega)]
    rw [show idAt l i = (decide (1 ≤ rd l i) && decide (rd l i ≤ 50) && (decide (i = 0) || decide (rd l ((i : Int) - 1) < rd l i))) from rfl]
    cases hb : decide (1 ≤ rd l i) && decide (rd l i ≤ 50) with
    | false => exact Ev.neg (by simp) (Ev.ret' (by simp))
    | true =>
      refine Ev.pos rfl ?_
      by_cases h0 : i = 0
      · refine Ev.neg (by omega) ?_
        rw [decide_eq_true h0]
        simpa using hn
      · refine Ev.pos (by omega) ?_
        rw [wrap_id (x := (i : Int) - 1) (by omega) (by omega)]
        refine Ev.pos (by omega) (Ev.pos (by omega) ?_)
        by_cases h1 : rd l ((i : Int) - 1) < rd l i
        · refine Ev.neg (by omega) ?_
          rw [decide_eq_true h1]
          simpa using hn
        · refine Ev.pos (by omega) (Ev.ret' ?_)
          rw [decide_eq_false h1, decide_eq_false h0]
          simp
theorem impl_areMembers.ev (l : List Int) (hl : l.length ≤ 9223372036854775807) : Ev (fun k => impl_areMembers.f k l) (areB l) :=
  impl_areMembers.l0_ev l hl _ 0 rfl (Nat.zero_le _)
end

section
theorem strOfNums_append (a b : List Int) : strOfNums (a ++ b) = strOfNums a ++ strOfNums b := by
  apply ByteArray.ext
  simp [strOfNums, ByteArray.data_append]
theorem strOfNums_bytesOf (s : ByteArray) : strOfNums (bytesOf s) = s := by
  apply ByteArray.ext
  unfold strOfNums bytesOf
  rw [List.map_map]
  have : (fun n : Int => UInt8.ofNat n.toNat) ∘ (fun b : UInt8 => (b.toNat : Int)) = id := by
    funext b
    simp
  rw [this, List.map_id]
theorem strOfNums_size (l : List Int) : (strOfNums l).size = l.length := by
  unfold strOfNums
  show (List.map _ l).toArray.size = _
  simp
theorem crc_same (s : ByteArray) : ∀ k, (∀ x i : Int, impl_crc.l0 k s x (s.size : Int) i = spec_Crc.l0 k s x i) ∧ (∀ x i j : Int, impl_crc.l1 k s x (s.size : Int) i j = spec_Crc.l1 k s x i j) := by
  intro k
  induction k with
  | zero => exact ⟨fun _ _ => by simp [impl_crc.l0, spec_Crc.l0], fun _ _ _ => by simp [impl_crc.l1, spec_Crc.l1]⟩
  | succ k ih =>
    refine ⟨fun x i => ?_, fun x i j => ?_⟩
    · simp only [impl_crc.l0, spec_Crc.l0]
      by_cases h : i < (s.size : Int)
      · rw [if_pos h, if_pos h]
        by_cases h0 : 0 ≤ i
        · rw [if_pos h0, if_pos h0, if_pos h, ih.2]
        · rw [if_neg h0, if_neg h0, if_pos h]
      · rw [if_neg h, if_neg h]
    · simp only [impl_crc.l1, spec_Crc.l1]
      rw [ih.2, ih.2, ih.1]
theorem impl_crc.same (k : Nat) (s : ByteArray) : impl_crc.f k s = spec_Crc.f k s := (crc_same s k).1 _ _
theorem spec_Crc.l1_ok (s : ByteArray) (P : Int → Prop) (i : Int) (hn : ∀ x, ∃ v, Ev (fun k => spec_Crc.l0 k s x (wrap64 (i + 1))) v) (d : Nat) : ∀ (j x : Int), 0 ≤ j → (8 - j).toNat = d → ∃ v, Ev (fun k => spec_Crc.l1 k s x i j) v := by
  induction d with
  | zero =>
    intro j x h0 hd
    obtain ⟨v, hv⟩ := hn x
    refine ⟨v, ?_⟩
    refine Ev.step (fun k => by rw [spec_Crc.l1]) ?_
    exact Ev.neg (by omega) hv
  | succ d ih =>
    intro j x h0 hd
    by_cases hb : Go.bits .and .u32 x 1 = 1
    · obtain ⟨v, hv⟩ := ih (j + 1) (Go.bits .xor .u32 (x / 2) 3988292384) (by omega) (by omega)
      refine ⟨v, ?_⟩
      refine Ev.step (fun k => by rw [spec_Crc.l1]) ?_
      refine Ev.pos (by omega) ?_
      refine Ev.pos hb ?_
      rw [wrap_id (x := j + 1) (by omega) (by omega)]
      exact hv
    · obtain ⟨v, hv⟩ := ih (j + 1) (x / 2) (by omega) (by omega)
      refine ⟨v, ?_⟩
      refine Ev.step (fun k => by rw [spec_Crc.l1]) ?_
      refine Ev.pos (by omega) ?_
      refine Ev.neg hb ?_
      rw [wrap_id (x := j + 1) (by omega) (by omega)]
      exact hv
theorem spec_Crc.l0_ok (s : ByteArray) (hs : s.size ≤ 1099511627776) (d : Nat) : ∀ (i x : Int), 0 ≤ i → ((s.size : Int) - i).toNat = d → ∃ v, Ev (fun k => spec_Crc.l0 k s x i) v := by
  induction d with
  | zero =>
    intro i x h0 hd
    exact ⟨_, Ev.step (fun k => by rw [spec_Crc.l0]) (Ev.neg (by omega) (Ev.ret _))⟩
  | succ d ih =>
    intro i x h0 hd
    have e : wrap64 (i + 1) = i + 1 := wrap_id (by omega) (by omega)
    obtain ⟨v, hv⟩ := spec_Crc.l1_ok s (fun _ => True) i (fun x => by rw [e]; exact ih (i + 1) x (by omega) (by omega)) 8 0 (Go.bits .xor .u32 x ((bt s i) % 4294967296)) (by omega) (by omega)
    refine ⟨v, ?_⟩
    refine Ev.step (fun k => by rw [spec_Crc.l0]) ?_
    refine Ev.pos (by omega) ?_
    refine Ev.pos h0 ?_
    exact hv
theorem spec_Crc.ok (s : ByteArray) (hs : s.size ≤ 1099511627776) : ∃ v, Ev (fun k => spec_Crc.f k s) v ∧ Ev (fun k => impl_crc.f k s) v := by
  obtain ⟨v, hv⟩ := spec_Crc.l0_ok s hs _ 0 4294967295 (by omega) rfl
  refine ⟨v, hv, ?_⟩
  obtain ⟨K, hK⟩ := hv
  exact ⟨K, fun k hk => (impl_crc.same k s).trans (hK k hk)⟩
/-- The four bytes of a number, the lowest first. -/
def le4 (n : Int) : List Int := [n % 256, (n / 256) % 256, (n / 65536) % 256, (n / 16777216) % 256]
theorem AppendUint32.eq (l : List Int) (n : Int) (h : l.length + 4 < 140737488355328) : binary_littleEndian_AppendUint32.f l n = some (l ++ le4 n) := by
  unfold binary_littleEndian_AppendUint32.f
  rw [Option.bind_some, if_pos (by simpa using h)]
  rfl
theorem spec_l2Four.eq (n : Int) : spec_l2Four.f n = some (strOfNums (le4 n)) := rfl
/-- A frame's bytes come to the same in both. -/
theorem frame_ok (kind : Int) (body : ByteArray) (hb : body.size ≤ 1048576) : ∃ v, Ev (fun k => spec_WriteFrame.f k kind body) v ∧ Ev (fun k => impl_writeFrame.f k kind body) v := by
  unfold spec_WriteFrame.f impl_writeFrame.f
  have hj : Ev (fun k => spec_WriteFrame.j0 k true kind body) (⟨#[]⟩ : ByteArray) := by
    refine Ev.step (fun k => by rw [spec_WriteFrame.j0]) ?_
    exact Ev.pos rfl (Ev.ret _)
  have hj' : Ev (fun k => impl_writeFrame.j0 k true kind body) (⟨#[]⟩ : ByteArray) := by
    refine Ev.step (fun k => by rw [impl_writeFrame.j0]) ?_
    exact Ev.pos rfl (Ev.ret _)
  cases hk : decide (1 ≤ kind) && decide (kind ≤ 100) with
  | false =>
    refine ⟨(⟨#[]⟩ : ByteArray), ?_, ?_⟩
    · refine Ev.bindS (spec_l1In.eq _ _ _) ?_
      rw [hk]
      exact Ev.neg (by simp) hj
    · refine Ev.bindS (impl_in.eq _ _ _) ?_
      rw [hk]
      exact Ev.neg (by simp) hj'
  | true =>
    by_cases hl : (body.size : Int) > 20000
    · refine ⟨(⟨#[]⟩ : ByteArray), ?_, ?_⟩
      · refine Ev.bindS (spec_l1In.eq _ _ _) ?_
        rw [hk]
        refine Ev.pos rfl ?_
        rw [decide_eq_true hl]
        exact hj
      · refine Ev.bindS (impl_in.eq _ _ _) ?_
        rw [hk]
        refine Ev.pos rfl ?_
        rw [decide_eq_true hl]
        exact hj'
    · have hs : (strOfNums [kind % 256] ++ strOfNums (le4 (body.size % 4294967296))) ++ body = strOfNums (([kind % 256] ++ le4 (body.size % 4294967296)) ++ bytesOf body) := by
        rw [strOfNums_append, strOfNums_append, strOfNums_bytesOf]
      obtain ⟨v, h1, h2⟩ := spec_Crc.ok ((strOfNums [kind % 256] ++ strOfNums (le4 (body.size % 4294967296))) ++ body) (by
        rw [ByteArray.size_append, ByteArray.size_append, strOfNums_size, strOfNums_size]
        simp [le4]
        omega)
      refine ⟨((strOfNums [kind % 256] ++ strOfNums (le4 (body.size % 4294967296))) ++ body) ++ strOfNums (le4 v), ?_, ?_⟩
      · refine Ev.bindS (spec_l1In.eq _ _ _) ?_
        rw [hk]
        refine Ev.pos rfl ?_
        rw [decide_eq_false hl]
        refine Ev.step (fun k => by rw [spec_WriteFrame.j0]) ?_
        refine Ev.neg (by simp) ?_
        refine Ev.bindS rfl ?_
        refine Ev.bindS (spec_l2Four.eq _) ?_
        refine Ev.pos ?_ ?_
        · rw [strOfNums_size, strOfNums_size]
          simp [le4]
        refine Ev.pos ?_ ?_
        · rw [strOfNums_size, strOfNums_size]
          simp [le4]
          omega
        refine Ev.bind h1 ?_
        refine Ev.bindS (spec_l2Four.eq _) ?_
        refine Ev.pos ?_ (Ev.ret _)
        rw [strOfNums_size, strOfNums_size, strOfNums_size]
        simp [le4]
        omega
      · refine Ev.bindS (impl_in.eq _ _ _) ?_
        rw [hk]
        refine Ev.pos rfl ?_
        rw [decide_eq_false hl]
        refine Ev.step (fun k => by rw [impl_writeFrame.j0]) ?_
        refine Ev.neg (by simp) ?_
        refine Ev.bindS (AppendUint32.eq _ _ (by simp)) ?_
        refine Ev.pos (by simp [le4]; omega) ?_
        refine Ev.bindS rfl ?_
        rw [hs] at h2
        refine Ev.bind h2 ?_
        refine Ev.bindS (AppendUint32.eq _ _ (by simp [le4, bytesOf_length]; omega)) ?_
        refine Ev.ret' ?_
        rw [hs, strOfNums_append]
end

section
theorem putNumber_same : ∀ k n s, impl_putNumber.l0 k n s = spec_PutNumber.l0 k n s := by
  intro k
  induction k with
  | zero => intro n s; simp [impl_putNumber.l0, spec_PutNumber.l0]
  | succ k ih =>
    intro n s
    simp only [impl_putNumber.l0, spec_PutNumber.l0, ih]
theorem spec_PutNumber.l0_ok (d : Nat) : ∀ (n : Int) (s : List Int), 0 ≤ n → n < 128 ^ (d + 1) → n ≤ 9223372036854775807 → s.length + d ≤ 1000000 → ∃ v, Ev (fun k => spec_PutNumber.l0 k n s) v ∧ v.size ≤ s.length + d + 1 := by
  induction d with
  | zero =>
    intro n s h0 h1 hn hs
    refine ⟨strOfNums (s ++ [n % 256]), ?_, by rw [strOfNums_size]; simp⟩
    refine Ev.step (fun k => by rw [spec_PutNumber.l0]) ?_
    refine Ev.neg (by omega) ?_
    exact Ev.pos (by omega) (Ev.ret _)
  | succ d ih =>
    intro n s h0 h1 hn hs
    by_cases h : n ≥ 128
    · have e1 : Int.tdiv n 128 = n / 128 := Int.tdiv_eq_ediv_of_nonneg h0
      have e2 : wrap64 (n / 128) = n / 128 := wrap_id (by omega) (by omega)
      have h2 : n / 128 < 128 ^ (d + 1) := by
        rw [Int.pow_succ] at h1
        omega
      obtain ⟨v, hv, hz⟩ := ih (n / 128) (s ++ [(wrap64 ((Int.tmod n 128) + 128)) % 256]) (by omega) h2 (by omega) (by simp; omega)
      refine ⟨v, ?_, by simp at hz; omega⟩
      refine Ev.step (fun k => by rw [spec_PutNumber.l0]) ?_
      refine Ev.pos h ?_
      refine Ev.pos (by omega) ?_
      rw [e1, e2]
      exact hv
    · refine ⟨strOfNums (s ++ [n % 256]), ?_, by rw [strOfNums_size, List.length_append]; show s.length + 1 ≤ _; omega⟩
      refine Ev.step (fun k => by rw [spec_PutNumber.l0]) ?_
      refine Ev.neg h ?_
      exact Ev.pos (by omega) (Ev.ret _)
/-- A number's bytes come to the same in both. -/
theorem number_ok (n : Int) (h0 : 0 ≤ n) (h1 : n ≤ 1000000000000) : ∃ v, Ev (fun k => spec_PutNumber.f k n) v ∧ Ev (fun k => impl_putNumber.f k n) v ∧ v.size ≤ 6 := by
  obtain ⟨v, hv, hz⟩ := spec_PutNumber.l0_ok 5 n [] h0 (by omega) (by omega) (by simp)
  refine ⟨v, ?_, ?_, by simpa using hz⟩
  · unfold spec_PutNumber.f
    refine Ev.bindS (spec_l1In.eq _ _ _) ?_
    refine Ev.pos ?_ hv
    rw [decide_eq_true (by omega : (0 : Int) ≤ n), decide_eq_true (by omega : n ≤ 1000000000000)]
    rfl
  · unfold impl_putNumber.f
    obtain ⟨K, hK⟩ := hv
    exact ⟨K, fun k hk => (putNumber_same k n []).trans (hK k hk)⟩
/-- A text's bytes come to the same in both. -/
theorem text_ok (s : ByteArray) (h : s.size ≤ 20000) : ∃ v, Ev (fun k => spec_PutText.f k s) v ∧ Ev (fun k => impl_putText.f k s) v ∧ v.size ≤ 6 + s.size := by
  obtain ⟨v, h1, h2, h3⟩ := number_ok (s.size : Int) (by omega) (by omega)
  refine ⟨v ++ s, ?_, ?_, by rw [ByteArray.size_append]; omega⟩
  · unfold spec_PutText.f
    refine Ev.neg (by omega) ?_
    refine Ev.bind h1 ?_
    exact Ev.pos (by omega) (Ev.ret _)
  · unfold impl_putText.f
    refine Ev.bind h2 ?_
    exact Ev.pos (by omega) (Ev.ret _)
end

section
theorem mn_of (a b : Int) : mn a b = if a ≤ b then a else b := by
  unfold mn
  by_cases h : a ≤ b <;> by_cases h' : b < a <;> simp_all <;> omega
theorem pieces_l0_ok (s : ByteArray) (z c : Int) (hs : s.size ≤ 20000) (hz : 1 ≤ z) (hz2 : z ≤ 4000) (hc : c = ((s.size : Int) + z - 1) / z) (hc2 : c ≤ 20000) (d : Nat) : ∀ (i : Int) (out : List ByteArray), 0 ≤ i → i ≤ c → (c - i).toNat = d → out.length + d ≤ 1000000 →
    ∃ r, Ev (fun k => spec_Pieces.l0 k s z out c i) (r, true) ∧ Ev (fun k => impl_Pieces.l0 k s z c out c i) (r, true) ∧ r.length ≤ out.length + d := by
  induction d with
  | zero =>
    intro i out h0 h1 hd hl
    refine ⟨out, ?_, ?_, by omega⟩
    · refine Ev.step (fun k => by rw [spec_Pieces.l0]) ?_
      exact Ev.neg (by omega) (Ev.ret _)
    · refine Ev.step (fun k => by rw [impl_Pieces.l0]) ?_
      exact Ev.neg (by omega) (Ev.ret _)
  | succ d ih =>
    intro i out h0 h1 hd hl
    have hlt : i < c := by omega
    have hiz0 : 0 ≤ i * z := Int.mul_nonneg h0 (by omega)
    have hb : i * z ≤ (s.size : Int) - 1 := by
      have h2 : i + 1 ≤ ((s.size : Int) + z - 1) / z := by omega
      have h3 := (Int.le_ediv_iff_mul_le (by omega : (0 : Int) < z)).1 h2
      rw [Int.add_mul, Int.one_mul] at h3
      omega
    have hi1 : (i + 1) * z = i * z + z := by rw [Int.add_mul, Int.one_mul]
    have e1 : wrap64 (i * z) = i * z := wrap_id (by omega) (by omega)
    have e2 : wrap64 (i + 1) = i + 1 := wrap_id (by omega) (by omega)
    have e3 : wrap64 ((i + 1) * z) = i * z + z := by rw [hi1]; exact wrap_id (by omega) (by omega)
    obtain ⟨m, hm, hm1, hm2⟩ : ∃ m : Int, m = (if i * z + z ≤ (s.size : Int) then i * z + z else (s.size : Int)) ∧ i * z ≤ m ∧ m ≤ s.size := by
      refine ⟨_, rfl, ?_, ?_⟩ <;> split <;> omega
    have m1 : mn (i * z + z) (s.size : Int) = m := by rw [mn_of, hm]
    have m2 : mn (s.size : Int) (i * z + z) = m := by
      rw [mn_of, hm]
      split <;> split <;> omega
    obtain ⟨v1, a1, b1, c1⟩ := number_ok i h0 (by omega)
    obtain ⟨v2, a2, b2, c2⟩ := number_ok c (by omega) (by omega)
    have hx : (s.extract (i * z).toNat m.toNat).size ≤ 20000 := by
      rw [ByteArray.size_extract]
      omega
    obtain ⟨v3, a3, b3, c3⟩ := text_ok (s.extract (i * z).toNat m.toNat) hx
    obtain ⟨v4, a4, b4⟩ := frame_ok 3 ((v1 ++ v2) ++ v3) (by rw [ByteArray.size_append, ByteArray.size_append]; omega)
    obtain ⟨r, p, q, hr⟩ := ih (i + 1) (out ++ [v4]) (by omega) (by omega) (by omega) (by simp; omega)
    refine ⟨r, ?_, ?_, by simp at hr; omega⟩
    · refine Ev.step (fun k => by rw [spec_Pieces.l0]) ?_
      refine Ev.pos hlt ?_
      simp only [e1, e2, e3, m2]
      refine Ev.pos hiz0 ?_
      refine Ev.pos hm1 ?_
      refine Ev.pos hm2 ?_
      refine Ev.bind a1 ?_
      refine Ev.bind a2 ?_
      refine Ev.pos (by omega) ?_
      refine Ev.bind a3 ?_
      refine Ev.pos (by omega) ?_
      refine Ev.bind a4 ?_
      exact Ev.pos (by omega) p
    · refine Ev.step (fun k => by rw [impl_Pieces.l0]) ?_
      refine Ev.pos hlt ?_
      simp only [e1, e2, e3, m1]
      refine Ev.pos hiz0 ?_
      refine Ev.pos hm1 ?_
      refine Ev.pos hm2 ?_
      refine Ev.bind b1 ?_
      refine Ev.bind b2 ?_
      refine Ev.pos (by omega) ?_
      refine Ev.bind b3 ?_
      refine Ev.pos (by omega) ?_
      refine Ev.bind b4 ?_
      exact Ev.pos (by omega) q
theorem pieces_ok (s : ByteArray) (z : Int) : ∃ r b, Ev (fun k => spec_Pieces.f k s z) (r, b) ∧ Ev (fun k => impl_Pieces.f k s z) (r, b) ∧ r.length ≤ 1000000 := by
  have hj : Ev (fun k => spec_Pieces.j0 k s z [] true) (([] : List ByteArray), false) := by
    refine Ev.step (fun k => by rw [spec_Pieces.j0]) ?_
    exact Ev.pos rfl (Ev.ret _)
  have hj' : Ev (fun k => impl_Pieces.j0 k s z true) (([] : List ByteArray), false) := by
    refine Ev.step (fun k => by rw [impl_Pieces.j0]) ?_
    exact Ev.pos rfl (Ev.ret _)
  unfold spec_Pieces.f impl_Pieces.f
  cases hk : decide (1 ≤ z) && decide (z ≤ 4000) with
  | false =>
    refine ⟨[], false, ?_, ?_, by simp⟩
    · refine Ev.bindS rfl ?_
      refine Ev.bindS (spec_l1In.eq _ _ _) ?_
      rw [hk]
      exact Ev.neg (by simp) hj
    · refine Ev.bindS (impl_in.eq _ _ _) ?_
      rw [hk]
      exact Ev.neg (by simp) hj'
  | true =>
    by_cases hl : (s.size : Int) > 20000
    · refine ⟨[], false, ?_, ?_, by simp⟩
      · refine Ev.bindS rfl ?_
        refine Ev.bindS (spec_l1In.eq _ _ _) ?_
        rw [hk]
        refine Ev.pos rfl ?_
        rw [decide_eq_true hl]
        exact hj
      · refine Ev.bindS (impl_in.eq _ _ _) ?_
        rw [hk]
        refine Ev.pos rfl ?_
        rw [decide_eq_true hl]
        exact hj'
    · have hk' := hk
      rw [Bool.and_eq_true, decide_eq_true_eq, decide_eq_true_eq] at hk'
      have ec : wrap64 (Int.tdiv (wrap64 ((wrap64 ((s.size : Int) + z)) - 1)) z) = ((s.size : Int) + z - 1) / z := by
        rw [wrap_id (x := (s.size : Int) + z) (by omega) (by omega), wrap_id (x := (s.size : Int) + z - 1) (by omega) (by omega), Int.tdiv_eq_ediv_of_nonneg (by omega)]
        have h1 : 0 ≤ ((s.size : Int) + z - 1) / z := Int.ediv_nonneg (by omega) (by omega)
        have h2 : ((s.size : Int) + z - 1) / z ≤ (s.size : Int) + z - 1 := Int.ediv_le_self _ (by omega)
        exact wrap_id (by omega) (by omega)
      have h1 : 0 ≤ ((s.size : Int) + z - 1) / z := Int.ediv_nonneg (by omega) (by omega)
      have h2 : ((s.size : Int) + z - 1) / z ≤ 20000 := by
        have : ((s.size : Int) + z - 1) / z < 20001 := by
          rw [Int.ediv_lt_iff_lt_mul (by omega)]
          omega
        omega
      obtain ⟨r, p, q, hr⟩ := pieces_l0_ok s z _ (by omega) hk'.1 hk'.2 rfl h2 _ 0 [] (by omega) h1 rfl (by simp; omega)
      refine ⟨r, true, ?_, ?_, by simp at hr; omega⟩
      · refine Ev.bindS rfl ?_
        refine Ev.bindS (spec_l1In.eq _ _ _) ?_
        rw [hk]
        refine Ev.pos rfl ?_
        rw [decide_eq_false hl]
        refine Ev.step (fun k => by rw [spec_Pieces.j0]) ?_
        refine Ev.neg (by simp) ?_
        refine Ev.neg (by omega) ?_
        rw [ec]
        exact p
      · refine Ev.bindS (impl_in.eq _ _ _) ?_
        rw [hk]
        refine Ev.pos rfl ?_
        rw [decide_eq_false hl]
        refine Ev.step (fun k => by rw [impl_Pieces.j0]) ?_
        refine Ev.neg (by simp) ?_
        refine Ev.neg (by omega) ?_
        rw [ec]
        exact q
end

section
theorem law_FnExactPieces.ev (s : ByteArray) (z : Int) (o0 : okS s) (o1 : okI .i64 z) : Ev (fun k => laws_FnExactPieces.f k s z) true := by
  unfold laws_FnExactPieces.f
  by_cases hb : (s.size : Int) > 1048576
  · exact Ev.pos hb (Ev.ret _)
  refine Ev.neg hb ?_
  obtain ⟨r, b, p, q, hr⟩ := pieces_ok s z
  obtain ⟨l', m1, m2, m3⟩ := strs_marked 1 (by omega) (by omega) r (by omega)
  refine Ev.bind p ?_
  refine Ev.bind q ?_
  refine Ev.bind (laws_eqStringS.refl r (by omega)) ?_
  refine Ev.pos rfl ?_
  have hbb : (b != b) = false := by simp
  show Ev (fun k => laws_FnExactPieces.j0 k s z r b r (b != b)) true
  rw [hbb]
  refine Ev.step (fun k => by rw [laws_FnExactPieces.j0]) ?_
  refine Ev.neg (by simp) ?_
  refine Ev.bind m1 ?_
  refine Ev.bind m3 ?_
  refine Ev.neg (by omega) ?_
  refine Ev.pos rfl ?_
  refine Ev.bind q ?_
  refine Ev.bind (laws_eqStringS.refl r (by omega)) ?_
  refine Ev.pos rfl ?_
  show Ev (fun k => laws_FnExactPieces.j1 k l' (1 + (r.length : Int)) (b != b)) true
  rw [hbb]
  refine Ev.step (fun k => by rw [laws_FnExactPieces.j1]) ?_
  refine Ev.neg (by simp) ?_
  refine Ev.bind m3 ?_
  refine Ev.neg (by omega) ?_
  exact Ev.pos rfl (Ev.ret _)
end

end Go.Proofs.Ytolloakdibhidaa.Q
