/- Part 2 of what the row of FnQuorums needs: functions of the program as plain Lean functions, their contracts, and lemmas; made by a program of this session out of its texts. -/
import Derived.Laws.Bits64
import Derived.Test.YtljbandfjhincaaCFnQuorums0
import Derived.Test.YtljbandfjhincaaCFnQuorums1
namespace Go.Proofs.Ytljbandfjhincaa.Q
open Go.RowKit Go.Proofs.YtljbandfjhincaaW.PrintWords Go.Proofs.YtljbandfjhincaaW.PrintLast Go.Proofs.YtljbandfjhincaaW.PrintMore
attribute [local go_sem] max2_int min2_int max_two min_two max_three min_three max_four min_four   -- for this text's walks alone
set_option linter.unusedVariables false
set_option linter.unusedSimpArgs false
section
theorem spec_l1Rd_word.l0_ok (s : List Int) (d : Nat) : ∀ (i : Int) (x p : Int), 0 ≤ i → i ≤ 8 → (8 - i).toNat = d → RdOk s p → ∃ v q, Ev (fun k => spec_l1Rd_word.l0 k x i s p) (v, q) ∧ RdOk s q := by
  induction d with
  | zero =>
    intro i x p h0 h8 hd hp
    exact ⟨x, p, Ev.step (fun k => by rw [spec_l1Rd_word.l0]) (Ev.neg (by omega) (Ev.ret _)), hp⟩
  | succ d ih =>
    intro i x p h0 h8 hd hp
    obtain ⟨v, q, e, _, _, hq⟩ := spec_l1Rd_next.ok s p hp
    obtain ⟨v', q', e', hq'⟩ := ih (i + 1) (Go.bits .or .u64 (IntKind.u64.wrap (x * 256)) (IntKind.u64.wrap v)) q (by omega) (by omega) (by omega) hq
    refine ⟨v', q', Ev.step (fun k => by rw [spec_l1Rd_word.l0]) (Ev.pos (by omega) (Ev.bindS e ?_)), hq'⟩
    rw [wrap_id (x := i + 1) (by omega) (by omega)]
    exact e'
theorem spec_l1Rd_word.ok (s : List Int) (p : Int) (hp : RdOk s p) : ∃ v q, Ev (fun k => spec_l1Rd_word.f k s p) (v, q) ∧ RdOk s q :=
  spec_l1Rd_word.l0_ok s _ 0 0 p (by omega) (by omega) rfl hp
theorem spec_l1Rd_near.ok (s : List Int) (p a b : Int) (hp : RdOk s p) (hne : ¬ IntKind.u64.wrap (wrap64 (wrap64 (b - a) + 1)) = 0) : ∃ v q, Ev (fun k => spec_l1Rd_near.f k s p a b) (v, q) ∧ RdOk s q := by
  obtain ⟨v, q, e, _, _, hq⟩ := spec_l1Rd_below.ok s p 8 hp (by omega) (by omega)
  unfold spec_l1Rd_near.f
  by_cases h0 : v = 0
  · exact ⟨a, q, Ev.bindS e (Ev.pos h0 (Ev.ret _)), hq⟩
  by_cases h1 : v = 1
  · exact ⟨b, q, Ev.bindS e (Ev.neg h0 (Ev.pos h1 (Ev.ret _))), hq⟩
  by_cases h2 : b < a
  · exact ⟨a, q, Ev.bindS e (Ev.neg h0 (Ev.neg h1 (Ev.pos h2 (Ev.ret _)))), hq⟩
  obtain ⟨v', q', e', hq'⟩ := spec_l1Rd_word.ok s q hq
  exact ⟨_, q', Ev.bindS e (Ev.neg h0 (Ev.neg h1 (Ev.neg h2 (Ev.bind e' (Ev.neg hne (Ev.ret _)))))), hq'⟩
theorem spec_l1Rd_off.ok (s : List Int) (p a b : Int) (hp : RdOk s p) (hne : ¬ IntKind.u64.wrap (wrap64 (wrap64 (b - a) + 1)) = 0) : ∃ v q, Ev (fun k => spec_l1Rd_off.f k s p a b) (v, q) ∧ RdOk s q := by
  obtain ⟨v, q, e, hq⟩ := spec_l1Rd_once.ok s p 24 hp (by omega) (by omega)
  unfold spec_l1Rd_off.f
  cases v with
  | true =>
    obtain ⟨v', q', e', h0, h4, hq'⟩ := spec_l1Rd_below.ok s q 4 hq (by omega) (by omega)
    exact ⟨_, q', Ev.bindS e (Ev.pos rfl (Ev.bindS rfl (Ev.bindS e' (Ev.pos h0 (Ev.pos (by simp; omega) (Ev.ret _)))))), hq'⟩
  | false =>
    obtain ⟨v', q', e', hq'⟩ := spec_l1Rd_near.ok s q a b hq hne
    exact ⟨v', q', Ev.bindS e (Ev.neg (by simp) (Ev.bind e' (Ev.ret _))), hq'⟩
end

section
theorem spec_l1Rd_conf.l1_ok (s : List Int) (d : Nat) : ∀ (n x p : Int) (a b : List Int), 1 ≤ n → n ≤ 7 → n + 1 ≤ x → x ≤ n + 4 → (n + 4 - x).toNat = d → b.length + d ≤ 4 → RdOk s p → a.length ≤ 8 →
    ∃ b' q, Ev (fun k => spec_l1Rd_conf.l1 k n x s p a b) (a, b', q) ∧ b'.length ≤ 8 ∧ RdOk s q := by
  induction d with
  | zero =>
    intro n x p a b h1 h7 hx hx' hd hb hp ha
    obtain ⟨v, q, e, h0, h3, hq⟩ := spec_l1Rd_below.ok s p 3 hp (by omega) (by omega)
    refine ⟨b, q, Ev.step (fun k => by rw [spec_l1Rd_conf.l1]) (Ev.bindS e (Ev.neg ?_ (Ev.ret _))), by omega, hq⟩
    show ¬ x ≤ wrap64 (n + v)
    rw [wrap_id (by omega) (by omega)]
    omega
  | succ d ih =>
    intro n x p a b h1 h7 hx hx' hd hb hp ha
    obtain ⟨v, q, e, h0, h3, hq⟩ := spec_l1Rd_below.ok s p 3 hp (by omega) (by omega)
    by_cases hc : x ≤ wrap64 (n + v)
    · obtain ⟨b', q', e', hb', hq'⟩ := ih n (x + 1) q a (b ++ [x]) h1 h7 (by omega) (by omega) (by omega) (by simp; omega) hq ha
      refine ⟨b', q', ?_, hb', hq'⟩
      refine Ev.step (fun k => by rw [spec_l1Rd_conf.l1]) ?_
      refine Ev.bindS e ?_
      refine Ev.pos hc ?_
      refine Ev.pos (by omega) ?_
      rw [wrap_id (x := x + 1) (by omega) (by omega)]
      exact e'
    · exact ⟨b, q, Ev.step (fun k => by rw [spec_l1Rd_conf.l1]) (Ev.bindS e (Ev.neg hc (Ev.ret _))), by omega, hq⟩
theorem spec_l1Rd_conf.l0_ok (s : List Int) (d : Nat) : ∀ (n x p : Int) (a : List Int), 1 ≤ n → n ≤ 7 → 1 ≤ x → x ≤ n + 1 → (n + 1 - x).toNat = d → a.length + d ≤ 8 → RdOk s p →
    ∃ a' b' q, Ev (fun k => spec_l1Rd_conf.l0 k n x s p a) (a', b', q) ∧ a'.length ≤ 8 ∧ b'.length ≤ 8 ∧ RdOk s q := by
  induction d with
  | zero =>
    intro n x p a h1 h7 hx hx' hd ha hp
    obtain ⟨b', q, e, hb, hq⟩ := spec_l1Rd_conf.l1_ok s 3 n (n + 1) p a [] h1 h7 (by omega) (by omega) (by omega) (by simp) hp (by omega)
    refine ⟨a, b', q, Ev.step (fun k => by rw [spec_l1Rd_conf.l0]) (Ev.neg (by omega) ?_), by omega, hb, hq⟩
    rw [wrap_id (x := n + 1) (by omega) (by omega)]
    exact e
  | succ d ih =>
    intro n x p a h1 h7 hx hx' hd ha hp
    obtain ⟨a', b', q, e, ha', hb, hq⟩ := ih n (x + 1) p (a ++ [x]) h1 h7 (by omega) (by omega) (by omega) (by simp; omega) hp
    refine ⟨a', b', q, Ev.step (fun k => by rw [spec_l1Rd_conf.l0]) (Ev.pos (by omega) (Ev.pos (by omega) ?_)), ha', hb, hq⟩
    rw [wrap_id (x := x + 1) (by omega) (by omega)]
    exact e
theorem spec_l1Rd_conf.ok (s : List Int) (p : Int) (hp : RdOk s p) : ∃ a b q, Ev (fun k => spec_l1Rd_conf.f k s p) (a, b, q) ∧ a.length ≤ 8 ∧ b.length ≤ 8 ∧ RdOk s q := by
  obtain ⟨v, q, e, h0, h5, hq⟩ := spec_l1Rd_below.ok s p 5 hp (by omega) (by omega)
  obtain ⟨v', q', e', hq'⟩ := spec_l1Rd_once.ok s q 12 hq (by omega) (by omega)
  unfold spec_l1Rd_conf.f
  cases v' with
  | true =>
    obtain ⟨a, b, r, f, ha, hb, hr⟩ := spec_l1Rd_conf.l0_ok s 7 7 1 q' [] (by omega) (by omega) (by omega) (by omega) (by omega) (by simp) hq'
    exact ⟨a, b, r, Ev.bindS e (Ev.bindS e' (Ev.pos rfl (Ev.step (fun k => by rw [spec_l1Rd_conf.j0]) f))), ha, hb, hr⟩
  | false =>
    obtain ⟨a, b, r, f, ha, hb, hr⟩ := spec_l1Rd_conf.l0_ok s (1 + v).toNat (1 + v) 1 q' [] (by omega) (by omega) (by omega) (by omega) (by omega) (by simp; omega) hq'
    refine ⟨a, b, r, Ev.bindS e (Ev.bindS e' (Ev.neg (by simp) (Ev.step (fun k => by rw [spec_l1Rd_conf.j0]) ?_))), ha, hb, hr⟩
    show Ev (fun k => spec_l1Rd_conf.l0 k (wrap64 (1 + v)) 1 s q' []) _
    rw [wrap_id (x := 1 + v) (by omega) (by omega)]
    exact f
theorem spec_l1Rd_oddConf.ok (s : List Int) (p : Int) (hp : RdOk s p) : ∃ a b q, Ev (fun k => spec_l1Rd_oddConf.f k s p) (a, b, q) ∧ a.length ≤ 9 ∧ b.length ≤ 9 ∧ RdOk s q := by
  obtain ⟨a, b, q, e, ha, hb, hq⟩ := spec_l1Rd_conf.ok s p hp
  obtain ⟨v, q', e', h0, h24, hq'⟩ := spec_l1Rd_below.ok s q 24 hq (by omega) (by omega)
  have hne : ¬ IntKind.u64.wrap (wrap64 (wrap64 (50 - 1) + 1)) = 0 := by
    rw [wrap_id (x := (50 : Int) - 1) (by omega) (by omega), wrap_id (by omega) (by omega), IntKind.wrap_u64]
    omega
  obtain ⟨z, r, f, hr⟩ := spec_l1Rd_off.ok s q' 1 50 hq' hne
  unfold spec_l1Rd_oddConf.f
  by_cases c0 : v = 0
  · exact ⟨a ++ [z], b, r, Ev.bind e (Ev.bindS e' (Ev.pos c0 (Ev.bind f (Ev.pos (by show a.length < _; omega) (Ev.ret _))))), by simp; omega, by omega, hr⟩
  by_cases c1 : v = 1
  · exact ⟨a, b ++ [z], r, Ev.bind e (Ev.bindS e' (Ev.neg c0 (Ev.pos c1 (Ev.bind f (Ev.pos (by show b.length < _; omega) (Ev.ret _)))))), by omega, by simp; omega, hr⟩
  by_cases c2 : v = 2
  · exact ⟨[], b, q', Ev.bind e (Ev.bindS e' (Ev.neg c0 (Ev.neg c1 (Ev.pos c2 (Ev.ret _))))), by simp, by omega, hq'⟩
  · exact ⟨a, b, q', Ev.bind e (Ev.bindS e' (Ev.neg c0 (Ev.neg c1 (Ev.neg c2 (Ev.ret _))))), by omega, by omega, hq'⟩
end

section
theorem spec_DrawQuorum.l1_ok (s : List Int) (d : Nat) : ∀ (x p : Int) (ids a b : List Int), 0 ≤ x → x ≤ 3 → x.toNat = d → RdOk s p → ids.length + d ≤ 20 →
    ∃ ids', Ev (fun k => spec_DrawQuorum.l1 k ids x s p a b) (a, b, ids') ∧ ids'.length ≤ 20 := by
  induction d with
  | zero =>
    intro x p ids a b h0 h3 hd hp hi
    exact ⟨ids, Ev.step (fun k => by rw [spec_DrawQuorum.l1]) (Ev.neg (by omega) (Ev.ret _)), by omega⟩
  | succ d ih =>
    intro x p ids a b h0 h3 hd hp hi
    obtain ⟨v, q, e, hv0, hv6, hq⟩ := spec_l1Rd_below.ok s p 6 hp (by omega) (by omega)
    obtain ⟨ids', f, hl⟩ := ih (x - 1) q (ids ++ [wrap64 (1 + v)]) a b (by omega) (by omega) (by omega) hq (by simp; omega)
    refine ⟨ids', ?_, hl⟩
    refine Ev.step (fun k => by rw [spec_DrawQuorum.l1]) ?_
    refine Ev.pos (by omega) ?_
    refine Ev.bindS e ?_
    refine Ev.pos (by omega) ?_
    rw [wrap_id (x := x - 1) (by omega) (by omega)]
    exact f
theorem spec_DrawQuorum.l0_ok (s : List Int) (a b : List Int) (ha : a.length ≤ 9) (d : Nat) : ∀ (i : Nat) (p : Int) (ids : List Int), a.length - i = d → i ≤ a.length → RdOk s p → ids.length + d ≤ 9 →
    ∃ ids', Ev (fun k => spec_DrawQuorum.l0 k ids i s p a b) (a, b, ids') ∧ ids'.length ≤ 20 := by
  induction d with
  | zero =>
    intro i p ids hd hi hp hl
    obtain ⟨v, q, e, h0, h3, hq⟩ := spec_l1Rd_below.ok s p 3 hp (by omega) (by omega)
    obtain ⟨ids', f, hl'⟩ := spec_DrawQuorum.l1_ok s v.toNat v q ids a b h0 (by omega) rfl hq (by omega)
    refine ⟨ids', ?_, hl'⟩
    refine Ev.step (fun k => by rw [spec_DrawQuorum.l0]) ?_
    refine Ev.neg (by omega) ?_
    refine Ev.bindS e ?_
    exact f
  | succ d ih =>
    intro i p ids hd hi hp hl
    obtain ⟨v, q, e, hq⟩ := spec_l1Rd_once.ok s p 3 hp (by omega) (by omega)
    have ei : wrap64 ((i : Int) + 1) = ((i + 1 : Nat) : Int) := by rw [wrap_id (by omega) (by omega)]; omega
    cases v with
    | true =>
      obtain ⟨ids', f, hl'⟩ := ih (i + 1) q ids (by omega) (by omega) hq (by omega)
      refine ⟨ids', ?_, hl'⟩
      refine Ev.step (fun k => by rw [spec_DrawQuorum.l0]) ?_
      refine Ev.pos (by omega) ?_
      refine Ev.bindS e ?_
      refine Ev.pos rfl ?_
      rw [ei]
      exact f
    | false =>
      obtain ⟨ids', f, hl'⟩ := ih (i + 1) q (ids ++ [rd a i]) (by omega) (by omega) hq (by simp; omega)
      refine ⟨ids', ?_, hl'⟩
      refine Ev.step (fun k => by rw [spec_DrawQuorum.l0]) ?_
      refine Ev.pos (by omega) ?_
      refine Ev.bindS e ?_
      refine Ev.neg (by simp) ?_
      refine Ev.pos (by omega) ?_
      refine Ev.pos (by omega) ?_
      rw [ei]
      exact f
theorem spec_DrawQuorum.ok (s : List Int) (hs : RdOk s 0) : ∃ a b ids, Ev (fun k => spec_DrawQuorum.f k s) (a, b, ids) ∧ a.length ≤ 9 ∧ b.length ≤ 9 ∧ ids.length ≤ 20 := by
  obtain ⟨a, b, q, e, ha, hb, hq⟩ := spec_l1Rd_oddConf.ok s 0 hs
  obtain ⟨ids, f, hl⟩ := spec_DrawQuorum.l0_ok s a b ha _ 0 q [] rfl (Nat.zero_le _) hq (by simp; omega)
  unfold spec_DrawQuorum.f
  exact ⟨a, b, ids, Ev.bindS (a := (s, 0)) rfl (Ev.bind e f), ha, hb, hl⟩
end

section
/-! ### impl_ConfOk: function 12 -/
def impl_ConfOk.f (l0_0 : List Int) (l0_1 : List Int) : Option (Bool) := (impl_isConf.f l0_0 l0_1).bind fun t102 => (some t102)
set_option maxHeartbeats 8000000 in
set_option maxRecDepth 100000 in
theorem impl_ConfOk.calls (A0_0 : Option Addr) (c0_0 : Nat) (l0_0 : List Int) (A0_1 : Option Addr) (c0_1 : Nat) (l0_1 : List Int) (r : Bool) (w : World) (hr0_0 : Kd.C (Kd.int .i64) w A0_0 l0_0.length l0_0) (hc0_0 : l0_0.length ≤ c0_0) (hr0_1 : Kd.C (Kd.int .i64) w A0_1 l0_1.length l0_1) (hc0_1 : l0_1.length ≤ c0_1) (h : impl_ConfOk.f l0_0 l0_1 = some r) :
    Calls Try.prog 12 #[.agg #[.slice A0_0 l0_0.length c0_0, .slice A0_1 l0_1.length c0_1]] w fun e w' => e = .returned (.bool r) ∧ Below w.heap.size w w' := by
  have hu27 := Try.underlying27
  have HR0_0 := Aside0.mk hr0_0
  have HC0_0 := Aside0.mk hc0_0
  clear hr0_0 hc0_0
  have HR0_1 := Aside0.mk hr0_1
  have HC0_1 := Aside0.mk hc0_1
  clear hr0_1 hc0_1
  have HB := Aside0.mk (Below.refl w.heap.size w)
  have H : ((impl_isConf.f l0_0 l0_1).bind fun t102 => (some t102)) = some r := h
  clear h
  replace H := Option.bind_eq_some_iff.mp H
  obtain ⟨t102, A20, H⟩ := H
  replace H : (some t102) = some r := H
  have A2 := Aside0.mk A20
  clear A20
  obtain rfl := Option.some.inj H
  go_enter Try.func12, Try.ntmps12
  go_wp2_with (first | ((with_reducible refine gate_dst (N := 1) rfl ?_); refine box_event ?hg (N := 1) ?hd (cs := #[.slice A0_0 l0_0.length c0_0, .slice A0_1 l0_1.length c0_1]) (t := 27) ?hr ?_; (case hd => rfl); (case hg => rfl); (case hr => first | (go_simp; done) | (go_simp; rfl)); intro gb101 hg w3 hbox hb; have n0_ := Aside0.mk (below_step (by repeat (first | (with_reducible first | exact HB.out | apply below_alloc | apply pw_below_drewN | apply below_drew1) | exact HB.out)) hb); have n1_ := Aside0.mk (hbox); have n2_ := Aside0.mk ((by rw [hg]; exact (below_size (by repeat (first | (with_reducible first | exact HB.out | apply below_alloc | apply pw_below_drewN | apply below_drew1) | exact HB.out))) : w.heap.size ≤ gb101)); have n3_ := Aside0.mk ((by rw [hg]; exact (below_size (by repeat (first | (with_reducible first | exact HB.out | apply below_alloc | apply pw_below_drewN | apply below_drew1) | exact HB.out))) : w.heap.size ≤ gb101)); clear HB; have HB := n0_; have BK101 := n1_; have GW101 := n2_; have GE101 := n3_; clear n0_ n1_ n2_ n3_; clear hb hbox hg; have hcz4_0 : w3.cell? ⟨gb101, 0, none⟩ = some (.slice A0_0 l0_0.length c0_0) := (blk_cell BK101.out 0).trans rfl; have hcz4_1 : w3.cell? ⟨gb101, 1, none⟩ = some (.slice A0_1 l0_1.length c0_1) := (blk_cell BK101.out 1).trans rfl; have hfz4_0 := blk_frozen BK101.out 0; have hfz4_1 := blk_frozen BK101.out 1) | ((with_reducible refine gate_callee (f := 35) rfl ?_); refine goesL_ (some 4) rfl rfl Try.func35 (by kernel_rfl) rfl #[.agg #[.slice A0_0 l0_0.length c0_0, .slice A0_1 l0_1.length c0_1]] rfl (by (try simp only [List.map_toArray, List.map_cons, List.map_nil]); first | done | rfl | (simp only [List.length_drop, List.length_take]; rfl)) ?_; (with_reducible refine (impl_isConf.calls _ _ l0_0 _ _ l0_1 t102 _ ?side1 ?side2 ?side3 ?side4 A2.out).mono ?_); (case side1 => repeat (first | exact (Kd.C_below HR0_0.out HB.out) | (with_reducible refine Kd.C_alloc ?_ _) | (with_reducible refine Kd.C_drewN ?_ _) | (with_reducible refine Kd.C_drew ?_))); (case side2 => exact HC0_0.out); (case side3 => repeat (first | exact (Kd.C_below HR0_1.out HB.out) | (with_reducible refine Kd.C_alloc ?_ _) | (with_reducible refine Kd.C_drewN ?_ _) | (with_reducible refine Kd.C_drew ?_))); (case side4 => exact HC0_1.out); rintro e w5 ⟨rfl, hb⟩; refine ⟨_, rfl, ?_⟩; have n0_ := Aside0.mk (blk_below (g := gb101) (o := .cells #[.slice A0_0 l0_0.length c0_0, .slice A0_1 l0_1.length c0_1] 27 (0, 0)) (by (with_reducible repeat (first | refine blk_drewN ?_ _ | refine blk_drew ?_ | refine blk_alloc ?_ _)); exact BK101.out) hb); have n1_ := Aside0.mk (below_step (by repeat (first | (with_reducible first | exact HB.out | apply below_alloc | apply pw_below_drewN | apply below_drew1 | refine below_set ?_ GE101.out) | exact HB.out)) hb); clear BK101; clear HB; have BK101 := n0_; have HB := n1_; clear n0_ n1_; (try clear hb); (try clear hb2); (try clear hk); (try clear hi)))
  go_ret
  exact ⟨by first | rfl | (simp [errW_none, errW_some] <;> rfl) | (simp [*, errW_none, errW_some] <;> rfl), by repeat (first | (with_reducible first | exact HB.out | apply below_alloc | apply pw_below_drewN | apply below_drew1 | refine below_set ?_ GE101.out) | exact HB.out)⟩
end

section
theorem spec_ConfOk.l0_ev (l0 l1 : List Int) (h0 : l0.length ≤ 1048576) (h1 : l1.length ≤ 1048576) (d : Nat) : ∀ i : Nat, l1.length - i = d → i ≤ l1.length →
    Ev (fun k => spec_ConfOk.l0 k i l0 l1) (!anyFrom (fun x => hasI l0 x) l1 i) := by
  induction d with
  | zero =>
    intro i hd hi
    refine Ev.step (fun k => by rw [spec_ConfOk.l0]) ?_
    exact Ev.neg (by omega) (Ev.ret' (by rw [anyFrom_end _ (by omega)]; rfl))
  | succ d ih =>
    intro i hd hi
    refine Ev.step (fun k => by rw [spec_ConfOk.l0]) ?_
    refine Ev.pos (by omega) (Ev.pos (by omega) (Ev.bind (spec_l1Ints.ev l0 _ (by omega)) ?_))
    have hn := ih (i + 1) (by omega) (by omega)
    rw [show ((i + 1 : Nat) : Int) = wrap64 ((i : Int) + 1) from by rw [wrap_id (by omega) (by omega)]; omega] at hn
    rw [anyFrom_step _ (by omega), rd_nat l1 i (by omega)]
    cases hasI l0 l1[i] with
    | true => exact Ev.pos rfl (Ev.ret' rfl)
    | false => exact Ev.neg (by simp) hn
theorem spec_ConfOk.ev (l0 l1 : List Int) (h0 : l0.length ≤ 1048576) (h1 : l1.length ≤ 1048576) : Ev (fun k => spec_ConfOk.f k l0 l1) (impl_isConf.B l0 l1) := by
  have hj : Ev (fun k => spec_ConfOk.j0 k true l0 l1) false := Ev.step (fun k => by rw [spec_ConfOk.j0]) (Ev.pos rfl (Ev.ret _))
  unfold spec_ConfOk.f impl_isConf.B
  by_cases hz : 0 < l0.length
  · rw [decide_eq_true hz]
    refine Ev.neg (by omega) (Ev.bind (spec_l9Ids.ev l0 (by omega)) ?_)
    cases areB l0 with
    | false => exact Ev.neg (by simp) hj
    | true =>
      refine Ev.pos rfl (Ev.bind (spec_l9Ids.ev l1 (by omega)) ?_)
      cases areB l1 with
      | false => exact hj
      | true =>
        show Ev (fun k => spec_ConfOk.j0 k false l0 l1) _
        refine Ev.step (fun k => by rw [spec_ConfOk.j0]) ?_
        refine Ev.neg (by simp) ?_
        exact spec_ConfOk.l0_ev l0 l1 h0 h1 _ 0 rfl (Nat.zero_le _)
  · rw [decide_eq_false hz]
    exact Ev.pos (by omega) hj
theorem impl_ConfOk.eq (l0 l1 : List Int) : impl_ConfOk.f l0 l1 = some (impl_isConf.B l0 l1) := rfl
end

section
/-- More than half of the first are among the others. -/
def quorB (l ids : List Int) : Bool := decide (l.length < 2 * l.countP fun x => hasI ids x)
theorem impl_quorum.l0_ev (l l1 ids : List Int) (h0 : l.length ≤ 1048576) (h1 : ids.length ≤ 1048576) (d : Nat) : ∀ i c : Nat, l.length - i = d → i ≤ l.length → c ≤ i →
    Ev (fun k => impl_quorum.l0 k ids c l (l.length : Int) i l l1) (decide (l.length < 2 * (c + countFrom (fun x => hasI ids x) l i))) := by
  induction d with
  | zero =>
    intro i c hd hi hc
    refine Ev.step (fun k => by rw [impl_quorum.l0]) ?_
    refine Ev.neg (by omega) (Ev.ret' ?_)
    rw [countFrom_end _ (by omega), wrap_id (by omega) (by omega)]
    exact decide_eq_decide.2 (by omega)
  | succ d ih =>
    intro i c hd hi hc
    refine Ev.step (fun k => by rw [impl_quorum.l0]) ?_
    refine Ev.pos (by omega) (Ev.pos (by omega) (Ev.pos (by omega) (Ev.bind (slices_Contains_int64_int64.ev ids _ (by omega)) ?_)))
    rw [countFrom_step _ (by omega), rd_nat l i (by omega), show wrap64 ((i : Int) + 1) = ((i + 1 : Nat) : Int) from by rw [wrap_id (by omega) (by omega)]; omega]
    cases hasI ids l[i] with
    | true =>
      refine Ev.pos rfl ?_
      rw [show wrap64 ((c : Int) + 1) = ((c + 1 : Nat) : Int) from by rw [wrap_id (by omega) (by omega)]; omega]
      exact Ev.eq (ih (i + 1) (c + 1) (by omega) (by omega) (by omega)) (by simp [Nat.add_assoc])
    | false => exact Ev.neg (by simp) (Ev.eq (ih (i + 1) c (by omega) (by omega) (by omega)) (by simp))
theorem impl_quorum.ev (l l1 ids : List Int) (h0 : l.length ≤ 1048576) (h1 : ids.length ≤ 1048576) : Ev (fun k => impl_quorum.f k l l1 ids) (quorB l ids) := by
  have := impl_quorum.l0_ev l l1 ids h0 h1 _ 0 0 rfl (Nat.zero_le _) (Nat.le_refl _)
  rw [Nat.zero_add] at this
  exact this
theorem spec_Quorum.l0_ev (l l1 ids : List Int) (h0 : l.length ≤ 1048576) (h1 : ids.length ≤ 1048576) (d : Nat) : ∀ i c : Nat, l.length - i = d → i ≤ l.length → c ≤ i →
    Ev (fun k => spec_Quorum.l0 k ids c i l l1) (decide (l.length < 2 * (c + countFrom (fun x => hasI ids x) l i))) := by
  induction d with
  | zero =>
    intro i c hd hi hc
    refine Ev.step (fun k => by rw [spec_Quorum.l0]) ?_
    refine Ev.neg (by omega) (Ev.ret' ?_)
    rw [countFrom_end _ (by omega), wrap_id (by omega) (by omega)]
    exact decide_eq_decide.2 (by omega)
  | succ d ih =>
    intro i c hd hi hc
    refine Ev.step (fun k => by rw [spec_Quorum.l0]) ?_
    refine Ev.pos (by omega) (Ev.pos (by omega) (Ev.bind (spec_l1Ints.ev ids _ (by omega)) ?_))
    rw [countFrom_step _ (by omega), rd_nat l i (by omega), show wrap64 ((i : Int) + 1) = ((i + 1 : Nat) : Int) from by rw [wrap_id (by omega) (by omega)]; omega]
    cases hasI ids l[i] with
    | true =>
      refine Ev.pos rfl ?_
      rw [show wrap64 ((c : Int) + 1) = ((c + 1 : Nat) : Int) from by rw [wrap_id (by omega) (by omega)]; omega]
      exact Ev.eq (ih (i + 1) (c + 1) (by omega) (by omega) (by omega)) (by simp [Nat.add_assoc])
    | false => exact Ev.neg (by simp) (Ev.eq (ih (i + 1) c (by omega) (by omega) (by omega)) (by simp))
theorem spec_Quorum.ev (l0 l1 ids : List Int) (h0 : l0.length ≤ 1048576) (h1 : l1.length ≤ 1048576) (h2 : ids.length ≤ 1048576) : Ev (fun k => spec_Quorum.f k l0 l1 ids) (impl_isConf.B l0 l1 && quorB l0 ids) := by
  unfold spec_Quorum.f
  refine Ev.bind (spec_ConfOk.ev l0 l1 h0 h1) ?_
  cases impl_isConf.B l0 l1 with
  | false => exact Ev.neg (by simp) (Ev.ret _)
  | true =>
    refine Ev.pos rfl ?_
    have := spec_Quorum.l0_ev l0 l1 ids h0 h2 _ 0 0 rfl (Nat.zero_le _) (Nat.le_refl _)
    rw [Nat.zero_add] at this
    exact this
theorem impl_Quorum.ev (l0 l1 ids : List Int) (h0 : l0.length ≤ 1048576) (h1 : l1.length ≤ 1048576) (h2 : ids.length ≤ 1048576) : Ev (fun k => impl_Quorum.f k l0 l1 ids) (impl_isConf.B l0 l1 && quorB l0 ids) := by
  unfold impl_Quorum.f
  refine Ev.bindS (a := impl_isConf.B l0 l1) rfl ?_
  cases impl_isConf.B l0 l1 with
  | false => exact Ev.neg (by simp) (Ev.ret _)
  | true => exact Ev.pos rfl (Ev.bind (impl_quorum.ev l0 l1 ids h0 h2) (Ev.ret _))
end

section
theorem laws_hasInt.l0_ev (l : List Int) (x : Int) (hl : l.length ≤ 1048576) (d : Nat) : ∀ i : Nat, l.length - i = d → i ≤ l.length →
    Ev (fun k => laws_hasInt.l0 k l x i) (anyFrom (fun y => y == x) l i) := by
  induction d with
  | zero =>
    intro i hd hi
    refine Ev.step (fun k => by rw [laws_hasInt.l0]) ?_
    exact Ev.neg (by omega) (Ev.ret' (by rw [anyFrom_end _ (by omega)]))
  | succ d ih =>
    intro i hd hi
    refine Ev.step (fun k => by rw [laws_hasInt.l0]) ?_
    refine Ev.pos (by omega) (Ev.pos (by omega) ?_)
    have hn := ih (i + 1) (by omega) (by omega)
    rw [show ((i + 1 : Nat) : Int) = wrap64 ((i : Int) + 1) from by rw [wrap_id (by omega) (by omega)]; omega] at hn
    rw [anyFrom_step _ (by omega), rd_nat l i (by omega)]
    by_cases h1 : l[i] = x
    · exact Ev.pos h1 (Ev.ret' (by simp [h1]))
    · exact Ev.neg h1 (Ev.eq hn (by simp [h1]))
theorem laws_hasInt.ev (l : List Int) (x : Int) (hl : l.length ≤ 1048576) : Ev (fun k => laws_hasInt.f k l x) (hasI l x) :=
  laws_hasInt.l0_ev l x hl _ 0 rfl (Nat.zero_le _)
/-- Two sets without a common element: one at most holds more than half. -/
theorem quor_apart (l ids others : List Int) (h : ∀ x, hasI others x = true → hasI ids x = false) (hq : quorB l ids = true) : quorB l others = false := by
  unfold quorB at hq ⊢
  have hq' := of_decide_eq_true hq
  have hsum : ∀ l : List Int, (l.countP fun x => hasI ids x) + (l.countP fun x => hasI others x) ≤ l.length := by
    intro l
    induction l with
    | nil => simp
    | cons y l ih =>
      simp only [List.countP_cons, List.length_cons]
      cases ho : hasI others y with
      | true => rw [h y ho]; simp; omega
      | false =>
        simp
        split <;> omega
  have := hsum l
  exact decide_eq_false (by omega)
theorem laws_FnQuorums.l0_ok (a b ids : List Int) (ha : a.length ≤ 9) (hb : b.length ≤ 9) (hi : ids.length ≤ 20) (d : Nat) : ∀ (x : Int) (others : List Int), 1 ≤ x → x ≤ 51 → (51 - x).toNat = d → others.length + d ≤ 50 → (∀ y, hasI others y = true → hasI ids y = false) →
    Ev (fun k => laws_FnQuorums.l0 k ids (impl_isConf.B a b && quorB a ids) others x a b) true := by
  induction d with
  | zero =>
    intro x others h1 h51 hd hl ho
    refine Ev.step (fun k => by rw [laws_FnQuorums.l0]) (Ev.neg (by omega) ?_)
    cases hc : impl_isConf.B a b && quorB a ids with
    | false => exact Ev.neg (by simp) (Ev.ret _)
    | true =>
      refine Ev.pos rfl (Ev.bind (impl_Quorum.ev a b others (by omega) (by omega) (by omega)) (Ev.ret' ?_))
      rw [Bool.and_eq_true] at hc
      rw [quor_apart a ids others ho hc.2]
      simp
  | succ d ih =>
    intro x others h1 h51 hd hl ho
    refine Ev.step (fun k => by rw [laws_FnQuorums.l0]) (Ev.pos (by omega) (Ev.bind (laws_hasInt.ev ids x (by omega)) ?_))
    rw [wrap_id (x := x + 1) (by omega) (by omega)]
    cases hx : hasI ids x with
    | true => exact Ev.pos rfl (ih (x + 1) others (by omega) (by omega) (by omega) (by omega) ho)
    | false =>
      refine Ev.neg (by simp) (Ev.pos (by omega) (ih (x + 1) (others ++ [x]) (by omega) (by omega) (by omega) (by simp; omega) ?_))
      intro y hy
      unfold hasI at hy
      rw [List.any_append, Bool.or_eq_true] at hy
      rcases hy with hy | hy
      · exact ho y hy
      · simp at hy
        rw [← hy]
        exact hx
theorem law_FnQuorums.ev (s : List Int) (o : okL (okI .u8) s) : Ev (fun k => laws_FnQuorums.f k s) true := by
  unfold laws_FnQuorums.f
  have hbig : laws_big.f s = some (decide ((s.length : Int) > 1048576)) := rfl
  refine Ev.bindS hbig ?_
  by_cases hb : (s.length : Int) > 1048576
  · exact Ev.pos (decide_eq_true hb) (Ev.ret _)
  refine Ev.neg (by simpa using hb) ?_
  have hs : RdOk s 0 := ⟨by omega, by omega, by omega, fun x hx => by
    exact okI_u8 (o.2 x hx)⟩
  obtain ⟨a, b, ids, e, ha, hb', hi⟩ := spec_DrawQuorum.ok s hs
  refine Ev.bind e (Ev.bind (impl_Quorum.ev a b ids (by omega) (by omega) (by omega)) (Ev.bind (spec_Quorum.ev a b ids (by omega) (by omega) (by omega)) (Ev.neg (by simp) ?_)))
  exact laws_FnQuorums.l0_ok a b ids ha hb' hi 50 1 [] (by omega) (by omega) (by omega) (by simp) (fun y hy => by simp [hasI] at hy)
end

end Go.Proofs.Ytljbandfjhincaa.Q
