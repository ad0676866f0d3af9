/- Part 4 of what the row of FnExactChanged needs: functions of the program as plain Lean functions, their contracts, and lemmas; made by a program of this session out of its texts. -/
import Derived.Deep.Slices
import Derived.ChangeArms
import Derived.DataReads
import Derived.DataElems
import Derived.Test.YtolloakdibhidaaCFnExactChanged0
import Derived.Test.YtolloakdibhidaaCFnExactChanged1
import Derived.Test.YtolloakdibhidaaCFnExactChanged2
import Derived.Test.YtolloakdibhidaaCFnExactChanged3
namespace Go.Proofs.Ytolloakdibhidaa.Q
open Go.RowKit Go.Proofs.YtolloakdibhidaaW.PrintWords Go.Proofs.YtolloakdibhidaaW.PrintLast Go.Proofs.YtolloakdibhidaaW.PrintMore
attribute [local go_sem] max2_int min2_int max_two min_two max_three min_three max_four min_four   -- for this text's walks alone
set_option linter.unusedVariables false
set_option linter.unusedSimpArgs false
section
mutual
def laws_FnExactChanged.j0 : Nat → Int → Int → Int → Int → Bool → List Int → List Int → List Int → List Int → List Int → List Int → List Int → List Int → Option (Bool)
  | 0, _, _, _, _, _, _, _, _, _, _, _, _, _ => none
  | k + 1, x1, x2, x9, x12, x48, x102000, x102001, x117000, x117001, x124000, x124001, x132000, x132001 => if x48 = true then (some false) else ((laws_toConf.f k x102000 x102001).bind fun bt133 => ((laws_eqConf.f k x124000 x124001 bt133.1 bt133.2).bind fun t139 => (if t139 = true then ((laws_markConf.f k x124000 x124001 1).bind fun bt140 => (if bt140.1 < 0 then (laws_FnExactChanged.j1 k x1 x2 x9 true x102000 x102001 x117000 x117001 x132000 x132001) else ((laws_eqConf.f k x132000 x132001 x117000 x117001).bind fun t143 => (if t143 = true then (laws_FnExactChanged.j1 k x1 x2 x9 (x12 != x9) x102000 x102001 x117000 x117001 x132000 x132001) else (laws_FnExactChanged.j1 k x1 x2 x9 true x102000 x102001 x117000 x117001 x132000 x132001))))) else (some false))))
def laws_FnExactChanged.j1 : Nat → Int → Int → Int → Bool → List Int → List Int → List Int → List Int → List Int → List Int → Option (Bool)
  | 0, _, _, _, _, _, _, _, _, _, _ => none
  | k + 1, x1, x2, x9, x69, x102000, x102001, x117000, x117001, x132000, x132001 => if x69 = true then (some false) else ((laws_markConf.f k x132000 x132001 1).bind fun bt144 => ((laws_heldConf.f k bt144.2.1 bt144.2.2 1).bind fun t147 => (if t147 < 0 then (some false) else (if t147 = bt144.1 then ((laws_toConf.f k x102000 x102001).bind fun bt148 => ((impl_Changed.f k bt148.1 bt148.2 x1 x2).bind fun bt154 => ((laws_eqConf.f k bt154.1 bt154.2.1 x117000 x117001).bind fun t162 => (if t162 = true then (laws_FnExactChanged.j2 k bt144.1 (bt154.2.2 != x9) bt144.2.1 bt144.2.2) else (laws_FnExactChanged.j2 k bt144.1 true bt144.2.1 bt144.2.2))))) else (some false)))))
def laws_FnExactChanged.j2 : Nat → Int → Bool → List Int → List Int → Option (Bool)
  | 0, _, _, _, _ => none
  | k + 1, x14, x97, x132000, x132001 => if x97 = true then (some false) else ((laws_heldConf.f k x132000 x132001 1).bind fun t163 => (if t163 < 0 then (some false) else (if t163 = x14 then (some true) else (some false))))
end
def laws_FnExactChanged.f (k : Nat) (l0_0 : List Int) (l0_1 : List Int) (a1 : Int) (a2 : Int) : Option (Bool) := (laws_szConf.f l0_0 l0_1 1048576).bind fun t102 => (if t102 < 0 then (some true) else ((laws_toConf.f k l0_0 l0_1).bind fun bt103 => ((spec_Changed.f k bt103.1 bt103.2 a1 a2).bind fun bt109 => ((laws_toConf.f k l0_0 l0_1).bind fun bt117 => ((impl_Changed.f k bt117.1 bt117.2 a1 a2).bind fun bt124 => ((laws_eqConf.f k bt124.1 bt124.2.1 bt109.1 bt109.2.1).bind fun t132 => (if t132 = true then (laws_FnExactChanged.j0 k a1 a2 bt109.2.2 bt124.2.2 (bt124.2.2 != bt109.2.2) l0_0 l0_1 bt109.1 bt109.2.1 bt117.1 bt117.2 bt124.1 bt124.2.1) else (laws_FnExactChanged.j0 k a1 a2 bt109.2.2 bt124.2.2 true l0_0 l0_1 bt109.1 bt109.2.1 bt117.1 bt117.2 bt124.1 bt124.2.1))))))))
theorem laws_FnExactChanged.mono_l : ∀ k, (∀ y0 y1 y2 y3 y4 y5 y6 y7 y8 y9 y10 y11 y12, LeO (laws_FnExactChanged.j0 k y0 y1 y2 y3 y4 y5 y6 y7 y8 y9 y10 y11 y12) (laws_FnExactChanged.j0 (k + 1) y0 y1 y2 y3 y4 y5 y6 y7 y8 y9 y10 y11 y12)) ∧ (∀ y0 y1 y2 y3 y4 y5 y6 y7 y8 y9, LeO (laws_FnExactChanged.j1 k y0 y1 y2 y3 y4 y5 y6 y7 y8 y9) (laws_FnExactChanged.j1 (k + 1) y0 y1 y2 y3 y4 y5 y6 y7 y8 y9)) ∧ (∀ y0 y1 y2 y3, LeO (laws_FnExactChanged.j2 k y0 y1 y2 y3) (laws_FnExactChanged.j2 (k + 1) y0 y1 y2 y3))
  | 0 => ⟨fun _ _ _ _ _ _ _ _ _ _ _ _ _ r h => by simp [laws_FnExactChanged.j0] at h, fun _ _ _ _ _ _ _ _ _ _ r h => by simp [laws_FnExactChanged.j1] at h, fun _ _ _ _ r h => by simp [laws_FnExactChanged.j2] at h⟩
  | k + 1 => by
    obtain ⟨ih0, ih1, ih2⟩ := laws_FnExactChanged.mono_l k
    refine ⟨?_, ?_, ?_⟩
    · intro y0 y1 y2 y3 y4 y5 y6 y7 y8 y9 y10 y11 y12
      unfold laws_FnExactChanged.j0
      repeat' first
      | (with_reducible exact ih0 _ _ _ _ _ _ _ _ _ _ _ _ _)
      | (with_reducible exact ih1 _ _ _ _ _ _ _ _ _ _)
      | (with_reducible exact ih2 _ _ _ _)
      | (with_reducible exact impl_Changed.mono _ _ _ _ _)
      | (with_reducible exact laws_eqConf.mono _ _ _ _ _)
      | (with_reducible exact laws_heldConf.mono _ _ _ _)
      | (with_reducible exact laws_markConf.mono _ _ _ _)
      | (with_reducible exact laws_toConf.mono _ _ _)
      | (with_reducible exact spec_Changed.mono _ _ _ _ _)
      | (with_reducible exact LeO.refl _)
      | (with_reducible exact LeO.none _)
      | (with_reducible refine LeO.ite ?_ ?_)
      | (with_reducible refine LeO.bind ?_ (fun _ => ?_))
      | exact ih0 _ _ _ _ _ _ _ _ _ _ _ _ _
      | exact ih1 _ _ _ _ _ _ _ _ _ _
      | exact ih2 _ _ _ _
      | exact impl_Changed.mono _ _ _ _ _
      | exact laws_eqConf.mono _ _ _ _ _
      | exact laws_heldConf.mono _ _ _ _
      | exact laws_markConf.mono _ _ _ _
      | exact laws_toConf.mono _ _ _
      | exact spec_Changed.mono _ _ _ _ _
      | exact LeO.none _
      | refine LeO.ite ?_ ?_
      | refine LeO.bind ?_ (fun _ => ?_)
    · intro y0 y1 y2 y3 y4 y5 y6 y7 y8 y9
      unfold laws_FnExactChanged.j1
      repeat' first
      | (with_reducible exact ih0 _ _ _ _ _ _ _ _ _ _ _ _ _)
      | (with_reducible exact ih1 _ _ _ _ _ _ _ _ _ _)
      | (with_reducible exact ih2 _ _ _ _)
      | (with_reducible exact impl_Changed.mono _ _ _ _ _)
      | (with_reducible exact laws_eqConf.mono _ _ _ _ _)
      | (with_reducible exact laws_heldConf.mono _ _ _ _)
      | (with_reducible exact laws_markConf.mono _ _ _ _)
      | (with_reducible exact laws_toConf.mono _ _ _)
      | (with_reducible exact spec_Changed.mono _ _ _ _ _)
      | (with_reducible exact LeO.refl _)
      | (with_reducible exact LeO.none _)
      | (with_reducible refine LeO.ite ?_ ?_)
      | (with_reducible refine LeO.bind ?_ (fun _ => ?_))
      | exact ih0 _ _ _ _ _ _ _ _ _ _ _ _ _
      | exact ih1 _ _ _ _ _ _ _ _ _ _
      | exact ih2 _ _ _ _
      | exact impl_Changed.mono _ _ _ _ _
      | exact laws_eqConf.mono _ _ _ _ _
      | exact laws_heldConf.mono _ _ _ _
      | exact laws_markConf.mono _ _ _ _
      | exact laws_toConf.mono _ _ _
      | exact spec_Changed.mono _ _ _ _ _
      | exact LeO.none _
      | refine LeO.ite ?_ ?_
      | refine LeO.bind ?_ (fun _ => ?_)
    · intro y0 y1 y2 y3
      unfold laws_FnExactChanged.j2
      repeat' first
      | (with_reducible exact ih0 _ _ _ _ _ _ _ _ _ _ _ _ _)
      | (with_reducible exact ih1 _ _ _ _ _ _ _ _ _ _)
      | (with_reducible exact ih2 _ _ _ _)
      | (with_reducible exact impl_Changed.mono _ _ _ _ _)
      | (with_reducible exact laws_eqConf.mono _ _ _ _ _)
      | (with_reducible exact laws_heldConf.mono _ _ _ _)
      | (with_reducible exact laws_markConf.mono _ _ _ _)
      | (with_reducible exact laws_toConf.mono _ _ _)
      | (with_reducible exact spec_Changed.mono _ _ _ _ _)
      | (with_reducible exact LeO.refl _)
      | (with_reducible exact LeO.none _)
      | (with_reducible refine LeO.ite ?_ ?_)
      | (with_reducible refine LeO.bind ?_ (fun _ => ?_))
      | exact ih0 _ _ _ _ _ _ _ _ _ _ _ _ _
      | exact ih1 _ _ _ _ _ _ _ _ _ _
      | exact ih2 _ _ _ _
      | exact impl_Changed.mono _ _ _ _ _
      | exact laws_eqConf.mono _ _ _ _ _
      | exact laws_heldConf.mono _ _ _ _
      | exact laws_markConf.mono _ _ _ _
      | exact laws_toConf.mono _ _ _
      | exact spec_Changed.mono _ _ _ _ _
      | exact LeO.none _
      | refine LeO.ite ?_ ?_
      | refine LeO.bind ?_ (fun _ => ?_)
theorem laws_FnExactChanged.mono : ∀ a0 a1 a2 a3 k, LeO (laws_FnExactChanged.f k a0 a1 a2 a3) (laws_FnExactChanged.f (k + 1) a0 a1 a2 a3) := by
  intro a0 a1 a2 a3 k
  obtain ⟨ih0, ih1, ih2⟩ := laws_FnExactChanged.mono_l k
  unfold laws_FnExactChanged.f
  repeat' first
      | (with_reducible exact ih0 _ _ _ _ _ _ _ _ _ _ _ _ _)
      | (with_reducible exact ih1 _ _ _ _ _ _ _ _ _ _)
      | (with_reducible exact ih2 _ _ _ _)
      | (with_reducible exact impl_Changed.mono _ _ _ _ _)
      | (with_reducible exact laws_eqConf.mono _ _ _ _ _)
      | (with_reducible exact laws_heldConf.mono _ _ _ _)
      | (with_reducible exact laws_markConf.mono _ _ _ _)
      | (with_reducible exact laws_toConf.mono _ _ _)
      | (with_reducible exact spec_Changed.mono _ _ _ _ _)
      | (with_reducible exact LeO.refl _)
      | (with_reducible exact LeO.none _)
      | (with_reducible refine LeO.ite ?_ ?_)
      | (with_reducible refine LeO.bind ?_ (fun _ => ?_))
      | exact ih0 _ _ _ _ _ _ _ _ _ _ _ _ _
      | exact ih1 _ _ _ _ _ _ _ _ _ _
      | exact ih2 _ _ _ _
      | exact impl_Changed.mono _ _ _ _ _
      | exact laws_eqConf.mono _ _ _ _ _
      | exact laws_heldConf.mono _ _ _ _
      | exact laws_markConf.mono _ _ _ _
      | exact laws_toConf.mono _ _ _
      | exact spec_Changed.mono _ _ _ _ _
      | exact LeO.none _
      | refine LeO.ite ?_ ?_
      | refine LeO.bind ?_ (fun _ => ?_)
set_option maxHeartbeats 8000000 in
set_option maxRecDepth 100000 in
theorem laws_FnExactChanged.calls (k : Nat) (A0_0 : Option Addr) (c0_0 : Nat) (l0_0 : List Int) (A0_1 : Option Addr) (c0_1 : Nat) (l0_1 : List Int) (a1 : Int) (a2 : Int) (w : World) (hr0_0 : Kd.C (Kd.int .i64) w A0_0 l0_0.length l0_0) (hc0_0 : l0_0.length ≤ c0_0) (hr0_1 : Kd.C (Kd.int .i64) w A0_1 l0_1.length l0_1) (hc0_1 : l0_1.length ≤ c0_1) (h : laws_FnExactChanged.f k l0_0 l0_1 a1 a2 = some true) :
    Calls Try.prog 9 #[.agg #[.slice A0_0 l0_0.length c0_0, .slice A0_1 l0_1.length c0_1], .int .i64 a1, .int .i64 a2] w fun e w' => e = .returned (.bool true) ∧ Below w.heap.size w w' := by
  have hu24 := Try.underlying24
  have hu27 := Try.underlying27
  have HR0_0 := Aside0.mk hr0_0
  have HC0_0 := Aside0.mk hc0_0
  clear hr0_0 hc0_0
  have HR0_1 := Aside0.mk hr0_1
  have HC0_1 := Aside0.mk hc0_1
  clear hr0_1 hc0_1
  have HB := Aside0.mk (Below.refl w.heap.size w)
  have H : ((laws_szConf.f l0_0 l0_1 1048576).bind fun t102 => (if t102 < 0 then (some true) else ((laws_toConf.f k l0_0 l0_1).bind fun bt103 => ((spec_Changed.f k bt103.1 bt103.2 a1 a2).bind fun bt109 => ((laws_toConf.f k l0_0 l0_1).bind fun bt117 => ((impl_Changed.f k bt117.1 bt117.2 a1 a2).bind fun bt124 => ((laws_eqConf.f k bt124.1 bt124.2.1 bt109.1 bt109.2.1).bind fun t132 => (if t132 = true then (laws_FnExactChanged.j0 k a1 a2 bt109.2.2 bt124.2.2 (bt124.2.2 != bt109.2.2) l0_0 l0_1 bt109.1 bt109.2.1 bt117.1 bt117.2 bt124.1 bt124.2.1) else (laws_FnExactChanged.j0 k a1 a2 bt109.2.2 bt124.2.2 true l0_0 l0_1 bt109.1 bt109.2.1 bt117.1 bt117.2 bt124.1 bt124.2.1))))))))) = some true := h
  clear h
  replace H := Option.bind_eq_some_iff.mp H
  obtain ⟨t102, A40, H⟩ := H
  replace H : (if t102 < 0 then (some true) else ((laws_toConf.f k l0_0 l0_1).bind fun bt103 => ((spec_Changed.f k bt103.1 bt103.2 a1 a2).bind fun bt109 => ((laws_toConf.f k l0_0 l0_1).bind fun bt117 => ((impl_Changed.f k bt117.1 bt117.2 a1 a2).bind fun bt124 => ((laws_eqConf.f k bt124.1 bt124.2.1 bt109.1 bt109.2.1).bind fun t132 => (if t132 = true then (laws_FnExactChanged.j0 k a1 a2 bt109.2.2 bt124.2.2 (bt124.2.2 != bt109.2.2) l0_0 l0_1 bt109.1 bt109.2.1 bt117.1 bt117.2 bt124.1 bt124.2.1) else (laws_FnExactChanged.j0 k a1 a2 bt109.2.2 bt124.2.2 true l0_0 l0_1 bt109.1 bt109.2.1 bt117.1 bt117.2 bt124.1 bt124.2.1)))))))) = some true := H
  have A4 := Aside0.mk A40
  clear A40
  by_cases c5 : t102 < 0
  · rw [if_pos c5] at H
    have c5b0 : decide (t102 < 0) = true := decide_eq_true c5
    clear c5
    clear H
    go_enter Try.func9, Try.ntmps9
    go_wp2_with (first | ((with_reducible refine gate_dst (N := 3) rfl ?_); refine box_event ?hg (N := 3) ?hd (cs := #[.slice A0_0 l0_0.length c0_0, .slice A0_1 l0_1.length c0_1]) (t := 24) ?hr ?_; (case hd => rfl); (case hg => rfl); (case hr => first | (go_simp; done) | (go_simp; rfl)); intro gb101 hg w6 hbox hb; have n0_ := Aside0.mk (below_step (by repeat (first | (with_reducible first | exact HB.out | apply below_alloc | apply pw_below_drewN | apply below_drew1) | exact HB.out)) hb); have n1_ := Aside0.mk (hbox); have n2_ := Aside0.mk ((by rw [hg]; exact (below_size (by repeat (first | (with_reducible first | exact HB.out | apply below_alloc | apply pw_below_drewN | apply below_drew1) | exact HB.out))) : w.heap.size ≤ gb101)); have n3_ := Aside0.mk ((by rw [hg]; exact (below_size (by repeat (first | (with_reducible first | exact HB.out | apply below_alloc | apply pw_below_drewN | apply below_drew1) | exact HB.out))) : w.heap.size ≤ gb101)); clear HB; have HB := n0_; have BK101 := n1_; have GW101 := n2_; have GE101 := n3_; clear n0_ n1_ n2_ n3_; clear hb hbox hg; have hcz7_0 : w6.cell? ⟨gb101, 0, none⟩ = some (.slice A0_0 l0_0.length c0_0) := (blk_cell BK101.out 0).trans rfl; have hcz7_1 : w6.cell? ⟨gb101, 1, none⟩ = some (.slice A0_1 l0_1.length c0_1) := (blk_cell BK101.out 1).trans rfl; have hfz7_0 := blk_frozen BK101.out 0; have hfz7_1 := blk_frozen BK101.out 1) | ((with_reducible refine gate_callee (f := 11) rfl ?_); refine goesL_ (some 20) rfl rfl Try.func11 (by kernel_rfl) rfl #[.agg #[.slice A0_0 l0_0.length c0_0, .slice A0_1 l0_1.length c0_1], .int .i64 1048576] rfl (by (try simp only [List.map_toArray, List.map_cons, List.map_nil]); first | done | rfl | (simp only [List.length_drop, List.length_take]; rfl)) ?_; (with_reducible refine (laws_szConf.calls _ _ l0_0 _ _ l0_1 1048576 t102 _ ?side1 ?side2 ?side3 ?side4 A4.out).mono ?_); (case side1 => repeat (first | exact (Kd.C_below HR0_0.out HB.out) | (with_reducible refine Kd.C_alloc ?_ _) | (with_reducible refine Kd.C_drewN ?_ _) | (with_reducible refine Kd.C_drew ?_))); (case side2 => exact HC0_0.out); (case side3 => repeat (first | exact (Kd.C_below HR0_1.out HB.out) | (with_reducible refine Kd.C_alloc ?_ _) | (with_reducible refine Kd.C_drewN ?_ _) | (with_reducible refine Kd.C_drew ?_))); (case side4 => exact HC0_1.out); rintro e w8 ⟨rfl, hb⟩; refine ⟨_, rfl, ?_⟩; have n0_ := Aside0.mk (blk_below (g := gb101) (o := .cells #[.slice A0_0 l0_0.length c0_0, .slice A0_1 l0_1.length c0_1] 24 (0, 0)) (by (with_reducible repeat (first | refine blk_drewN ?_ _ | refine blk_drew ?_ | refine blk_alloc ?_ _)); exact BK101.out) hb); have n1_ := Aside0.mk (below_step (by repeat (first | (with_reducible first | exact HB.out | apply below_alloc | apply pw_below_drewN | apply below_drew1 | refine below_set ?_ GE101.out) | exact HB.out)) hb); clear BK101; clear HB; have BK101 := n0_; have HB := n1_; clear n0_ n1_; (try clear hb); (try clear hb2); (try clear hk); (try clear hi)))
    go_ret
    exact ⟨by first | rfl | (simp [errW_none, errW_some] <;> rfl) | (simp [*, errW_none, errW_some] <;> rfl), by repeat (first | (with_reducible first | exact HB.out | apply below_alloc | apply pw_below_drewN | apply below_drew1 | refine below_set ?_ GE101.out) | exact HB.out)⟩
  · rw [if_neg c5] at H
    have c5b0 : decide (t102 < 0) = false := decide_eq_false c5
    clear c5
    replace H := Option.bind_eq_some_iff.mp H
    obtain ⟨⟨t103, t106⟩, A90, H⟩ := H
    replace H : ((spec_Changed.f k t103 t106 a1 a2).bind fun bt109 => ((laws_toConf.f k l0_0 l0_1).bind fun bt117 => ((impl_Changed.f k bt117.1 bt117.2 a1 a2).bind fun bt124 => ((laws_eqConf.f k bt124.1 bt124.2.1 bt109.1 bt109.2.1).bind fun t132 => (if t132 = true then (laws_FnExactChanged.j0 k a1 a2 bt109.2.2 bt124.2.2 (bt124.2.2 != bt109.2.2) l0_0 l0_1 bt109.1 bt109.2.1 bt117.1 bt117.2 bt124.1 bt124.2.1) else (laws_FnExactChanged.j0 k a1 a2 bt109.2.2 bt124.2.2 true l0_0 l0_1 bt109.1 bt109.2.1 bt117.1 bt117.2 bt124.1 bt124.2.1)))))) = some true := H
    have A9 := Aside0.mk A90
    clear A90
    replace H := Option.bind_eq_some_iff.mp H
    obtain ⟨⟨t109, t112, t115⟩, A100, H⟩ := H
    replace H : ((laws_toConf.f k l0_0 l0_1).bind fun bt117 => ((impl_Changed.f k bt117.1 bt117.2 a1 a2).bind fun bt124 => ((laws_eqConf.f k bt124.1 bt124.2.1 t109 t112).bind fun t132 => (if t132 = true then (laws_FnExactChanged.j0 k a1 a2 t115 bt124.2.2 (bt124.2.2 != t115) l0_0 l0_1 t109 t112 bt117.1 bt117.2 bt124.1 bt124.2.1) else (laws_FnExactChanged.j0 k a1 a2 t115 bt124.2.2 true l0_0 l0_1 t109 t112 bt117.1 bt117.2 bt124.1 bt124.2.1))))) = some true := H
    have A10 := Aside0.mk A100
    clear A100
    replace H := Option.bind_eq_some_iff.mp H
    obtain ⟨⟨t117, t120⟩, A110, H⟩ := H
    replace H : ((impl_Changed.f k t117 t120 a1 a2).bind fun bt124 => ((laws_eqConf.f k bt124.1 bt124.2.1 t109 t112).bind fun t132 => (if t132 = true then (laws_FnExactChanged.j0 k a1 a2 t115 bt124.2.2 (bt124.2.2 != t115) l0_0 l0_1 t109 t112 t117 t120 bt124.1 bt124.2.1) else (laws_FnExactChanged.j0 k a1 a2 t115 bt124.2.2 true l0_0 l0_1 t109 t112 t117 t120 bt124.1 bt124.2.1)))) = some true := H
    have A11 := Aside0.mk A110
    clear A110
    replace H := Option.bind_eq_some_iff.mp H
    obtain ⟨⟨t124, t127, t130⟩, A120, H⟩ := H
    replace H : ((laws_eqConf.f k t124 t127 t109 t112).bind fun t132 => (if t132 = true then (laws_FnExactChanged.j0 k a1 a2 t115 t130 (t130 != t115) l0_0 l0_1 t109 t112 t117 t120 t124 t127) else (laws_FnExactChanged.j0 k a1 a2 t115 t130 true l0_0 l0_1 t109 t112 t117 t120 t124 t127))) = some true := H
    have A12 := Aside0.mk A120
    clear A120
    have HC13 := Aside0.mk H
    clear H
    go_enter Try.func9, Try.ntmps9
    go_upto_region 8 with (first | ((with_reducible refine gate_dst (N := 3) rfl ?_); refine box_event ?hg (N := 3) ?hd (cs := #[.slice A0_0 l0_0.length c0_0, .slice A0_1 l0_1.length c0_1]) (t := 24) ?hr ?_; (case hd => rfl); (case hg => rfl); (case hr => first | (go_simp; done) | (go_simp; rfl)); intro gb101 hg w14 hbox hb; have n0_ := Aside0.mk (below_step (by repeat (first | (with_reducible first | exact HB.out | apply below_alloc | apply pw_below_drewN | apply below_drew1) | exact HB.out)) hb); have n1_ := Aside0.mk (hbox); have n2_ := Aside0.mk ((by rw [hg]; exact (below_size (by repeat (first | (with_reducible first | exact HB.out | apply below_alloc | apply pw_below_drewN | apply below_drew1) | exact HB.out))) : w.heap.size ≤ gb101)); have n3_ := Aside0.mk ((by rw [hg]; exact (below_size (by repeat (first | (with_reducible first | exact HB.out | apply below_alloc | apply pw_below_drewN | apply below_drew1) | exact HB.out))) : w.heap.size ≤ gb101)); clear HB; have HB := n0_; have BK101 := n1_; have GW101 := n2_; have GE101 := n3_; clear n0_ n1_ n2_ n3_; clear hb hbox hg; have hcz15_0 : w14.cell? ⟨gb101, 0, none⟩ = some (.slice A0_0 l0_0.length c0_0) := (blk_cell BK101.out 0).trans rfl; have hcz15_1 : w14.cell? ⟨gb101, 1, none⟩ = some (.slice A0_1 l0_1.length c0_1) := (blk_cell BK101.out 1).trans rfl; have hfz15_0 := blk_frozen BK101.out 0; have hfz15_1 := blk_frozen BK101.out 1) | ((with_reducible refine gate_callee (f := 11) rfl ?_); refine goesL_ (some 20) rfl rfl Try.func11 (by kernel_rfl) rfl #[.agg #[.slice A0_0 l0_0.length c0_0, .slice A0_1 l0_1.length c0_1], .int .i64 1048576] rfl (by (try simp only [List.map_toArray, List.map_cons, List.map_nil]); first | done | rfl | (simp only [List.length_drop, List.length_take]; rfl)) ?_; (with_reducible refine (laws_szConf.calls _ _ l0_0 _ _ l0_1 1048576 t102 _ ?side1 ?side2 ?side3 ?side4 A4.out).mono ?_); (case side1 => repeat (first | exact (Kd.C_below HR0_0.out HB.out) | (with_reducible refine Kd.C_alloc ?_ _) | (with_reducible refine Kd.C_drewN ?_ _) | (with_reducible refine Kd.C_drew ?_))); (case side2 => exact HC0_0.out); (case side3 => repeat (first | exact (Kd.C_below HR0_1.out HB.out) | (with_reducible refine Kd.C_alloc ?_ _) | (with_reducible refine Kd.C_drewN ?_ _) | (with_reducible refine Kd.C_drew ?_))); (case side4 => exact HC0_1.out); rintro e w16 ⟨rfl, hb⟩; refine ⟨_, rfl, ?_⟩; have n0_ := Aside0.mk (blk_below (g := gb101) (o := .cells #[.slice A0_0 l0_0.length c0_0, .slice A0_1 l0_1.length c0_1] 24 (0, 0)) (by (with_reducible repeat (first | refine blk_drewN ?_ _ | refine blk_drew ?_ | refine blk_alloc ?_ _)); exact BK101.out) hb); have n1_ := Aside0.mk (below_step (by repeat (first | (with_reducible first | exact HB.out | apply below_alloc | apply pw_below_drewN | apply below_drew1 | refine below_set ?_ GE101.out) | exact HB.out)) hb); clear BK101; clear HB; have BK101 := n0_; have HB := n1_; clear n0_ n1_; (try clear hb); (try clear hb2); (try clear hk); (try clear hi); have hcz17_0 : w16.cell? ⟨gb101, 0, none⟩ = some (.slice A0_0 l0_0.length c0_0) := (blk_cell BK101.out 0).trans rfl; have hcz17_1 : w16.cell? ⟨gb101, 1, none⟩ = some (.slice A0_1 l0_1.length c0_1) := (blk_cell BK101.out 1).trans rfl; have hfz17_0 := blk_frozen BK101.out 0; have hfz17_1 := blk_frozen BK101.out 1) | ((with_reducible refine gate_callee (f := 13) rfl ?_); refine goesL_ (some 25) rfl rfl Try.func13 (by kernel_rfl) rfl #[.agg #[.slice A0_0 l0_0.length c0_0, .slice A0_1 l0_1.length c0_1]] rfl (by (try simp only [List.map_toArray, List.map_cons, List.map_nil]); first | done | rfl | (simp only [List.length_drop, List.length_take]; rfl)) ?_; (with_reducible refine (laws_toConf.calls k _ _ l0_0 _ _ l0_1 t103 t106 _ ?side1 ?side2 ?side3 ?side4 A9.out).mono ?_); (case side1 => repeat (first | exact (Kd.C_below HR0_0.out HB.out) | (with_reducible refine Kd.C_alloc ?_ _) | (with_reducible refine Kd.C_drewN ?_ _) | (with_reducible refine Kd.C_drew ?_))); (case side2 => exact HC0_0.out); (case side3 => repeat (first | exact (Kd.C_below HR0_1.out HB.out) | (with_reducible refine Kd.C_alloc ?_ _) | (with_reducible refine Kd.C_drewN ?_ _) | (with_reducible refine Kd.C_drew ?_))); (case side4 => exact HC0_1.out); rintro e w18 ⟨v104, v107, rfl, ho0, ho1, hb⟩; refine ⟨_, rfl, ?_⟩; have n0_ := Aside0.mk (Kd.R_lower ho0 (below_size (by repeat (first | (with_reducible first | exact HB.out | apply below_alloc | apply pw_below_drewN | apply below_drew1 | refine below_set ?_ GE101.out) | exact HB.out)))); have n1_ := Aside0.mk (Kd.R_lower ho1 (below_size (by repeat (first | (with_reducible first | exact HB.out | apply below_alloc | apply pw_below_drewN | apply below_drew1 | refine below_set ?_ GE101.out) | exact HB.out)))); have n2_ := Aside0.mk (blk_below (g := gb101) (o := .cells #[.slice A0_0 l0_0.length c0_0, .slice A0_1 l0_1.length c0_1] 24 (0, 0)) (by (with_reducible repeat (first | refine blk_drewN ?_ _ | refine blk_drew ?_ | refine blk_alloc ?_ _)); exact BK101.out) hb); have n3_ := Aside0.mk (below_step (by repeat (first | (with_reducible first | exact HB.out | apply below_alloc | apply pw_below_drewN | apply below_drew1 | refine below_set ?_ GE101.out) | exact HB.out)) hb); clear BK101; clear HB; have HO105 := n0_; have HO108 := n1_; have BK101 := n2_; have HB := n3_; clear n0_ n1_ n2_ n3_; (try clear hb); (try clear hb2); (try clear hk); (try clear hi); (try clear ho0); (try clear ho1); obtain ⟨Ao19, co19, eo19⟩ := Kd.R_slice HO105.out; subst eo19; obtain ⟨Ao20, co20, eo20⟩ := Kd.R_slice HO108.out; subst eo20) | ((with_reducible refine gate_callee (f := 34) rfl ?_); refine goesL_ (some 28) rfl rfl Try.func34 (by kernel_rfl) rfl #[.agg #[.slice Ao19 t103.length co19, .slice Ao20 t106.length co20], .int .i64 a1, .int .i64 a2] rfl (by (try simp only [List.map_toArray, List.map_cons, List.map_nil]); first | done | rfl | (simp only [List.length_drop, List.length_take]; rfl)) ?_; (with_reducible refine (spec_Changed.calls k _ _ t103 _ _ t106 a1 a2 t109 t112 t115 _ ?side1 ?side2 ?side3 ?side4 A10.out).mono ?_); (case side1 => repeat (first | exact (Kd.R_reads' HO105.out).2.2 | (with_reducible refine Kd.C_alloc ?_ _) | (with_reducible refine Kd.C_drewN ?_ _) | (with_reducible refine Kd.C_drew ?_))); (case side2 => exact (Kd.R_reads' HO105.out).2.1); (case side3 => repeat (first | exact (Kd.R_reads' HO108.out).2.2 | (with_reducible refine Kd.C_alloc ?_ _) | (with_reducible refine Kd.C_drewN ?_ _) | (with_reducible refine Kd.C_drew ?_))); (case side4 => exact (Kd.R_reads' HO108.out).2.1); rintro e w21 ⟨v110, v113, rfl, ho0, ho1, hb⟩; refine ⟨_, rfl, ?_⟩; have n0_ := Aside0.mk (Kd.R_mono (Kd.R_told (Kd.R_told (Kd.R_old (by (with_reducible repeat (first | apply Kd.R_alloc | apply Kd.R_drewN | apply Kd.R_drew)); exact HO105.out) hb) (Kd.R_base ho0)) (Kd.R_base ho1)) (fun _ h_ => h_.1)); have n1_ := Aside0.mk (Kd.R_mono (Kd.R_told (Kd.R_told (Kd.R_old (by (with_reducible repeat (first | apply Kd.R_alloc | apply Kd.R_drewN | apply Kd.R_drew)); exact HO108.out) hb) (Kd.R_base ho0)) (Kd.R_base ho1)) (fun _ h_ => h_.1)); have n2_ := Aside0.mk (Kd.R_lower (Kd.R_new' (Kd.R_new' ho0 (Kd.R_lt (by (with_reducible repeat (first | apply Kd.R_alloc | apply Kd.R_drewN | apply Kd.R_drew)); exact HO105.out))) (Kd.R_lt (by (with_reducible repeat (first | apply Kd.R_alloc | apply Kd.R_drewN | apply Kd.R_drew)); exact HO108.out))) (below_size (by repeat (first | (with_reducible first | exact HB.out | apply below_alloc | apply pw_below_drewN | apply below_drew1 | refine below_set ?_ GE101.out) | exact HB.out)))); have n3_ := Aside0.mk (Kd.R_lower (Kd.R_new' (Kd.R_new' ho1 (Kd.R_lt (by (with_reducible repeat (first | apply Kd.R_alloc | apply Kd.R_drewN | apply Kd.R_drew)); exact HO105.out))) (Kd.R_lt (by (with_reducible repeat (first | apply Kd.R_alloc | apply Kd.R_drewN | apply Kd.R_drew)); exact HO108.out))) (below_size (by repeat (first | (with_reducible first | exact HB.out | apply below_alloc | apply pw_below_drewN | apply below_drew1 | refine below_set ?_ GE101.out) | exact HB.out)))); have n4_ := Aside0.mk (blk_below (g := gb101) (o := .cells #[.slice A0_0 l0_0.length c0_0, .slice A0_1 l0_1.length c0_1] 24 (0, 0)) (by (with_reducible repeat (first | refine blk_drewN ?_ _ | refine blk_drew ?_ | refine blk_alloc ?_ _)); exact BK101.out) hb); have n5_ := Aside0.mk (below_step (by repeat (first | (with_reducible first | exact HB.out | apply below_alloc | apply pw_below_drewN | apply below_drew1 | refine below_set ?_ GE101.out) | exact HB.out)) hb); clear HO105; clear HO108; clear BK101; clear HB; have HO105 := n0_; have HO108 := n1_; have HO111 := n2_; have HO114 := n3_; have BK101 := n4_; have HB := n5_; clear n0_ n1_ n2_ n3_ n4_ n5_; (try clear hb); (try clear hb2); (try clear hk); (try clear hi); (try clear ho0); (try clear ho1)) | ((with_reducible refine gate_dst (N := 8) rfl ?_); refine box_event ?hg (N := 8) ?hd (cs := #[.slice none 0 0, .slice none 0 0]) (t := 27) ?hr ?_; (case hd => rfl); (case hg => rfl); (case hr => first | (go_simp; done) | (go_simp; rfl)); intro gb116 hg w22 hbox hb; have n0_ := Aside0.mk (Kd.R_below (by (with_reducible repeat (first | apply Kd.R_alloc | apply Kd.R_drewN | apply Kd.R_drew)); exact HO105.out) hb); have n1_ := Aside0.mk (Kd.R_below (by (with_reducible repeat (first | apply Kd.R_alloc | apply Kd.R_drewN | apply Kd.R_drew)); exact HO108.out) hb); have n2_ := Aside0.mk (Kd.R_below (by (with_reducible repeat (first | apply Kd.R_alloc | apply Kd.R_drewN | apply Kd.R_drew)); exact HO111.out) hb); have n3_ := Aside0.mk (Kd.R_below (by (with_reducible repeat (first | apply Kd.R_alloc | apply Kd.R_drewN | apply Kd.R_drew)); exact HO114.out) hb); have n4_ := Aside0.mk (blk_below (g := gb101) (o := .cells #[.slice A0_0 l0_0.length c0_0, .slice A0_1 l0_1.length c0_1] 24 (0, 0)) (by (with_reducible repeat (first | refine blk_drewN ?_ _ | refine blk_drew ?_ | refine blk_alloc ?_ _)); exact BK101.out) hb); have n5_ := Aside0.mk (below_step (by repeat (first | (with_reducible first | exact HB.out | apply below_alloc | apply pw_below_drewN | apply below_drew1 | refine below_set ?_ GE101.out) | exact HB.out)) hb); have n6_ := Aside0.mk (hbox); have n7_ := Aside0.mk ((by rw [hg]; exact (below_size (by repeat (first | (with_reducible first | exact HB.out | apply below_alloc | apply pw_below_drewN | apply below_drew1 | refine below_set ?_ GE101.out) | exact HB.out))) : w.heap.size ≤ gb116)); have n8_ := Aside0.mk ((by rw [hg]; exact (below_size (by repeat (first | (with_reducible first | exact HB.out | apply below_alloc | apply pw_below_drewN | apply below_drew1 | refine below_set ?_ GE101.out) | exact HB.out))) : w.heap.size ≤ gb116)); have n9_ := Aside0.mk ((by rw [hg]; exact Nat.ne_of_lt (blk_lt (g := gb101) (o := .cells #[.slice A0_0 l0_0.length c0_0, .slice A0_1 l0_1.length c0_1] 24 (0, 0)) (by (with_reducible repeat (first | refine blk_drewN ?_ _ | refine blk_drew ?_ | refine blk_alloc ?_ _)); exact BK101.out)) : gb101 ≠ gb116)); have n10_ := Aside0.mk ((by rw [hg]; exact Nat.ne_of_gt (blk_lt (g := gb101) (o := .cells #[.slice A0_0 l0_0.length c0_0, .slice A0_1 l0_1.length c0_1] 24 (0, 0)) (by (with_reducible repeat (first | refine blk_drewN ?_ _ | refine blk_drew ?_ | refine blk_alloc ?_ _)); exact BK101.out)) : gb116 ≠ gb101)); clear HO105; clear HO108; clear HO111; clear HO114; clear BK101; clear HB; have HO105 := n0_; have HO108 := n1_; have HO111 := n2_; have HO114 := n3_; have BK101 := n4_; have HB := n5_; have BK116 := n6_; have GW116 := n7_; have GE116 := n8_; have NB101_116 := n9_; have NB116_101 := n10_; clear n0_ n1_ n2_ n3_ n4_ n5_ n6_ n7_ n8_ n9_ n10_; clear hb hbox hg; obtain ⟨Ao23, co23, eo23⟩ := Kd.R_slice HO111.out; subst eo23; have hnb24 := NB116_101.out; have hnc24 := NB101_116.out; have hcz25_0 : w22.cell? ⟨gb116, 0, none⟩ = some (.slice none 0 0) := (blk_cell BK116.out 0).trans rfl; have hcz25_1 : w22.cell? ⟨gb116, 1, none⟩ = some (.slice none 0 0) := (blk_cell BK116.out 1).trans rfl; have hfz25_0 := blk_frozen BK116.out 0; have hfz25_1 := blk_frozen BK116.out 1; obtain ⟨Ao26, co26, eo26⟩ := Kd.R_slice HO114.out; subst eo26; have hcz27_0 : w22.cell? ⟨gb101, 0, none⟩ = some (.slice A0_0 l0_0.length c0_0) := (blk_cell BK101.out 0).trans rfl; have hcz27_1 : w22.cell? ⟨gb101, 1, none⟩ = some (.slice A0_1 l0_1.length c0_1) := (blk_cell BK101.out 1).trans rfl; have hfz27_0 := blk_frozen BK101.out 0; have hfz27_1 := blk_frozen BK101.out 1) | ((with_reducible refine gate_callee (f := 13) rfl ?_); refine goesL_ (some 32) rfl rfl Try.func13 (by kernel_rfl) rfl #[.agg #[.slice A0_0 l0_0.length c0_0, .slice A0_1 l0_1.length c0_1]] rfl (by (try simp only [List.map_toArray, List.map_cons, List.map_nil]); first | done | rfl | (simp only [List.length_drop, List.length_take]; rfl)) ?_; (with_reducible refine (laws_toConf.calls k _ _ l0_0 _ _ l0_1 t117 t120 _ ?side1 ?side2 ?side3 ?side4 A11.out).mono ?_); (case side1 => exact Kd.C_below HR0_0.out (by repeat (first | (with_reducible first | exact HB.out | apply below_alloc | apply pw_below_drewN | apply below_drew1 | refine below_set ?_ GE101.out | refine below_set ?_ GE116.out) | exact HB.out))); (case side2 => exact HC0_0.out); (case side3 => exact Kd.C_below HR0_1.out (by repeat (first | (with_reducible first | exact HB.out | apply below_alloc | apply pw_below_drewN | apply below_drew1 | refine below_set ?_ GE101.out | refine below_set ?_ GE116.out) | exact HB.out))); (case side4 => exact HC0_1.out); rintro e w28 ⟨v118, v121, rfl, ho0, ho1, hb⟩; refine ⟨_, rfl, ?_⟩; have n0_ := Aside0.mk (Kd.R_mono (Kd.R_told (Kd.R_told (Kd.R_old (by (with_reducible repeat (first | apply Kd.R_alloc | apply Kd.R_drewN | apply Kd.R_drew)); exact (Kd.R_mono (Kd.R_far (p := ⟨gb116, 1, none⟩) (Kd.R_far (p := ⟨gb116, 0, none⟩) (Kd.R_types HO105.out BK116.out (by decide)) (fun _ hk => hk.2) (.slice Ao23 t109.length co23)) (fun _ hk => hk.2) (.slice Ao26 t112.length co26)) (fun _ h_ => h_.1))) hb) (Kd.R_base ho0)) (Kd.R_base ho1)) (fun _ h_ => h_.1)); have n1_ := Aside0.mk (Kd.R_mono (Kd.R_told (Kd.R_told (Kd.R_old (by (with_reducible repeat (first | apply Kd.R_alloc | apply Kd.R_drewN | apply Kd.R_drew)); exact (Kd.R_mono (Kd.R_far (p := ⟨gb116, 1, none⟩) (Kd.R_far (p := ⟨gb116, 0, none⟩) (Kd.R_types HO108.out BK116.out (by decide)) (fun _ hk => hk.2) (.slice Ao23 t109.length co23)) (fun _ hk => hk.2) (.slice Ao26 t112.length co26)) (fun _ h_ => h_.1))) hb) (Kd.R_base ho0)) (Kd.R_base ho1)) (fun _ h_ => h_.1)); have n2_ := Aside0.mk (Kd.R_mono (Kd.R_told (Kd.R_told (Kd.R_old (by (with_reducible repeat (first | apply Kd.R_alloc | apply Kd.R_drewN | apply Kd.R_drew)); exact (Kd.R_mono (Kd.R_far (p := ⟨gb116, 1, none⟩) (Kd.R_far (p := ⟨gb116, 0, none⟩) (Kd.R_types HO111.out BK116.out (by decide)) (fun _ hk => hk.2) (.slice Ao23 t109.length co23)) (fun _ hk => hk.2) (.slice Ao26 t112.length co26)) (fun _ h_ => h_.1))) hb) (Kd.R_base ho0)) (Kd.R_base ho1)) (fun _ h_ => h_.1)); have n3_ := Aside0.mk (Kd.R_mono (Kd.R_told (Kd.R_told (Kd.R_old (by (with_reducible repeat (first | apply Kd.R_alloc | apply Kd.R_drewN | apply Kd.R_drew)); exact (Kd.R_mono (Kd.R_far (p := ⟨gb116, 1, none⟩) (Kd.R_far (p := ⟨gb116, 0, none⟩) (Kd.R_types HO114.out BK116.out (by decide)) (fun _ hk => hk.2) (.slice Ao23 t109.length co23)) (fun _ hk => hk.2) (.slice Ao26 t112.length co26)) (fun _ h_ => h_.1))) hb) (Kd.R_base ho0)) (Kd.R_base ho1)) (fun _ h_ => h_.1)); have n4_ := Aside0.mk (Kd.R_lower (Kd.R_new' (Kd.R_new' (Kd.R_new' (Kd.R_new' ho0 (Kd.R_lt (by (with_reducible repeat (first | apply Kd.R_alloc | apply Kd.R_drewN | apply Kd.R_drew)); exact (Kd.R_mono (Kd.R_far (p := ⟨gb116, 1, none⟩) (Kd.R_far (p := ⟨gb116, 0, none⟩) (Kd.R_types HO105.out BK116.out (by decide)) (fun _ hk => hk.2) (.slice Ao23 t109.length co23)) (fun _ hk => hk.2) (.slice Ao26 t112.length co26)) (fun _ h_ => h_.1))))) (Kd.R_lt (by (with_reducible repeat (first | apply Kd.R_alloc | apply Kd.R_drewN | apply Kd.R_drew)); exact (Kd.R_mono (Kd.R_far (p := ⟨gb116, 1, none⟩) (Kd.R_far (p := ⟨gb116, 0, none⟩) (Kd.R_types HO108.out BK116.out (by decide)) (fun _ hk => hk.2) (.slice Ao23 t109.length co23)) (fun _ hk => hk.2) (.slice Ao26 t112.length co26)) (fun _ h_ => h_.1))))) (Kd.R_lt (by (with_reducible repeat (first | apply Kd.R_alloc | apply Kd.R_drewN | apply Kd.R_drew)); exact (Kd.R_mono (Kd.R_far (p := ⟨gb116, 1, none⟩) (Kd.R_far (p := ⟨gb116, 0, none⟩) (Kd.R_types HO111.out BK116.out (by decide)) (fun _ hk => hk.2) (.slice Ao23 t109.length co23)) (fun _ hk => hk.2) (.slice Ao26 t112.length co26)) (fun _ h_ => h_.1))))) (Kd.R_lt (by (with_reducible repeat (first | apply Kd.R_alloc | apply Kd.R_drewN | apply Kd.R_drew)); exact (Kd.R_mono (Kd.R_far (p := ⟨gb116, 1, none⟩) (Kd.R_far (p := ⟨gb116, 0, none⟩) (Kd.R_types HO114.out BK116.out (by decide)) (fun _ hk => hk.2) (.slice Ao23 t109.length co23)) (fun _ hk => hk.2) (.slice Ao26 t112.length co26)) (fun _ h_ => h_.1))))) (below_size (by repeat (first | (with_reducible first | exact HB.out | apply below_alloc | apply pw_below_drewN | apply below_drew1 | refine below_set ?_ GE101.out | refine below_set ?_ GE116.out) | exact HB.out)))); have n5_ := Aside0.mk (Kd.R_lower (Kd.R_new' (Kd.R_new' (Kd.R_new' (Kd.R_new' ho1 (Kd.R_lt (by (with_reducible repeat (first | apply Kd.R_alloc | apply Kd.R_drewN | apply Kd.R_drew)); exact (Kd.R_mono (Kd.R_far (p := ⟨gb116, 1, none⟩) (Kd.R_far (p := ⟨gb116, 0, none⟩) (Kd.R_types HO105.out BK116.out (by decide)) (fun _ hk => hk.2) (.slice Ao23 t109.length co23)) (fun _ hk => hk.2) (.slice Ao26 t112.length co26)) (fun _ h_ => h_.1))))) (Kd.R_lt (by (with_reducible repeat (first | apply Kd.R_alloc | apply Kd.R_drewN | apply Kd.R_drew)); exact (Kd.R_mono (Kd.R_far (p := ⟨gb116, 1, none⟩) (Kd.R_far (p := ⟨gb116, 0, none⟩) (Kd.R_types HO108.out BK116.out (by decide)) (fun _ hk => hk.2) (.slice Ao23 t109.length co23)) (fun _ hk => hk.2) (.slice Ao26 t112.length co26)) (fun _ h_ => h_.1))))) (Kd.R_lt (by (with_reducible repeat (first | apply Kd.R_alloc | apply Kd.R_drewN | apply Kd.R_drew)); exact (Kd.R_mono (Kd.R_far (p := ⟨gb116, 1, none⟩) (Kd.R_far (p := ⟨gb116, 0, none⟩) (Kd.R_types HO111.out BK116.out (by decide)) (fun _ hk => hk.2) (.slice Ao23 t109.length co23)) (fun _ hk => hk.2) (.slice Ao26 t112.length co26)) (fun _ h_ => h_.1))))) (Kd.R_lt (by (with_reducible repeat (first | apply Kd.R_alloc | apply Kd.R_drewN | apply Kd.R_drew)); exact (Kd.R_mono (Kd.R_far (p := ⟨gb116, 1, none⟩) (Kd.R_far (p := ⟨gb116, 0, none⟩) (Kd.R_types HO114.out BK116.out (by decide)) (fun _ hk => hk.2) (.slice Ao23 t109.length co23)) (fun _ hk => hk.2) (.slice Ao26 t112.length co26)) (fun _ h_ => h_.1))))) (below_size (by repeat (first | (with_reducible first | exact HB.out | apply below_alloc | apply pw_below_drewN | apply below_drew1 | refine below_set ?_ GE101.out | refine below_set ?_ GE116.out) | exact HB.out)))); have n6_ := Aside0.mk (blk_below (g := gb101) (o := .cells #[.slice A0_0 l0_0.length c0_0, .slice A0_1 l0_1.length c0_1] 24 (0, 0)) (by (with_reducible repeat (first | refine blk_drewN ?_ _ | refine blk_drew ?_ | refine blk_alloc ?_ _)); refine blk_far ?_ NB101_116.out _; (with_reducible repeat (first | refine blk_drewN ?_ _ | refine blk_drew ?_ | refine blk_alloc ?_ _)); refine blk_far ?_ NB101_116.out _; (with_reducible repeat (first | refine blk_drewN ?_ _ | refine blk_drew ?_ | refine blk_alloc ?_ _)); exact BK101.out) hb); have n7_ := Aside0.mk (blk_below (g := gb116) (o := .cells #[.slice Ao23 t109.length co23, .slice Ao26 t112.length co26] 27 (0, 0)) (by (with_reducible repeat (first | refine blk_drewN ?_ _ | refine blk_drew ?_ | refine blk_alloc ?_ _)); refine blk_put (cs := #[.slice Ao23 t109.length co23, .slice none 0 0]) ?_ 1 _ rfl; (with_reducible repeat (first | refine blk_drewN ?_ _ | refine blk_drew ?_ | refine blk_alloc ?_ _)); refine blk_put (cs := #[.slice none 0 0, .slice none 0 0]) ?_ 0 _ rfl; (with_reducible repeat (first | refine blk_drewN ?_ _ | refine blk_drew ?_ | refine blk_alloc ?_ _)); exact BK116.out) hb); have n8_ := Aside0.mk (below_step (by repeat (first | (with_reducible first | exact HB.out | apply below_alloc | apply pw_below_drewN | apply below_drew1 | refine below_set ?_ GE101.out | refine below_set ?_ GE116.out) | exact HB.out)) hb); clear HO105; clear HO108; clear HO111; clear HO114; clear BK101; clear BK116; clear HB; have HO105 := n0_; have HO108 := n1_; have HO111 := n2_; have HO114 := n3_; have HO119 := n4_; have HO122 := n5_; have BK101 := n6_; have BK116 := n7_; have HB := n8_; clear n0_ n1_ n2_ n3_ n4_ n5_ n6_ n7_ n8_; (try clear hb); (try clear hb2); (try clear hk); (try clear hi); (try clear ho0); (try clear ho1)) | ((with_reducible refine gate_dst (N := 10) rfl ?_); refine box_event ?hg (N := 10) ?hd (cs := #[.slice none 0 0, .slice none 0 0]) (t := 27) ?hr ?_; (case hd => rfl); (case hg => rfl); (case hr => first | (go_simp; done) | (go_simp; rfl)); intro gb123 hg w29 hbox hb; have n0_ := Aside0.mk (Kd.R_below (by (with_reducible repeat (first | apply Kd.R_alloc | apply Kd.R_drewN | apply Kd.R_drew)); exact HO105.out) hb); have n1_ := Aside0.mk (Kd.R_below (by (with_reducible repeat (first | apply Kd.R_alloc | apply Kd.R_drewN | apply Kd.R_drew)); exact HO108.out) hb); have n2_ := Aside0.mk (Kd.R_below (by (with_reducible repeat (first | apply Kd.R_alloc | apply Kd.R_drewN | apply Kd.R_drew)); exact HO111.out) hb); have n3_ := Aside0.mk (Kd.R_below (by (with_reducible repeat (first | apply Kd.R_alloc | apply Kd.R_drewN | apply Kd.R_drew)); exact HO114.out) hb); have n4_ := Aside0.mk (Kd.R_below (by (with_reducible repeat (first | apply Kd.R_alloc | apply Kd.R_drewN | apply Kd.R_drew)); exact HO119.out) hb); have n5_ := Aside0.mk (Kd.R_below (by (with_reducible repeat (first | apply Kd.R_alloc | apply Kd.R_drewN | apply Kd.R_drew)); exact HO122.out) hb); have n6_ := Aside0.mk (blk_below (g := gb101) (o := .cells #[.slice A0_0 l0_0.length c0_0, .slice A0_1 l0_1.length c0_1] 24 (0, 0)) (by (with_reducible repeat (first | refine blk_drewN ?_ _ | refine blk_drew ?_ | refine blk_alloc ?_ _)); exact BK101.out) hb); have n7_ := Aside0.mk (blk_below (g := gb116) (o := .cells #[.slice Ao23 t109.length co23, .slice Ao26 t112.length co26] 27 (0, 0)) (by (with_reducible repeat (first | refine blk_drewN ?_ _ | refine blk_drew ?_ | refine blk_alloc ?_ _)); exact BK116.out) hb); have n8_ := Aside0.mk (below_step (by repeat (first | (with_reducible first | exact HB.out | apply below_alloc | apply pw_below_drewN | apply below_drew1 | refine below_set ?_ GE101.out | refine below_set ?_ GE116.out) | exact HB.out)) hb); have n9_ := Aside0.mk (hbox); have n10_ := Aside0.mk ((by rw [hg]; exact (below_size (by repeat (first | (with_reducible first | exact HB.out | apply below_alloc | apply pw_below_drewN | apply below_drew1 | refine below_set ?_ GE101.out | refine below_set ?_ GE116.out) | exact HB.out))) : w.heap.size ≤ gb123)); have n11_ := Aside0.mk ((by rw [hg]; exact (below_size (by repeat (first | (with_reducible first | exact HB.out | apply below_alloc | apply pw_below_drewN | apply below_drew1 | refine below_set ?_ GE101.out | refine below_set ?_ GE116.out) | exact HB.out))) : w.heap.size ≤ gb123)); have n12_ := Aside0.mk ((by rw [hg]; exact Nat.ne_of_lt (blk_lt (g := gb101) (o := .cells #[.slice A0_0 l0_0.length c0_0, .slice A0_1 l0_1.length c0_1] 24 (0, 0)) (by (with_reducible repeat (first | refine blk_drewN ?_ _ | refine blk_drew ?_ | refine blk_alloc ?_ _)); exact BK101.out)) : gb101 ≠ gb123)); have n13_ := Aside0.mk ((by rw [hg]; exact Nat.ne_of_gt (blk_lt (g := gb101) (o := .cells #[.slice A0_0 l0_0.length c0_0, .slice A0_1 l0_1.length c0_1] 24 (0, 0)) (by (with_reducible repeat (first | refine blk_drewN ?_ _ | refine blk_drew ?_ | refine blk_alloc ?_ _)); exact BK101.out)) : gb123 ≠ gb101)); have n14_ := Aside0.mk ((by rw [hg]; exact Nat.ne_of_lt (blk_lt (g := gb116) (o := .cells #[.slice Ao23 t109.length co23, .slice Ao26 t112.length co26] 27 (0, 0)) (by (with_reducible repeat (first | refine blk_drewN ?_ _ | refine blk_drew ?_ | refine blk_alloc ?_ _)); exact BK116.out)) : gb116 ≠ gb123)); have n15_ := Aside0.mk ((by rw [hg]; exact Nat.ne_of_gt (blk_lt (g := gb116) (o := .cells #[.slice Ao23 t109.length co23, .slice Ao26 t112.length co26] 27 (0, 0)) (by (with_reducible repeat (first | refine blk_drewN ?_ _ | refine blk_drew ?_ | refine blk_alloc ?_ _)); exact BK116.out)) : gb123 ≠ gb116)); clear HO105; clear HO108; clear HO111; clear HO114; clear HO119; clear HO122; clear BK101; clear BK116; clear HB; have HO105 := n0_; have HO108 := n1_; have HO111 := n2_; have HO114 := n3_; have HO119 := n4_; have HO122 := n5_; have BK101 := n6_; have BK116 := n7_; have HB := n8_; have BK123 := n9_; have GW123 := n10_; have GE123 := n11_; have NB101_123 := n12_; have NB123_101 := n13_; have NB116_123 := n14_; have NB123_116 := n15_; clear n0_ n1_ n2_ n3_ n4_ n5_ n6_ n7_ n8_ n9_ n10_ n11_ n12_ n13_ n14_ n15_; clear hb hbox hg; obtain ⟨Ao30, co30, eo30⟩ := Kd.R_slice HO119.out; subst eo30; have hnb31 := NB123_101.out; have hnc31 := NB101_123.out; have hnb32 := NB123_116.out; have hnc32 := NB116_123.out; have hcz33_0 : w29.cell? ⟨gb123, 0, none⟩ = some (.slice none 0 0) := (blk_cell BK123.out 0).trans rfl; have hcz33_1 : w29.cell? ⟨gb123, 1, none⟩ = some (.slice none 0 0) := (blk_cell BK123.out 1).trans rfl; have hfz33_0 := blk_frozen BK123.out 0; have hfz33_1 := blk_frozen BK123.out 1; obtain ⟨Ao34, co34, eo34⟩ := Kd.R_slice HO122.out; subst eo34) | ((with_reducible refine gate_callee (f := 35) rfl ?_); refine goesL_ (some 37) rfl rfl Try.func35 (by kernel_rfl) rfl #[.agg #[.slice Ao30 t117.length co30, .slice Ao34 t120.length co34], .int .i64 a1, .int .i64 a2] rfl (by (try simp only [List.map_toArray, List.map_cons, List.map_nil]); first | done | rfl | (simp only [List.length_drop, List.length_take]; rfl)) ?_; (with_reducible refine (impl_Changed.calls k _ _ t117 _ _ t120 a1 a2 t124 t127 t130 _ ?side1 ?side2 ?side3 ?side4 A12.out).mono ?_); (case side1 => refine (Kd.R_reads' (e := 2) (base := w.heap.size) (ok := fun k_ => ((((some k_ ≠ (.slice Ao34 t120.length co34 : Value).ownBlock ∧ some k_ ≠ (.slice Ao19 t103.length co19 : Value).ownBlock) ∧ some k_ ≠ (.slice Ao20 t106.length co20 : Value).ownBlock) ∧ some k_ ≠ (.slice Ao23 t109.length co23 : Value).ownBlock) ∧ some k_ ≠ (.slice Ao26 t112.length co26 : Value).ownBlock)) (n := t117.length) (c := co30) ?_).2.2; exact (by (with_reducible repeat (first | apply Kd.R_alloc | apply Kd.R_drewN | apply Kd.R_drew)); exact (Kd.R_mono (Kd.R_far (p := ⟨gb123, 1, none⟩) (Kd.R_far (p := ⟨gb123, 0, none⟩) (Kd.R_types HO119.out BK123.out (by decide)) (fun _ hk => hk.2) (.slice Ao30 t117.length co30)) (fun _ hk => hk.2) (.slice Ao34 t120.length co34)) (fun _ h_ => h_.1)))); (case side2 => exact (Kd.R_reads' HO119.out).2.1); (case side3 => refine (Kd.R_reads' (e := 2) (base := w.heap.size) (ok := fun k_ => ((((some k_ ≠ (.slice Ao30 t117.length co30 : Value).ownBlock ∧ some k_ ≠ (.slice Ao19 t103.length co19 : Value).ownBlock) ∧ some k_ ≠ (.slice Ao20 t106.length co20 : Value).ownBlock) ∧ some k_ ≠ (.slice Ao23 t109.length co23 : Value).ownBlock) ∧ some k_ ≠ (.slice Ao26 t112.length co26 : Value).ownBlock)) (n := t120.length) (c := co34) ?_).2.2; exact (by (with_reducible repeat (first | apply Kd.R_alloc | apply Kd.R_drewN | apply Kd.R_drew)); exact (Kd.R_mono (Kd.R_far (p := ⟨gb123, 1, none⟩) (Kd.R_far (p := ⟨gb123, 0, none⟩) (Kd.R_types HO122.out BK123.out (by decide)) (fun _ hk => hk.2) (.slice Ao30 t117.length co30)) (fun _ hk => hk.2) (.slice Ao34 t120.length co34)) (fun _ h_ => h_.1)))); (case side4 => exact (Kd.R_reads' HO122.out).2.1); rintro e w35 ⟨v125, v128, rfl, ho0, ho1, hb⟩; refine ⟨_, rfl, ?_⟩; have n0_ := Aside0.mk (Kd.R_mono (Kd.R_told (Kd.R_told (Kd.R_old (by (with_reducible repeat (first | apply Kd.R_alloc | apply Kd.R_drewN | apply Kd.R_drew)); exact (Kd.R_mono (Kd.R_far (p := ⟨gb123, 1, none⟩) (Kd.R_far (p := ⟨gb123, 0, none⟩) (Kd.R_types HO105.out BK123.out (by decide)) (fun _ hk => hk.2) (.slice Ao30 t117.length co30)) (fun _ hk => hk.2) (.slice Ao34 t120.length co34)) (fun _ h_ => h_.1))) hb) (Kd.R_base ho0)) (Kd.R_base ho1)) (fun _ h_ => h_.1)); have n1_ := Aside0.mk (Kd.R_mono (Kd.R_told (Kd.R_told (Kd.R_old (by (with_reducible repeat (first | apply Kd.R_alloc | apply Kd.R_drewN | apply Kd.R_drew)); exact (Kd.R_mono (Kd.R_far (p := ⟨gb123, 1, none⟩) (Kd.R_far (p := ⟨gb123, 0, none⟩) (Kd.R_types HO108.out BK123.out (by decide)) (fun _ hk => hk.2) (.slice Ao30 t117.length co30)) (fun _ hk => hk.2) (.slice Ao34 t120.length co34)) (fun _ h_ => h_.1))) hb) (Kd.R_base ho0)) (Kd.R_base ho1)) (fun _ h_ => h_.1)); have n2_ := Aside0.mk (Kd.R_mono (Kd.R_told (Kd.R_told (Kd.R_old (by (with_reducible repeat (first | apply Kd.R_alloc | apply Kd.R_drewN | apply Kd.R_drew)); exact (Kd.R_mono (Kd.R_far (p := ⟨gb123, 1, none⟩) (Kd.R_far (p := ⟨gb123, 0, none⟩) (Kd.R_types HO111.out BK123.out (by decide)) (fun _ hk => hk.2) (.slice Ao30 t117.length co30)) (fun _ hk => hk.2) (.slice Ao34 t120.length co34)) (fun _ h_ => h_.1))) hb) (Kd.R_base ho0)) (Kd.R_base ho1)) (fun _ h_ => h_.1)); have n3_ := Aside0.mk (Kd.R_mono (Kd.R_told (Kd.R_told (Kd.R_old (by (with_reducible repeat (first | apply Kd.R_alloc | apply Kd.R_drewN | apply Kd.R_drew)); exact (Kd.R_mono (Kd.R_far (p := ⟨gb123, 1, none⟩) (Kd.R_far (p := ⟨gb123, 0, none⟩) (Kd.R_types HO114.out BK123.out (by decide)) (fun _ hk => hk.2) (.slice Ao30 t117.length co30)) (fun _ hk => hk.2) (.slice Ao34 t120.length co34)) (fun _ h_ => h_.1))) hb) (Kd.R_base ho0)) (Kd.R_base ho1)) (fun _ h_ => h_.1)); have n4_ := Aside0.mk (Kd.R_mono (Kd.R_told (Kd.R_told (Kd.R_old (by (with_reducible repeat (first | apply Kd.R_alloc | apply Kd.R_drewN | apply Kd.R_drew)); exact (Kd.R_mono (Kd.R_far (p := ⟨gb123, 1, none⟩) (Kd.R_far (p := ⟨gb123, 0, none⟩) (Kd.R_types HO119.out BK123.out (by decide)) (fun _ hk => hk.2) (.slice Ao30 t117.length co30)) (fun _ hk => hk.2) (.slice Ao34 t120.length co34)) (fun _ h_ => h_.1))) hb) (Kd.R_base ho0)) (Kd.R_base ho1)) (fun _ h_ => h_.1)); have n5_ := Aside0.mk (Kd.R_mono (Kd.R_told (Kd.R_told (Kd.R_old (by (with_reducible repeat (first | apply Kd.R_alloc | apply Kd.R_drewN | apply Kd.R_drew)); exact (Kd.R_mono (Kd.R_far (p := ⟨gb123, 1, none⟩) (Kd.R_far (p := ⟨gb123, 0, none⟩) (Kd.R_types HO122.out BK123.out (by decide)) (fun _ hk => hk.2) (.slice Ao30 t117.length co30)) (fun _ hk => hk.2) (.slice Ao34 t120.length co34)) (fun _ h_ => h_.1))) hb) (Kd.R_base ho0)) (Kd.R_base ho1)) (fun _ h_ => h_.1)); have n6_ := Aside0.mk (Kd.R_lower (Kd.R_new' (Kd.R_new' (Kd.R_new' (Kd.R_new' (Kd.R_new' (Kd.R_new' ho0 (Kd.R_lt (by (with_reducible repeat (first | apply Kd.R_alloc | apply Kd.R_drewN | apply Kd.R_drew)); exact (Kd.R_mono (Kd.R_far (p := ⟨gb123, 1, none⟩) (Kd.R_far (p := ⟨gb123, 0, none⟩) (Kd.R_types HO105.out BK123.out (by decide)) (fun _ hk => hk.2) (.slice Ao30 t117.length co30)) (fun _ hk => hk.2) (.slice Ao34 t120.length co34)) (fun _ h_ => h_.1))))) (Kd.R_lt (by (with_reducible repeat (first | apply Kd.R_alloc | apply Kd.R_drewN | apply Kd.R_drew)); exact (Kd.R_mono (Kd.R_far (p := ⟨gb123, 1, none⟩) (Kd.R_far (p := ⟨gb123, 0, none⟩) (Kd.R_types HO108.out BK123.out (by decide)) (fun _ hk => hk.2) (.slice Ao30 t117.length co30)) (fun _ hk => hk.2) (.slice Ao34 t120.length co34)) (fun _ h_ => h_.1))))) (Kd.R_lt (by (with_reducible repeat (first | apply Kd.R_alloc | apply Kd.R_drewN | apply Kd.R_drew)); exact (Kd.R_mono (Kd.R_far (p := ⟨gb123, 1, none⟩) (Kd.R_far (p := ⟨gb123, 0, none⟩) (Kd.R_types HO111.out BK123.out (by decide)) (fun _ hk => hk.2) (.slice Ao30 t117.length co30)) (fun _ hk => hk.2) (.slice Ao34 t120.length co34)) (fun _ h_ => h_.1))))) (Kd.R_lt (by (with_reducible repeat (first | apply Kd.R_alloc | apply Kd.R_drewN | apply Kd.R_drew)); exact (Kd.R_mono (Kd.R_far (p := ⟨gb123, 1, none⟩) (Kd.R_far (p := ⟨gb123, 0, none⟩) (Kd.R_types HO114.out BK123.out (by decide)) (fun _ hk => hk.2) (.slice Ao30 t117.length co30)) (fun _ hk => hk.2) (.slice Ao34 t120.length co34)) (fun _ h_ => h_.1))))) (Kd.R_lt (by (with_reducible repeat (first | apply Kd.R_alloc | apply Kd.R_drewN | apply Kd.R_drew)); exact (Kd.R_mono (Kd.R_far (p := ⟨gb123, 1, none⟩) (Kd.R_far (p := ⟨gb123, 0, none⟩) (Kd.R_types HO119.out BK123.out (by decide)) (fun _ hk => hk.2) (.slice Ao30 t117.length co30)) (fun _ hk => hk.2) (.slice Ao34 t120.length co34)) (fun _ h_ => h_.1))))) (Kd.R_lt (by (with_reducible repeat (first | apply Kd.R_alloc | apply Kd.R_drewN | apply Kd.R_drew)); exact (Kd.R_mono (Kd.R_far (p := ⟨gb123, 1, none⟩) (Kd.R_far (p := ⟨gb123, 0, none⟩) (Kd.R_types HO122.out BK123.out (by decide)) (fun _ hk => hk.2) (.slice Ao30 t117.length co30)) (fun _ hk => hk.2) (.slice Ao34 t120.length co34)) (fun _ h_ => h_.1))))) (below_size (by repeat (first | (with_reducible first | exact HB.out | apply below_alloc | apply pw_below_drewN | apply below_drew1 | refine below_set ?_ GE101.out | refine below_set ?_ GE116.out | refine below_set ?_ GE123.out) | exact HB.out)))); have n7_ := Aside0.mk (Kd.R_lower (Kd.R_new' (Kd.R_new' (Kd.R_new' (Kd.R_new' (Kd.R_new' (Kd.R_new' ho1 (Kd.R_lt (by (with_reducible repeat (first | apply Kd.R_alloc | apply Kd.R_drewN | apply Kd.R_drew)); exact (Kd.R_mono (Kd.R_far (p := ⟨gb123, 1, none⟩) (Kd.R_far (p := ⟨gb123, 0, none⟩) (Kd.R_types HO105.out BK123.out (by decide)) (fun _ hk => hk.2) (.slice Ao30 t117.length co30)) (fun _ hk => hk.2) (.slice Ao34 t120.length co34)) (fun _ h_ => h_.1))))) (Kd.R_lt (by (with_reducible repeat (first | apply Kd.R_alloc | apply Kd.R_drewN | apply Kd.R_drew)); exact (Kd.R_mono (Kd.R_far (p := ⟨gb123, 1, none⟩) (Kd.R_far (p := ⟨gb123, 0, none⟩) (Kd.R_types HO108.out BK123.out (by decide)) (fun _ hk => hk.2) (.slice Ao30 t117.length co30)) (fun _ hk => hk.2) (.slice Ao34 t120.length co34)) (fun _ h_ => h_.1))))) (Kd.R_lt (by (with_reducible repeat (first | apply Kd.R_alloc | apply Kd.R_drewN | apply Kd.R_drew)); exact (Kd.R_mono (Kd.R_far (p := ⟨gb123, 1, none⟩) (Kd.R_far (p := ⟨gb123, 0, none⟩) (Kd.R_types HO111.out BK123.out (by decide)) (fun _ hk => hk.2) (.slice Ao30 t117.length co30)) (fun _ hk => hk.2) (.slice Ao34 t120.length co34)) (fun _ h_ => h_.1))))) (Kd.R_lt (by (with_reducible repeat (first | apply Kd.R_alloc | apply Kd.R_drewN | apply Kd.R_drew)); exact (Kd.R_mono (Kd.R_far (p := ⟨gb123, 1, none⟩) (Kd.R_far (p := ⟨gb123, 0, none⟩) (Kd.R_types HO114.out BK123.out (by decide)) (fun _ hk => hk.2) (.slice Ao30 t117.length co30)) (fun _ hk => hk.2) (.slice Ao34 t120.length co34)) (fun _ h_ => h_.1))))) (Kd.R_lt (by (with_reducible repeat (first | apply Kd.R_alloc | apply Kd.R_drewN | apply Kd.R_drew)); exact (Kd.R_mono (Kd.R_far (p := ⟨gb123, 1, none⟩) (Kd.R_far (p := ⟨gb123, 0, none⟩) (Kd.R_types HO119.out BK123.out (by decide)) (fun _ hk => hk.2) (.slice Ao30 t117.length co30)) (fun _ hk => hk.2) (.slice Ao34 t120.length co34)) (fun _ h_ => h_.1))))) (Kd.R_lt (by (with_reducible repeat (first | apply Kd.R_alloc | apply Kd.R_drewN | apply Kd.R_drew)); exact (Kd.R_mono (Kd.R_far (p := ⟨gb123, 1, none⟩) (Kd.R_far (p := ⟨gb123, 0, none⟩) (Kd.R_types HO122.out BK123.out (by decide)) (fun _ hk => hk.2) (.slice Ao30 t117.length co30)) (fun _ hk => hk.2) (.slice Ao34 t120.length co34)) (fun _ h_ => h_.1))))) (below_size (by repeat (first | (with_reducible first | exact HB.out | apply below_alloc | apply pw_below_drewN | apply below_drew1 | refine below_set ?_ GE101.out | refine below_set ?_ GE116.out | refine below_set ?_ GE123.out) | exact HB.out)))); have n8_ := Aside0.mk (blk_below (g := gb101) (o := .cells #[.slice A0_0 l0_0.length c0_0, .slice A0_1 l0_1.length c0_1] 24 (0, 0)) (by (with_reducible repeat (first | refine blk_drewN ?_ _ | refine blk_drew ?_ | refine blk_alloc ?_ _)); refine blk_far ?_ NB101_123.out _; (with_reducible repeat (first | refine blk_drewN ?_ _ | refine blk_drew ?_ | refine blk_alloc ?_ _)); refine blk_far ?_ NB101_123.out _; (with_reducible repeat (first | refine blk_drewN ?_ _ | refine blk_drew ?_ | refine blk_alloc ?_ _)); exact BK101.out) hb); have n9_ := Aside0.mk (blk_below (g := gb116) (o := .cells #[.slice Ao23 t109.length co23, .slice Ao26 t112.length co26] 27 (0, 0)) (by (with_reducible repeat (first | refine blk_drewN ?_ _ | refine blk_drew ?_ | refine blk_alloc ?_ _)); refine blk_far ?_ NB116_123.out _; (with_reducible repeat (first | refine blk_drewN ?_ _ | refine blk_drew ?_ | refine blk_alloc ?_ _)); refine blk_far ?_ NB116_123.out _; (with_reducible repeat (first | refine blk_drewN ?_ _ | refine blk_drew ?_ | refine blk_alloc ?_ _)); exact BK116.out) hb); have n10_ := Aside0.mk (blk_below (g := gb123) (o := .cells #[.slice Ao30 t117.length co30, .slice Ao34 t120.length co34] 27 (0, 0)) (by (with_reducible repeat (first | refine blk_drewN ?_ _ | refine blk_drew ?_ | refine blk_alloc ?_ _)); refine blk_put (cs := #[.slice Ao30 t117.length co30, .slice none 0 0]) ?_ 1 _ rfl; (with_reducible repeat (first | refine blk_drewN ?_ _ | refine blk_drew ?_ | refine blk_alloc ?_ _)); refine blk_put (cs := #[.slice none 0 0, .slice none 0 0]) ?_ 0 _ rfl; (with_reducible repeat (first | refine blk_drewN ?_ _ | refine blk_drew ?_ | refine blk_alloc ?_ _)); exact BK123.out) hb); have n11_ := Aside0.mk (below_step (by repeat (first | (with_reducible first | exact HB.out | apply below_alloc | apply pw_below_drewN | apply below_drew1 | refine below_set ?_ GE101.out | refine below_set ?_ GE116.out | refine below_set ?_ GE123.out) | exact HB.out)) hb); clear HO105; clear HO108; clear HO111; clear HO114; clear HO119; clear HO122; clear BK101; clear BK116; clear BK123; clear HB; have HO105 := n0_; have HO108 := n1_; have HO111 := n2_; have HO114 := n3_; have HO119 := n4_; have HO122 := n5_; have HO126 := n6_; have HO129 := n7_; have BK101 := n8_; have BK116 := n9_; have BK123 := n10_; have HB := n11_; clear n0_ n1_ n2_ n3_ n4_ n5_ n6_ n7_ n8_ n9_ n10_ n11_; (try clear hb); (try clear hb2); (try clear hk); (try clear hi); (try clear ho0); (try clear ho1)) | ((with_reducible refine gate_dst (N := 11) rfl ?_); refine box_event ?hg (N := 11) ?hd (cs := #[.slice none 0 0, .slice none 0 0]) (t := 27) ?hr ?_; (case hd => rfl); (case hg => rfl); (case hr => first | (go_simp; done) | (go_simp; rfl)); intro gb131 hg w36 hbox hb; have n0_ := Aside0.mk (Kd.R_below (by (with_reducible repeat (first | apply Kd.R_alloc | apply Kd.R_drewN | apply Kd.R_drew)); exact HO105.out) hb); have n1_ := Aside0.mk (Kd.R_below (by (with_reducible repeat (first | apply Kd.R_alloc | apply Kd.R_drewN | apply Kd.R_drew)); exact HO108.out) hb); have n2_ := Aside0.mk (Kd.R_below (by (with_reducible repeat (first | apply Kd.R_alloc | apply Kd.R_drewN | apply Kd.R_drew)); exact HO111.out) hb); have n3_ := Aside0.mk (Kd.R_below (by (with_reducible repeat (first | apply Kd.R_alloc | apply Kd.R_drewN | apply Kd.R_drew)); exact HO114.out) hb); have n4_ := Aside0.mk (Kd.R_below (by (with_reducible repeat (first | apply Kd.R_alloc | apply Kd.R_drewN | apply Kd.R_drew)); exact HO119.out) hb); have n5_ := Aside0.mk (Kd.R_below (by (with_reducible repeat (first | apply Kd.R_alloc | apply Kd.R_drewN | apply Kd.R_drew)); exact HO122.out) hb); have n6_ := Aside0.mk (Kd.R_below (by (with_reducible repeat (first | apply Kd.R_alloc | apply Kd.R_drewN | apply Kd.R_drew)); exact HO126.out) hb); have n7_ := Aside0.mk (Kd.R_below (by (with_reducible repeat (first | apply Kd.R_alloc | apply Kd.R_drewN | apply Kd.R_drew)); exact HO129.out) hb); have n8_ := Aside0.mk (blk_below (g := gb101) (o := .cells #[.slice A0_0 l0_0.length c0_0, .slice A0_1 l0_1.length c0_1] 24 (0, 0)) (by (with_reducible repeat (first | refine blk_drewN ?_ _ | refine blk_drew ?_ | refine blk_alloc ?_ _)); exact BK101.out) hb); have n9_ := Aside0.mk (blk_below (g := gb116) (o := .cells #[.slice Ao23 t109.length co23, .slice Ao26 t112.length co26] 27 (0, 0)) (by (with_reducible repeat (first | refine blk_drewN ?_ _ | refine blk_drew ?_ | refine blk_alloc ?_ _)); exact BK116.out) hb); have n10_ := Aside0.mk (blk_below (g := gb123) (o := .cells #[.slice Ao30 t117.length co30, .slice Ao34 t120.length co34] 27 (0, 0)) (by (with_reducible repeat (first | refine blk_drewN ?_ _ | refine blk_drew ?_ | refine blk_alloc ?_ _)); exact BK123.out) hb); have n11_ := Aside0.mk (below_step (by repeat (first | (with_reducible first | exact HB.out | apply below_alloc | apply pw_below_drewN | apply below_drew1 | refine below_set ?_ GE101.out | refine below_set ?_ GE116.out | refine below_set ?_ GE123.out) | exact HB.out)) hb); have n12_ := Aside0.mk (hbox); have n13_ := Aside0.mk ((by rw [hg]; exact (below_size (by repeat (first | (with_reducible first | exact HB.out | apply below_alloc | apply pw_below_drewN | apply below_drew1 | refine below_set ?_ GE101.out | refine below_set ?_ GE116.out | refine below_set ?_ GE123.out) | exact HB.out))) : w.heap.size ≤ gb131)); have n14_ := Aside0.mk ((by rw [hg]; exact (below_size (by repeat (first | (with_reducible first | exact HB.out | apply below_alloc | apply pw_below_drewN | apply below_drew1 | refine below_set ?_ GE101.out | refine below_set ?_ GE116.out | refine below_set ?_ GE123.out) | exact HB.out))) : w.heap.size ≤ gb131)); have n15_ := Aside0.mk ((by rw [hg]; exact Nat.ne_of_lt (blk_lt (g := gb101) (o := .cells #[.slice A0_0 l0_0.length c0_0, .slice A0_1 l0_1.length c0_1] 24 (0, 0)) (by (with_reducible repeat (first | refine blk_drewN ?_ _ | refine blk_drew ?_ | refine blk_alloc ?_ _)); exact BK101.out)) : gb101 ≠ gb131)); have n16_ := Aside0.mk ((by rw [hg]; exact Nat.ne_of_gt (blk_lt (g := gb101) (o := .cells #[.slice A0_0 l0_0.length c0_0, .slice A0_1 l0_1.length c0_1] 24 (0, 0)) (by (with_reducible repeat (first | refine blk_drewN ?_ _ | refine blk_drew ?_ | refine blk_alloc ?_ _)); exact BK101.out)) : gb131 ≠ gb101)); have n17_ := Aside0.mk ((by rw [hg]; exact Nat.ne_of_lt (blk_lt (g := gb116) (o := .cells #[.slice Ao23 t109.length co23, .slice Ao26 t112.length co26] 27 (0, 0)) (by (with_reducible repeat (first | refine blk_drewN ?_ _ | refine blk_drew ?_ | refine blk_alloc ?_ _)); exact BK116.out)) : gb116 ≠ gb131)); have n18_ := Aside0.mk ((by rw [hg]; exact Nat.ne_of_gt (blk_lt (g := gb116) (o := .cells #[.slice Ao23 t109.length co23, .slice Ao26 t112.length co26] 27 (0, 0)) (by (with_reducible repeat (first | refine blk_drewN ?_ _ | refine blk_drew ?_ | refine blk_alloc ?_ _)); exact BK116.out)) : gb131 ≠ gb116)); have n19_ := Aside0.mk ((by rw [hg]; exact Nat.ne_of_lt (blk_lt (g := gb123) (o := .cells #[.slice Ao30 t117.length co30, .slice Ao34 t120.length co34] 27 (0, 0)) (by (with_reducible repeat (first | refine blk_drewN ?_ _ | refine blk_drew ?_ | refine blk_alloc ?_ _)); exact BK123.out)) : gb123 ≠ gb131)); have n20_ := Aside0.mk ((by rw [hg]; exact Nat.ne_of_gt (blk_lt (g := gb123) (o := .cells #[.slice Ao30 t117.length co30, .slice Ao34 t120.length co34] 27 (0, 0)) (by (with_reducible repeat (first | refine blk_drewN ?_ _ | refine blk_drew ?_ | refine blk_alloc ?_ _)); exact BK123.out)) : gb131 ≠ gb123)); clear HO105; clear HO108; clear HO111; clear HO114; clear HO119; clear HO122; clear HO126; clear HO129; clear BK101; clear BK116; clear BK123; clear HB; have HO105 := n0_; have HO108 := n1_; have HO111 := n2_; have HO114 := n3_; have HO119 := n4_; have HO122 := n5_; have HO126 := n6_; have HO129 := n7_; have BK101 := n8_; have BK116 := n9_; have BK123 := n10_; have HB := n11_; have BK131 := n12_; have GW131 := n13_; have GE131 := n14_; have NB101_131 := n15_; have NB131_101 := n16_; have NB116_131 := n17_; have NB131_116 := n18_; have NB123_131 := n19_; have NB131_123 := n20_; clear n0_ n1_ n2_ n3_ n4_ n5_ n6_ n7_ n8_ n9_ n10_ n11_ n12_ n13_ n14_ n15_ n16_ n17_ n18_ n19_ n20_; clear hb hbox hg; obtain ⟨Ao37, co37, eo37⟩ := Kd.R_slice HO126.out; subst eo37; have hnb38 := NB131_101.out; have hnc38 := NB101_131.out; have hnb39 := NB131_116.out; have hnc39 := NB116_131.out; have hnb40 := NB131_123.out; have hnc40 := NB123_131.out; have hcz41_0 : w36.cell? ⟨gb131, 0, none⟩ = some (.slice none 0 0) := (blk_cell BK131.out 0).trans rfl; have hcz41_1 : w36.cell? ⟨gb131, 1, none⟩ = some (.slice none 0 0) := (blk_cell BK131.out 1).trans rfl; have hfz41_0 := blk_frozen BK131.out 0; have hfz41_1 := blk_frozen BK131.out 1; obtain ⟨Ao42, co42, eo42⟩ := Kd.R_slice HO129.out; subst eo42))
    (try simp only [Act.put, List.setIfInBounds_toArray, List.set_cons_zero, List.set_cons_succ])
    go_cut [48] (fun v48 wc => ∃ (kq : Nat) (x48_12 : Bool), v48 = .bool x48_12 ∧ Aside0 (laws_FnExactChanged.j0 kq a1 a2 t115 t130 x48_12 l0_0 l0_1 t109 t112 t117 t120 t124 t127 = some true) ∧ Aside0 (kq ≤ k) ∧ Aside0 (Kd.R (Kd.int .i64) 2 wc w.heap.size (fun k_ => some k_ ≠ ((.slice Ao26 t112.length co26) : Value).ownBlock ∧ some k_ ≠ ((.slice Ao30 t117.length co30) : Value).ownBlock ∧ some k_ ≠ ((.slice Ao34 t120.length co34) : Value).ownBlock ∧ some k_ ≠ ((.slice Ao37 t124.length co37) : Value).ownBlock ∧ some k_ ≠ ((.slice Ao42 t127.length co42) : Value).ownBlock) (.slice Ao23 t109.length co23) t109) ∧ Aside0 (Kd.R (Kd.int .i64) 2 wc w.heap.size (fun k_ => some k_ ≠ ((.slice Ao23 t109.length co23) : Value).ownBlock ∧ some k_ ≠ ((.slice Ao30 t117.length co30) : Value).ownBlock ∧ some k_ ≠ ((.slice Ao34 t120.length co34) : Value).ownBlock ∧ some k_ ≠ ((.slice Ao37 t124.length co37) : Value).ownBlock ∧ some k_ ≠ ((.slice Ao42 t127.length co42) : Value).ownBlock) (.slice Ao26 t112.length co26) t112) ∧ Aside0 (Kd.R (Kd.int .i64) 2 wc w.heap.size (fun k_ => some k_ ≠ ((.slice Ao23 t109.length co23) : Value).ownBlock ∧ some k_ ≠ ((.slice Ao26 t112.length co26) : Value).ownBlock ∧ some k_ ≠ ((.slice Ao34 t120.length co34) : Value).ownBlock ∧ some k_ ≠ ((.slice Ao37 t124.length co37) : Value).ownBlock ∧ some k_ ≠ ((.slice Ao42 t127.length co42) : Value).ownBlock) (.slice Ao30 t117.length co30) t117) ∧ Aside0 (Kd.R (Kd.int .i64) 2 wc w.heap.size (fun k_ => some k_ ≠ ((.slice Ao23 t109.length co23) : Value).ownBlock ∧ some k_ ≠ ((.slice Ao26 t112.length co26) : Value).ownBlock ∧ some k_ ≠ ((.slice Ao30 t117.length co30) : Value).ownBlock ∧ some k_ ≠ ((.slice Ao37 t124.length co37) : Value).ownBlock ∧ some k_ ≠ ((.slice Ao42 t127.length co42) : Value).ownBlock) (.slice Ao34 t120.length co34) t120) ∧ Aside0 (Kd.R (Kd.int .i64) 2 wc w.heap.size (fun k_ => some k_ ≠ ((.slice Ao23 t109.length co23) : Value).ownBlock ∧ some k_ ≠ ((.slice Ao26 t112.length co26) : Value).ownBlock ∧ some k_ ≠ ((.slice Ao30 t117.length co30) : Value).ownBlock ∧ some k_ ≠ ((.slice Ao34 t120.length co34) : Value).ownBlock ∧ some k_ ≠ ((.slice Ao42 t127.length co42) : Value).ownBlock) (.slice Ao37 t124.length co37) t124) ∧ Aside0 (Kd.R (Kd.int .i64) 2 wc w.heap.size (fun k_ => some k_ ≠ ((.slice Ao23 t109.length co23) : Value).ownBlock ∧ some k_ ≠ ((.slice Ao26 t112.length co26) : Value).ownBlock ∧ some k_ ≠ ((.slice Ao30 t117.length co30) : Value).ownBlock ∧ some k_ ≠ ((.slice Ao34 t120.length co34) : Value).ownBlock ∧ some k_ ≠ ((.slice Ao37 t124.length co37) : Value).ownBlock) (.slice Ao42 t127.length co42) t127) ∧ Aside0 (wc.heap[gb101]? = some (.cells #[(.slice A0_0 l0_0.length c0_0), (.slice A0_1 l0_1.length c0_1)] 24 (0, 0))) ∧ Aside0 (wc.heap[gb116]? = some (.cells #[(.slice Ao23 t109.length co23), (.slice Ao26 t112.length co26)] 27 (0, 0))) ∧ Aside0 (wc.heap[gb123]? = some (.cells #[(.slice Ao30 t117.length co30), (.slice Ao34 t120.length co34)] 27 (0, 0))) ∧ Aside0 (wc.heap[gb131]? = some (.cells #[(.slice Ao37 t124.length co37), (.slice Ao42 t127.length co42)] 27 (0, 0))) ∧ Aside0 (Below w.heap.size w wc))
    case first =>
      have H := HC13.out
      clear HC13
      replace H := Option.bind_eq_some_iff.mp H
      obtain ⟨t132, A430, H⟩ := H
      replace H : (if t132 = true then (laws_FnExactChanged.j0 k a1 a2 t115 t130 (t130 != t115) l0_0 l0_1 t109 t112 t117 t120 t124 t127) else (laws_FnExactChanged.j0 k a1 a2 t115 t130 true l0_0 l0_1 t109 t112 t117 t120 t124 t127)) = some true := H
      have A43 := Aside0.mk A430
      clear A430
      by_cases c44 : t132 = true
      · subst c44
        have H1 : (laws_FnExactChanged.j0 k a1 a2 t115 t130 (t130 != t115) l0_0 l0_1 t109 t112 t117 t120 t124 t127) = some true := by first | (with_reducible rfl) | (rw [if_pos rfl] at H; exact H)
        clear H
        have H := H1
        clear H1
        have H' := Aside0.mk H
        clear H
        have hnb45 := NB131_101.out
        have hnc45 := NB101_131.out
        have hnb46 := NB131_116.out
        have hnc46 := NB116_131.out
        have hnb47 := NB131_123.out
        have hnc47 := NB123_131.out
        have hcz48_0 : w36.cell? ⟨gb131, 0, none⟩ = some (.slice none 0 0) := (blk_cell BK131.out 0).trans rfl
        have hcz48_1 : w36.cell? ⟨gb131, 1, none⟩ = some (.slice none 0 0) := (blk_cell BK131.out 1).trans rfl
        have hfz48_0 := blk_frozen BK131.out 0
        have hfz48_1 := blk_frozen BK131.out 1
        have hnb49 := NB116_101.out
        have hnc49 := NB101_116.out
        have hnb50 := NB116_123.out
        have hnc50 := NB123_116.out
        have hcz51_0 : w36.cell? ⟨gb116, 0, none⟩ = some (.slice Ao23 t109.length co23) := (blk_cell BK116.out 0).trans rfl
        have hcz51_1 : w36.cell? ⟨gb116, 1, none⟩ = some (.slice Ao26 t112.length co26) := (blk_cell BK116.out 1).trans rfl
        have hfz51_0 := blk_frozen BK116.out 0
        have hfz51_1 := blk_frozen BK116.out 1
        go_wp2_with (first | ((with_reducible refine gate_callee (f := 15) rfl ?_); refine goesL_ (some 42) rfl rfl Try.func15 (by kernel_rfl) rfl #[.agg #[.slice Ao37 t124.length co37, .slice Ao42 t127.length co42], .agg #[.slice Ao23 t109.length co23, .slice Ao26 t112.length co26]] rfl (by (try simp only [List.map_toArray, List.map_cons, List.map_nil]); first | done | rfl | (simp only [List.length_drop, List.length_take]; rfl)) ?_; (with_reducible refine (laws_eqConf.calls k _ _ t124 _ _ t127 _ _ t109 _ _ t112 true _ ?side1 ?side2 ?side3 ?side4 ?side5 ?side6 ?side7 ?side8 A43.out).mono ?_); (case side1 => refine (Kd.R_reads' (e := 2) (base := w.heap.size) (ok := fun k_ => ((((((some k_ ≠ (.slice Ao42 t127.length co42 : Value).ownBlock ∧ some k_ ≠ (.slice Ao19 t103.length co19 : Value).ownBlock) ∧ some k_ ≠ (.slice Ao20 t106.length co20 : Value).ownBlock) ∧ some k_ ≠ (.slice Ao23 t109.length co23 : Value).ownBlock) ∧ some k_ ≠ (.slice Ao26 t112.length co26 : Value).ownBlock) ∧ some k_ ≠ (.slice Ao30 t117.length co30 : Value).ownBlock) ∧ some k_ ≠ (.slice Ao34 t120.length co34 : Value).ownBlock)) (n := t124.length) (c := co37) ?_).2.2; exact (by (with_reducible repeat (first | apply Kd.R_alloc | apply Kd.R_drewN | apply Kd.R_drew)); exact (Kd.R_mono (Kd.R_far (p := ⟨gb131, 1, none⟩) (Kd.R_far (p := ⟨gb131, 0, none⟩) (Kd.R_types HO126.out BK131.out (by decide)) (fun _ hk => hk.2) (.slice Ao37 t124.length co37)) (fun _ hk => hk.2) (.slice Ao42 t127.length co42)) (fun _ h_ => h_.1)))); (case side2 => exact (Kd.R_reads' HO126.out).2.1); (case side3 => refine (Kd.R_reads' (e := 2) (base := w.heap.size) (ok := fun k_ => ((((((some k_ ≠ (.slice Ao37 t124.length co37 : Value).ownBlock ∧ some k_ ≠ (.slice Ao19 t103.length co19 : Value).ownBlock) ∧ some k_ ≠ (.slice Ao20 t106.length co20 : Value).ownBlock) ∧ some k_ ≠ (.slice Ao23 t109.length co23 : Value).ownBlock) ∧ some k_ ≠ (.slice Ao26 t112.length co26 : Value).ownBlock) ∧ some k_ ≠ (.slice Ao30 t117.length co30 : Value).ownBlock) ∧ some k_ ≠ (.slice Ao34 t120.length co34 : Value).ownBlock)) (n := t127.length) (c := co42) ?_).2.2; exact (by (with_reducible repeat (first | apply Kd.R_alloc | apply Kd.R_drewN | apply Kd.R_drew)); exact (Kd.R_mono (Kd.R_far (p := ⟨gb131, 1, none⟩) (Kd.R_far (p := ⟨gb131, 0, none⟩) (Kd.R_types HO129.out BK131.out (by decide)) (fun _ hk => hk.2) (.slice Ao37 t124.length co37)) (fun _ hk => hk.2) (.slice Ao42 t127.length co42)) (fun _ h_ => h_.1)))); (case side4 => exact (Kd.R_reads' HO129.out).2.1); (case side5 => refine (Kd.R_reads' (e := 2) (base := w.heap.size) (ok := fun k_ => ((((((some k_ ≠ (.slice Ao26 t112.length co26 : Value).ownBlock ∧ some k_ ≠ (.slice Ao19 t103.length co19 : Value).ownBlock) ∧ some k_ ≠ (.slice Ao20 t106.length co20 : Value).ownBlock) ∧ some k_ ≠ (.slice Ao30 t117.length co30 : Value).ownBlock) ∧ some k_ ≠ (.slice Ao34 t120.length co34 : Value).ownBlock) ∧ some k_ ≠ (.slice Ao37 t124.length co37 : Value).ownBlock) ∧ some k_ ≠ (.slice Ao42 t127.length co42 : Value).ownBlock)) (n := t109.length) (c := co23) ?_).2.2; exact (by (with_reducible repeat (first | apply Kd.R_alloc | apply Kd.R_drewN | apply Kd.R_drew)); exact (Kd.R_mono (Kd.R_far (p := ⟨gb131, 1, none⟩) (Kd.R_far (p := ⟨gb131, 0, none⟩) (Kd.R_types HO111.out BK131.out (by decide)) (fun _ hk => hk.2) (.slice Ao37 t124.length co37)) (fun _ hk => hk.2) (.slice Ao42 t127.length co42)) (fun _ h_ => h_.1)))); (case side6 => exact (Kd.R_reads' HO111.out).2.1); (case side7 => refine (Kd.R_reads' (e := 2) (base := w.heap.size) (ok := fun k_ => ((((((some k_ ≠ (.slice Ao23 t109.length co23 : Value).ownBlock ∧ some k_ ≠ (.slice Ao19 t103.length co19 : Value).ownBlock) ∧ some k_ ≠ (.slice Ao20 t106.length co20 : Value).ownBlock) ∧ some k_ ≠ (.slice Ao30 t117.length co30 : Value).ownBlock) ∧ some k_ ≠ (.slice Ao34 t120.length co34 : Value).ownBlock) ∧ some k_ ≠ (.slice Ao37 t124.length co37 : Value).ownBlock) ∧ some k_ ≠ (.slice Ao42 t127.length co42 : Value).ownBlock)) (n := t112.length) (c := co26) ?_).2.2; exact (by (with_reducible repeat (first | apply Kd.R_alloc | apply Kd.R_drewN | apply Kd.R_drew)); exact (Kd.R_mono (Kd.R_far (p := ⟨gb131, 1, none⟩) (Kd.R_far (p := ⟨gb131, 0, none⟩) (Kd.R_types HO114.out BK131.out (by decide)) (fun _ hk => hk.2) (.slice Ao37 t124.length co37)) (fun _ hk => hk.2) (.slice Ao42 t127.length co42)) (fun _ h_ => h_.1)))); (case side8 => exact (Kd.R_reads' HO114.out).2.1); rintro e w52 ⟨rfl, hb⟩; refine ⟨_, rfl, ?_⟩; have n0_ := Aside0.mk (Kd.R_below (by (with_reducible repeat (first | apply Kd.R_alloc | apply Kd.R_drewN | apply Kd.R_drew)); exact (Kd.R_mono (Kd.R_far (p := ⟨gb131, 1, none⟩) (Kd.R_far (p := ⟨gb131, 0, none⟩) (Kd.R_types HO105.out BK131.out (by decide)) (fun _ hk => hk.2) (.slice Ao37 t124.length co37)) (fun _ hk => hk.2) (.slice Ao42 t127.length co42)) (fun _ h_ => h_.1))) hb); have n1_ := Aside0.mk (Kd.R_below (by (with_reducible repeat (first | apply Kd.R_alloc | apply Kd.R_drewN | apply Kd.R_drew)); exact (Kd.R_mono (Kd.R_far (p := ⟨gb131, 1, none⟩) (Kd.R_far (p := ⟨gb131, 0, none⟩) (Kd.R_types HO108.out BK131.out (by decide)) (fun _ hk => hk.2) (.slice Ao37 t124.length co37)) (fun _ hk => hk.2) (.slice Ao42 t127.length co42)) (fun _ h_ => h_.1))) hb); have n2_ := Aside0.mk (Kd.R_below (by (with_reducible repeat (first | apply Kd.R_alloc | apply Kd.R_drewN | apply Kd.R_drew)); exact (Kd.R_mono (Kd.R_far (p := ⟨gb131, 1, none⟩) (Kd.R_far (p := ⟨gb131, 0, none⟩) (Kd.R_types HO111.out BK131.out (by decide)) (fun _ hk => hk.2) (.slice Ao37 t124.length co37)) (fun _ hk => hk.2) (.slice Ao42 t127.length co42)) (fun _ h_ => h_.1))) hb); have n3_ := Aside0.mk (Kd.R_below (by (with_reducible repeat (first | apply Kd.R_alloc | apply Kd.R_drewN | apply Kd.R_drew)); exact (Kd.R_mono (Kd.R_far (p := ⟨gb131, 1, none⟩) (Kd.R_far (p := ⟨gb131, 0, none⟩) (Kd.R_types HO114.out BK131.out (by decide)) (fun _ hk => hk.2) (.slice Ao37 t124.length co37)) (fun _ hk => hk.2) (.slice Ao42 t127.length co42)) (fun _ h_ => h_.1))) hb); have n4_ := Aside0.mk (Kd.R_below (by (with_reducible repeat (first | apply Kd.R_alloc | apply Kd.R_drewN | apply Kd.R_drew)); exact (Kd.R_mono (Kd.R_far (p := ⟨gb131, 1, none⟩) (Kd.R_far (p := ⟨gb131, 0, none⟩) (Kd.R_types HO119.out BK131.out (by decide)) (fun _ hk => hk.2) (.slice Ao37 t124.length co37)) (fun _ hk => hk.2) (.slice Ao42 t127.length co42)) (fun _ h_ => h_.1))) hb); have n5_ := Aside0.mk (Kd.R_below (by (with_reducible repeat (first | apply Kd.R_alloc | apply Kd.R_drewN | apply Kd.R_drew)); exact (Kd.R_mono (Kd.R_far (p := ⟨gb131, 1, none⟩) (Kd.R_far (p := ⟨gb131, 0, none⟩) (Kd.R_types HO122.out BK131.out (by decide)) (fun _ hk => hk.2) (.slice Ao37 t124.length co37)) (fun _ hk => hk.2) (.slice Ao42 t127.length co42)) (fun _ h_ => h_.1))) hb); have n6_ := Aside0.mk (Kd.R_below (by (with_reducible repeat (first | apply Kd.R_alloc | apply Kd.R_drewN | apply Kd.R_drew)); exact (Kd.R_mono (Kd.R_far (p := ⟨gb131, 1, none⟩) (Kd.R_far (p := ⟨gb131, 0, none⟩) (Kd.R_types HO126.out BK131.out (by decide)) (fun _ hk => hk.2) (.slice Ao37 t124.length co37)) (fun _ hk => hk.2) (.slice Ao42 t127.length co42)) (fun _ h_ => h_.1))) hb); have n7_ := Aside0.mk (Kd.R_below (by (with_reducible repeat (first | apply Kd.R_alloc | apply Kd.R_drewN | apply Kd.R_drew)); exact (Kd.R_mono (Kd.R_far (p := ⟨gb131, 1, none⟩) (Kd.R_far (p := ⟨gb131, 0, none⟩) (Kd.R_types HO129.out BK131.out (by decide)) (fun _ hk => hk.2) (.slice Ao37 t124.length co37)) (fun _ hk => hk.2) (.slice Ao42 t127.length co42)) (fun _ h_ => h_.1))) hb); have n8_ := Aside0.mk (blk_below (g := gb101) (o := .cells #[.slice A0_0 l0_0.length c0_0, .slice A0_1 l0_1.length c0_1] 24 (0, 0)) (by (with_reducible repeat (first | refine blk_drewN ?_ _ | refine blk_drew ?_ | refine blk_alloc ?_ _)); refine blk_far ?_ NB101_131.out _; (with_reducible repeat (first | refine blk_drewN ?_ _ | refine blk_drew ?_ | refine blk_alloc ?_ _)); refine blk_far ?_ NB101_131.out _; (with_reducible repeat (first | refine blk_drewN ?_ _ | refine blk_drew ?_ | refine blk_alloc ?_ _)); exact BK101.out) hb); have n9_ := Aside0.mk (blk_below (g := gb116) (o := .cells #[.slice Ao23 t109.length co23, .slice Ao26 t112.length co26] 27 (0, 0)) (by (with_reducible repeat (first | refine blk_drewN ?_ _ | refine blk_drew ?_ | refine blk_alloc ?_ _)); refine blk_far ?_ NB116_131.out _; (with_reducible repeat (first | refine blk_drewN ?_ _ | refine blk_drew ?_ | refine blk_alloc ?_ _)); refine blk_far ?_ NB116_131.out _; (with_reducible repeat (first | refine blk_drewN ?_ _ | refine blk_drew ?_ | refine blk_alloc ?_ _)); exact BK116.out) hb); have n10_ := Aside0.mk (blk_below (g := gb123) (o := .cells #[.slice Ao30 t117.length co30, .slice Ao34 t120.length co34] 27 (0, 0)) (by (with_reducible repeat (first | refine blk_drewN ?_ _ | refine blk_drew ?_ | refine blk_alloc ?_ _)); refine blk_far ?_ NB123_131.out _; (with_reducible repeat (first | refine blk_drewN ?_ _ | refine blk_drew ?_ | refine blk_alloc ?_ _)); refine blk_far ?_ NB123_131.out _; (with_reducible repeat (first | refine blk_drewN ?_ _ | refine blk_drew ?_ | refine blk_alloc ?_ _)); exact BK123.out) hb); have n11_ := Aside0.mk (blk_below (g := gb131) (o := .cells #[.slice Ao37 t124.length co37, .slice Ao42 t127.length co42] 27 (0, 0)) (by (with_reducible repeat (first | refine blk_drewN ?_ _ | refine blk_drew ?_ | refine blk_alloc ?_ _)); refine blk_put (cs := #[.slice Ao37 t124.length co37, .slice none 0 0]) ?_ 1 _ rfl; (with_reducible repeat (first | refine blk_drewN ?_ _ | refine blk_drew ?_ | refine blk_alloc ?_ _)); refine blk_put (cs := #[.slice none 0 0, .slice none 0 0]) ?_ 0 _ rfl; (with_reducible repeat (first | refine blk_drewN ?_ _ | refine blk_drew ?_ | refine blk_alloc ?_ _)); exact BK131.out) hb); have n12_ := Aside0.mk (below_step (by repeat (first | (with_reducible first | exact HB.out | apply below_alloc | apply pw_below_drewN | apply below_drew1 | refine below_set ?_ GE101.out | refine below_set ?_ GE116.out | refine below_set ?_ GE123.out | refine below_set ?_ GE131.out) | exact HB.out)) hb); clear HO105; clear HO108; clear HO111; clear HO114; clear HO119; clear HO122; clear HO126; clear HO129; clear BK101; clear BK116; clear BK123; clear BK131; clear HB; have HO105 := n0_; have HO108 := n1_; have HO111 := n2_; have HO114 := n3_; have HO119 := n4_; have HO122 := n5_; have HO126 := n6_; have HO129 := n7_; have BK101 := n8_; have BK116 := n9_; have BK123 := n10_; have BK131 := n11_; have HB := n12_; clear n0_ n1_ n2_ n3_ n4_ n5_ n6_ n7_ n8_ n9_ n10_ n11_ n12_; (try clear hb); (try clear hb2); (try clear hk); (try clear hi)))
        go_meet
        case rel => exact ⟨_, ((t130 != t115)), (by first | rfl | (simp; done) | (simp [*]; done)), H', ⟨by first | omega | exact Nat.le_refl _⟩, ⟨by (with_reducible repeat (first | apply Kd.R_alloc | apply Kd.R_drewN | apply Kd.R_drew)); exact Kd.R_mono HO111.out (fun _ hk => ⟨hk.1.1.1.1.1.1, ⟨hk.1.1.1.2, ⟨hk.1.1.2, ⟨hk.1.2, hk.2⟩⟩⟩⟩)⟩, ⟨by (with_reducible repeat (first | apply Kd.R_alloc | apply Kd.R_drewN | apply Kd.R_drew)); exact Kd.R_mono HO114.out (fun _ hk => ⟨hk.1.1.1.1.1.1, ⟨hk.1.1.1.2, ⟨hk.1.1.2, ⟨hk.1.2, hk.2⟩⟩⟩⟩)⟩, ⟨by (with_reducible repeat (first | apply Kd.R_alloc | apply Kd.R_drewN | apply Kd.R_drew)); exact Kd.R_mono HO119.out (fun _ hk => ⟨hk.1.1.1.2, ⟨hk.1.1.2, ⟨hk.1.1.1.1.1.1, ⟨hk.1.2, hk.2⟩⟩⟩⟩)⟩, ⟨by (with_reducible repeat (first | apply Kd.R_alloc | apply Kd.R_drewN | apply Kd.R_drew)); exact Kd.R_mono HO122.out (fun _ hk => ⟨hk.1.1.1.2, ⟨hk.1.1.2, ⟨hk.1.1.1.1.1.1, ⟨hk.1.2, hk.2⟩⟩⟩⟩)⟩, ⟨by (with_reducible repeat (first | apply Kd.R_alloc | apply Kd.R_drewN | apply Kd.R_drew)); exact Kd.R_mono HO126.out (fun _ hk => ⟨hk.1.1.1.2, ⟨hk.1.1.2, ⟨hk.1.2, ⟨hk.2, hk.1.1.1.1.1.1⟩⟩⟩⟩)⟩, ⟨by (with_reducible repeat (first | apply Kd.R_alloc | apply Kd.R_drewN | apply Kd.R_drew)); exact Kd.R_mono HO129.out (fun _ hk => ⟨hk.1.1.1.2, ⟨hk.1.1.2, ⟨hk.1.2, ⟨hk.2, hk.1.1.1.1.1.1⟩⟩⟩⟩)⟩, ⟨by (with_reducible repeat (first | refine blk_drewN ?_ _ | refine blk_drew ?_ | refine blk_alloc ?_ _)); exact BK101.out⟩, ⟨by (with_reducible repeat (first | refine blk_drewN ?_ _ | refine blk_drew ?_ | refine blk_alloc ?_ _)); exact BK116.out⟩, ⟨by (with_reducible repeat (first | refine blk_drewN ?_ _ | refine blk_drew ?_ | refine blk_alloc ?_ _)); exact BK123.out⟩, ⟨by (with_reducible repeat (first | refine blk_drewN ?_ _ | refine blk_drew ?_ | refine blk_alloc ?_ _)); exact BK131.out⟩, ⟨by repeat (first | (with_reducible first | exact HB.out | apply below_alloc | apply pw_below_drewN | apply below_drew1 | refine below_set ?_ GE101.out | refine below_set ?_ GE116.out | refine below_set ?_ GE123.out | refine below_set ?_ GE131.out) | exact HB.out)⟩⟩
      · replace c44 := Bool.eq_false_iff.mpr c44
        subst c44
        have H1 : (laws_FnExactChanged.j0 k a1 a2 t115 t130 true l0_0 l0_1 t109 t112 t117 t120 t124 t127) = some true := by rw [if_neg (show ¬ (false = true) by decide)] at H; exact H
        clear H
        have H := H1
        clear H1
        have H' := Aside0.mk H
        clear H
        have hnb53 := NB131_101.out
        have hnc53 := NB101_131.out
        have hnb54 := NB131_116.out
        have hnc54 := NB116_131.out
        have hnb55 := NB131_123.out
        have hnc55 := NB123_131.out
        have hcz56_0 : w36.cell? ⟨gb131, 0, none⟩ = some (.slice none 0 0) := (blk_cell BK131.out 0).trans rfl
        have hcz56_1 : w36.cell? ⟨gb131, 1, none⟩ = some (.slice none 0 0) := (blk_cell BK131.out 1).trans rfl
        have hfz56_0 := blk_frozen BK131.out 0
        have hfz56_1 := blk_frozen BK131.out 1
        have hnb57 := NB116_101.out
        have hnc57 := NB101_116.out
        have hnb58 := NB116_123.out
        have hnc58 := NB123_116.out
        have hcz59_0 : w36.cell? ⟨gb116, 0, none⟩ = some (.slice Ao23 t109.length co23) := (blk_cell BK116.out 0).trans rfl
        have hcz59_1 : w36.cell? ⟨gb116, 1, none⟩ = some (.slice Ao26 t112.length co26) := (blk_cell BK116.out 1).trans rfl
        have hfz59_0 := blk_frozen BK116.out 0
        have hfz59_1 := blk_frozen BK116.out 1
        go_wp2_with (first | ((with_reducible refine gate_callee (f := 15) rfl ?_); refine goesL_ (some 42) rfl rfl Try.func15 (by kernel_rfl) rfl #[.agg #[.slice Ao37 t124.length co37, .slice Ao42 t127.length co42], .agg #[.slice Ao23 t109.length co23, .slice Ao26 t112.length co26]] rfl (by (try simp only [List.map_toArray, List.map_cons, List.map_nil]); first | done | rfl | (simp only [List.length_drop, List.length_take]; rfl)) ?_; (with_reducible refine (laws_eqConf.calls k _ _ t124 _ _ t127 _ _ t109 _ _ t112 false _ ?side1 ?side2 ?side3 ?side4 ?side5 ?side6 ?side7 ?side8 A43.out).mono ?_); (case side1 => refine (Kd.R_reads' (e := 2) (base := w.heap.size) (ok := fun k_ => ((((((some k_ ≠ (.slice Ao42 t127.length co42 : Value).ownBlock ∧ some k_ ≠ (.slice Ao19 t103.length co19 : Value).ownBlock) ∧ some k_ ≠ (.slice Ao20 t106.length co20 : Value).ownBlock) ∧ some k_ ≠ (.slice Ao23 t109.length co23 : Value).ownBlock) ∧ some k_ ≠ (.slice Ao26 t112.length co26 : Value).ownBlock) ∧ some k_ ≠ (.slice Ao30 t117.length co30 : Value).ownBlock) ∧ some k_ ≠ (.slice Ao34 t120.length co34 : Value).ownBlock)) (n := t124.length) (c := co37) ?_).2.2; exact (by (with_reducible repeat (first | apply Kd.R_alloc | apply Kd.R_drewN | apply Kd.R_drew)); exact (Kd.R_mono (Kd.R_far (p := ⟨gb131, 1, none⟩) (Kd.R_far (p := ⟨gb131, 0, none⟩) (Kd.R_types HO126.out BK131.out (by decide)) (fun _ hk => hk.2) (.slice Ao37 t124.length co37)) (fun _ hk => hk.2) (.slice Ao42 t127.length co42)) (fun _ h_ => h_.1)))); (case side2 => exact (Kd.R_reads' HO126.out).2.1); (case side3 => refine (Kd.R_reads' (e := 2) (base := w.heap.size) (ok := fun k_ => ((((((some k_ ≠ (.slice Ao37 t124.length co37 : Value).ownBlock ∧ some k_ ≠ (.slice Ao19 t103.length co19 : Value).ownBlock) ∧ some k_ ≠ (.slice Ao20 t106.length co20 : Value).ownBlock) ∧ some k_ ≠ (.slice Ao23 t109.length co23 : Value).ownBlock) ∧ some k_ ≠ (.slice Ao26 t112.length co26 : Value).ownBlock) ∧ some k_ ≠ (.slice Ao30 t117.length co30 : Value).ownBlock) ∧ some k_ ≠ (.slice Ao34 t120.length co34 : Value).ownBlock)) (n := t127.length) (c := co42) ?_).2.2; exact (by (with_reducible repeat (first | apply Kd.R_alloc | apply Kd.R_drewN | apply Kd.R_drew)); exact (Kd.R_mono (Kd.R_far (p := ⟨gb131, 1, none⟩) (Kd.R_far (p := ⟨gb131, 0, none⟩) (Kd.R_types HO129.out BK131.out (by decide)) (fun _ hk => hk.2) (.slice Ao37 t124.length co37)) (fun _ hk => hk.2) (.slice Ao42 t127.length co42)) (fun _ h_ => h_.1)))); (case side4 => exact (Kd.R_reads' HO129.out).2.1); (case side5 => refine (Kd.R_reads' (e := 2) (base := w.heap.size) (ok := fun k_ => ((((((some k_ ≠ (.slice Ao26 t112.length co26 : Value).ownBlock ∧ some k_ ≠ (.slice Ao19 t103.length co19 : Value).ownBlock) ∧ some k_ ≠ (.slice Ao20 t106.length co20 : Value).ownBlock) ∧ some k_ ≠ (.slice Ao30 t117.length co30 : Value).ownBlock) ∧ some k_ ≠ (.slice Ao34 t120.length co34 : Value).ownBlock) ∧ some k_ ≠ (.slice Ao37 t124.length co37 : Value).ownBlock) ∧ some k_ ≠ (.slice Ao42 t127.length co42 : Value).ownBlock)) (n := t109.length) (c := co23) ?_).2.2; exact (by (with_reducible repeat (first | apply Kd.R_alloc | apply Kd.R_drewN | apply Kd.R_drew)); exact (Kd.R_mono (Kd.R_far (p := ⟨gb131, 1, none⟩) (Kd.R_far (p := ⟨gb131, 0, none⟩) (Kd.R_types HO111.out BK131.out (by decide)) (fun _ hk => hk.2) (.slice Ao37 t124.length co37)) (fun _ hk => hk.2) (.slice Ao42 t127.length co42)) (fun _ h_ => h_.1)))); (case side6 => exact (Kd.R_reads' HO111.out).2.1); (case side7 => refine (Kd.R_reads' (e := 2) (base := w.heap.size) (ok := fun k_ => ((((((some k_ ≠ (.slice Ao23 t109.length co23 : Value).ownBlock ∧ some k_ ≠ (.slice Ao19 t103.length co19 : Value).ownBlock) ∧ some k_ ≠ (.slice Ao20 t106.length co20 : Value).ownBlock) ∧ some k_ ≠ (.slice Ao30 t117.length co30 : Value).ownBlock) ∧ some k_ ≠ (.slice Ao34 t120.length co34 : Value).ownBlock) ∧ some k_ ≠ (.slice Ao37 t124.length co37 : Value).ownBlock) ∧ some k_ ≠ (.slice Ao42 t127.length co42 : Value).ownBlock)) (n := t112.length) (c := co26) ?_).2.2; exact (by (with_reducible repeat (first | apply Kd.R_alloc | apply Kd.R_drewN | apply Kd.R_drew)); exact (Kd.R_mono (Kd.R_far (p := ⟨gb131, 1, none⟩) (Kd.R_far (p := ⟨gb131, 0, none⟩) (Kd.R_types HO114.out BK131.out (by decide)) (fun _ hk => hk.2) (.slice Ao37 t124.length co37)) (fun _ hk => hk.2) (.slice Ao42 t127.length co42)) (fun _ h_ => h_.1)))); (case side8 => exact (Kd.R_reads' HO114.out).2.1); rintro e w60 ⟨rfl, hb⟩; refine ⟨_, rfl, ?_⟩; have n0_ := Aside0.mk (Kd.R_below (by (with_reducible repeat (first | apply Kd.R_alloc | apply Kd.R_drewN | apply Kd.R_drew)); exact (Kd.R_mono (Kd.R_far (p := ⟨gb131, 1, none⟩) (Kd.R_far (p := ⟨gb131, 0, none⟩) (Kd.R_types HO105.out BK131.out (by decide)) (fun _ hk => hk.2) (.slice Ao37 t124.length co37)) (fun _ hk => hk.2) (.slice Ao42 t127.length co42)) (fun _ h_ => h_.1))) hb); have n1_ := Aside0.mk (Kd.R_below (by (with_reducible repeat (first | apply Kd.R_alloc | apply Kd.R_drewN | apply Kd.R_drew)); exact (Kd.R_mono (Kd.R_far (p := ⟨gb131, 1, none⟩) (Kd.R_far (p := ⟨gb131, 0, none⟩) (Kd.R_types HO108.out BK131.out (by decide)) (fun _ hk => hk.2) (.slice Ao37 t124.length co37)) (fun _ hk => hk.2) (.slice Ao42 t127.length co42)) (fun _ h_ => h_.1))) hb); have n2_ := Aside0.mk (Kd.R_below (by (with_reducible repeat (first | apply Kd.R_alloc | apply Kd.R_drewN | apply Kd.R_drew)); exact (Kd.R_mono (Kd.R_far (p := ⟨gb131, 1, none⟩) (Kd.R_far (p := ⟨gb131, 0, none⟩) (Kd.R_types HO111.out BK131.out (by decide)) (fun _ hk => hk.2) (.slice Ao37 t124.length co37)) (fun _ hk => hk.2) (.slice Ao42 t127.length co42)) (fun _ h_ => h_.1))) hb); have n3_ := Aside0.mk (Kd.R_below (by (with_reducible repeat (first | apply Kd.R_alloc | apply Kd.R_drewN | apply Kd.R_drew)); exact (Kd.R_mono (Kd.R_far (p := ⟨gb131, 1, none⟩) (Kd.R_far (p := ⟨gb131, 0, none⟩) (Kd.R_types HO114.out BK131.out (by decide)) (fun _ hk => hk.2) (.slice Ao37 t124.length co37)) (fun _ hk => hk.2) (.slice Ao42 t127.length co42)) (fun _ h_ => h_.1))) hb); have n4_ := Aside0.mk (Kd.R_below (by (with_reducible repeat (first | apply Kd.R_alloc | apply Kd.R_drewN | apply Kd.R_drew)); exact (Kd.R_mono (Kd.R_far (p := ⟨gb131, 1, none⟩) (Kd.R_far (p := ⟨gb131, 0, none⟩) (Kd.R_types HO119.out BK131.out (by decide)) (fun _ hk => hk.2) (.slice Ao37 t124.length co37)) (fun _ hk => hk.2) (.slice Ao42 t127.length co42)) (fun _ h_ => h_.1))) hb); have n5_ := Aside0.mk (Kd.R_below (by (with_reducible repeat (first | apply Kd.R_alloc | apply Kd.R_drewN | apply Kd.R_drew)); exact (Kd.R_mono (Kd.R_far (p := ⟨gb131, 1, none⟩) (Kd.R_far (p := ⟨gb131, 0, none⟩) (Kd.R_types HO122.out BK131.out (by decide)) (fun _ hk => hk.2) (.slice Ao37 t124.length co37)) (fun _ hk => hk.2) (.slice Ao42 t127.length co42)) (fun _ h_ => h_.1))) hb); have n6_ := Aside0.mk (Kd.R_below (by (with_reducible repeat (first | apply Kd.R_alloc | apply Kd.R_drewN | apply Kd.R_drew)); exact (Kd.R_mono (Kd.R_far (p := ⟨gb131, 1, none⟩) (Kd.R_far (p := ⟨gb131, 0, none⟩) (Kd.R_types HO126.out BK131.out (by decide)) (fun _ hk => hk.2) (.slice Ao37 t124.length co37)) (fun _ hk => hk.2) (.slice Ao42 t127.length co42)) (fun _ h_ => h_.1))) hb); have n7_ := Aside0.mk (Kd.R_below (by (with_reducible repeat (first | apply Kd.R_alloc | apply Kd.R_drewN | apply Kd.R_drew)); exact (Kd.R_mono (Kd.R_far (p := ⟨gb131, 1, none⟩) (Kd.R_far (p := ⟨gb131, 0, none⟩) (Kd.R_types HO129.out BK131.out (by decide)) (fun _ hk => hk.2) (.slice Ao37 t124.length co37)) (fun _ hk => hk.2) (.slice Ao42 t127.length co42)) (fun _ h_ => h_.1))) hb); have n8_ := Aside0.mk (blk_below (g := gb101) (o := .cells #[.slice A0_0 l0_0.length c0_0, .slice A0_1 l0_1.length c0_1] 24 (0, 0)) (by (with_reducible repeat (first | refine blk_drewN ?_ _ | refine blk_drew ?_ | refine blk_alloc ?_ _)); refine blk_far ?_ NB101_131.out _; (with_reducible repeat (first | refine blk_drewN ?_ _ | refine blk_drew ?_ | refine blk_alloc ?_ _)); refine blk_far ?_ NB101_131.out _; (with_reducible repeat (first | refine blk_drewN ?_ _ | refine blk_drew ?_ | refine blk_alloc ?_ _)); exact BK101.out) hb); have n9_ := Aside0.mk (blk_below (g := gb116) (o := .cells #[.slice Ao23 t109.length co23, .slice Ao26 t112.length co26] 27 (0, 0)) (by (with_reducible repeat (first | refine blk_drewN ?_ _ | refine blk_drew ?_ | refine blk_alloc ?_ _)); refine blk_far ?_ NB116_131.out _; (with_reducible repeat (first | refine blk_drewN ?_ _ | refine blk_drew ?_ | refine blk_alloc ?_ _)); refine blk_far ?_ NB116_131.out _; (with_reducible repeat (first | refine blk_drewN ?_ _ | refine blk_drew ?_ | refine blk_alloc ?_ _)); exact BK116.out) hb); have n10_ := Aside0.mk (blk_below (g := gb123) (o := .cells #[.slice Ao30 t117.length co30, .slice Ao34 t120.length co34] 27 (0, 0)) (by (with_reducible repeat (first | refine blk_drewN ?_ _ | refine blk_drew ?_ | refine blk_alloc ?_ _)); refine blk_far ?_ NB123_131.out _; (with_reducible repeat (first | refine blk_drewN ?_ _ | refine blk_drew ?_ | refine blk_alloc ?_ _)); refine blk_far ?_ NB123_131.out _; (with_reducible repeat (first | refine blk_drewN ?_ _ | refine blk_drew ?_ | refine blk_alloc ?_ _)); exact BK123.out) hb); have n11_ := Aside0.mk (blk_below (g := gb131) (o := .cells #[.slice Ao37 t124.length co37, .slice Ao42 t127.length co42] 27 (0, 0)) (by (with_reducible repeat (first | refine blk_drewN ?_ _ | refine blk_drew ?_ | refine blk_alloc ?_ _)); refine blk_put (cs := #[.slice Ao37 t124.length co37, .slice none 0 0]) ?_ 1 _ rfl; (with_reducible repeat (first | refine blk_drewN ?_ _ | refine blk_drew ?_ | refine blk_alloc ?_ _)); refine blk_put (cs := #[.slice none 0 0, .slice none 0 0]) ?_ 0 _ rfl; (with_reducible repeat (first | refine blk_drewN ?_ _ | refine blk_drew ?_ | refine blk_alloc ?_ _)); exact BK131.out) hb); have n12_ := Aside0.mk (below_step (by repeat (first | (with_reducible first | exact HB.out | apply below_alloc | apply pw_below_drewN | apply below_drew1 | refine below_set ?_ GE101.out | refine below_set ?_ GE116.out | refine below_set ?_ GE123.out | refine below_set ?_ GE131.out) | exact HB.out)) hb); clear HO105; clear HO108; clear HO111; clear HO114; clear HO119; clear HO122; clear HO126; clear HO129; clear BK101; clear BK116; clear BK123; clear BK131; clear HB; have HO105 := n0_; have HO108 := n1_; have HO111 := n2_; have HO114 := n3_; have HO119 := n4_; have HO122 := n5_; have HO126 := n6_; have HO129 := n7_; have BK101 := n8_; have BK116 := n9_; have BK123 := n10_; have BK131 := n11_; have HB := n12_; clear n0_ n1_ n2_ n3_ n4_ n5_ n6_ n7_ n8_ n9_ n10_ n11_ n12_; (try clear hb); (try clear hb2); (try clear hk); (try clear hi)))
        go_meet
        case rel => exact ⟨_, (true), (by first | rfl | (simp; done) | (simp [*]; done)), H', ⟨by first | omega | exact Nat.le_refl _⟩, ⟨by (with_reducible repeat (first | apply Kd.R_alloc | apply Kd.R_drewN | apply Kd.R_drew)); exact Kd.R_mono HO111.out (fun _ hk => ⟨hk.1.1.1.1.1.1, ⟨hk.1.1.1.2, ⟨hk.1.1.2, ⟨hk.1.2, hk.2⟩⟩⟩⟩)⟩, ⟨by (with_reducible repeat (first | apply Kd.R_alloc | apply Kd.R_drewN | apply Kd.R_drew)); exact Kd.R_mono HO114.out (fun _ hk => ⟨hk.1.1.1.1.1.1, ⟨hk.1.1.1.2, ⟨hk.1.1.2, ⟨hk.1.2, hk.2⟩⟩⟩⟩)⟩, ⟨by (with_reducible repeat (first | apply Kd.R_alloc | apply Kd.R_drewN | apply Kd.R_drew)); exact Kd.R_mono HO119.out (fun _ hk => ⟨hk.1.1.1.2, ⟨hk.1.1.2, ⟨hk.1.1.1.1.1.1, ⟨hk.1.2, hk.2⟩⟩⟩⟩)⟩, ⟨by (with_reducible repeat (first | apply Kd.R_alloc | apply Kd.R_drewN | apply Kd.R_drew)); exact Kd.R_mono HO122.out (fun _ hk => ⟨hk.1.1.1.2, ⟨hk.1.1.2, ⟨hk.1.1.1.1.1.1, ⟨hk.1.2, hk.2⟩⟩⟩⟩)⟩, ⟨by (with_reducible repeat (first | apply Kd.R_alloc | apply Kd.R_drewN | apply Kd.R_drew)); exact Kd.R_mono HO126.out (fun _ hk => ⟨hk.1.1.1.2, ⟨hk.1.1.2, ⟨hk.1.2, ⟨hk.2, hk.1.1.1.1.1.1⟩⟩⟩⟩)⟩, ⟨by (with_reducible repeat (first | apply Kd.R_alloc | apply Kd.R_drewN | apply Kd.R_drew)); exact Kd.R_mono HO129.out (fun _ hk => ⟨hk.1.1.1.2, ⟨hk.1.1.2, ⟨hk.1.2, ⟨hk.2, hk.1.1.1.1.1.1⟩⟩⟩⟩)⟩, ⟨by (with_reducible repeat (first | refine blk_drewN ?_ _ | refine blk_drew ?_ | refine blk_alloc ?_ _)); exact BK101.out⟩, ⟨by (with_reducible repeat (first | refine blk_drewN ?_ _ | refine blk_drew ?_ | refine blk_alloc ?_ _)); exact BK116.out⟩, ⟨by (with_reducible repeat (first | refine blk_drewN ?_ _ | refine blk_drew ?_ | refine blk_alloc ?_ _)); exact BK123.out⟩, ⟨by (with_reducible repeat (first | refine blk_drewN ?_ _ | refine blk_drew ?_ | refine blk_alloc ?_ _)); exact BK131.out⟩, ⟨by repeat (first | (with_reducible first | exact HB.out | apply below_alloc | apply pw_below_drewN | apply below_drew1 | refine below_set ?_ GE101.out | refine below_set ?_ GE116.out | refine below_set ?_ GE123.out | refine below_set ?_ GE131.out) | exact HB.out)⟩⟩
    case rest =>
      clear HC13
      try clear c1
      try clear c2
      try clear p2
      try clear c3
      try clear c4
      try clear c5
      try clear c5b0
      try clear c9
      try clear c11
      try clear c13
      try clear c15
      try clear c24
      try clear c31
      try clear c32
      try clear c34
      try clear c35
      try clear c38
      try clear c39
      try clear c40
      try clear c44
      try clear c45
      try clear c46
      try clear c47
      try clear c49
      try clear c50
      try clear c53
      try clear c54
      try clear c55
      try clear c57
      try clear c58
      try clear hcz15_0
      try clear hcz15_1
      try clear hcz17_0
      try clear hcz17_1
      try clear hcz25_0
      try clear hcz25_1
      try clear hcz27_0
      try clear hcz27_1
      try clear hcz33_0
      try clear hcz33_1
      try clear hcz41_0
      try clear hcz41_1
      try clear hcz48_0
      try clear hcz48_1
      try clear hcz51_0
      try clear hcz51_1
      try clear hcz56_0
      try clear hcz56_1
      try clear hcz59_0
      try clear hcz59_1
      try clear hcz7_0
      try clear hcz7_1
      try clear hfz15_0
      try clear hfz15_1
      try clear hfz17_0
      try clear hfz17_1
      try clear hfz25_0
      try clear hfz25_1
      try clear hfz27_0
      try clear hfz27_1
      try clear hfz33_0
      try clear hfz33_1
      try clear hfz41_0
      try clear hfz41_1
      try clear hfz48_0
      try clear hfz48_1
      try clear hfz51_0
      try clear hfz51_1
      try clear hfz56_0
      try clear hfz56_1
      try clear hfz59_0
      try clear hfz59_1
      try clear hfz7_0
      try clear hfz7_1
      obtain ⟨kq, x48_12, rfl, HA, HJ12, HO_117000, HO_117001, HO_124000, HO_124001, HO_132000, HO_132001, BK101, BK116, BK123, BK131, HB⟩ := hcut
      cases kq with
      | zero => exact absurd HA.out (by simp [laws_FnExactChanged.j0])
      | succ kj12 =>
        have H := HA.out
        clear HA
        simp only [laws_FnExactChanged.j0] at H
        by_cases c61 : x48_12 = true
        · subst c61
          have H1 : (some false) = some true := by first | (with_reducible rfl) | (rw [if_pos rfl] at H; exact H)
          clear H
          have H := H1
          clear H1
          exact absurd (Option.some.inj H) (by decide)
        · replace c61 := Bool.eq_false_iff.mpr c61
          subst c61
          have H1 : ((laws_toConf.f kj12 l0_0 l0_1).bind fun bt133 => ((laws_eqConf.f kj12 t117 t120 bt133.1 bt133.2).bind fun t139 => (if t139 = true then ((laws_markConf.f kj12 t117 t120 1).bind fun bt140 => (if bt140.1 < 0 then (laws_FnExactChanged.j1 kj12 a1 a2 t115 true l0_0 l0_1 t109 t112 t124 t127) else ((laws_eqConf.f kj12 t124 t127 t109 t112).bind fun t143 => (if t143 = true then (laws_FnExactChanged.j1 kj12 a1 a2 t115 (t130 != t115) l0_0 l0_1 t109 t112 t124 t127) else (laws_FnExactChanged.j1 kj12 a1 a2 t115 true l0_0 l0_1 t109 t112 t124 t127))))) else (some false)))) = some true := by rw [if_neg (show ¬ (false = true) by decide)] at H; exact H
          clear H
          have H := H1
          clear H1
          replace H := Option.bind_eq_some_iff.mp H
          obtain ⟨⟨t133, t136⟩, A620, H⟩ := H
          replace H : ((laws_eqConf.f kj12 t117 t120 t133 t136).bind fun t139 => (if t139 = true then ((laws_markConf.f kj12 t117 t120 1).bind fun bt140 => (if bt140.1 < 0 then (laws_FnExactChanged.j1 kj12 a1 a2 t115 true l0_0 l0_1 t109 t112 t124 t127) else ((laws_eqConf.f kj12 t124 t127 t109 t112).bind fun t143 => (if t143 = true then (laws_FnExactChanged.j1 kj12 a1 a2 t115 (t130 != t115) l0_0 l0_1 t109 t112 t124 t127) else (laws_FnExactChanged.j1 kj12 a1 a2 t115 true l0_0 l0_1 t109 t112 t124 t127))))) else (some false))) = some true := H
          have A62 := Aside0.mk A620
          clear A620
          replace H := Option.bind_eq_some_iff.mp H
          obtain ⟨t139, A630, H⟩ := H
          replace H : (if t139 = true then ((laws_markConf.f kj12 t117 t120 1).bind fun bt140 => (if bt140.1 < 0 then (laws_FnExactChanged.j1 kj12 a1 a2 t115 true l0_0 l0_1 t109 t112 t124 t127) else ((laws_eqConf.f kj12 t124 t127 t109 t112).bind fun t143 => (if t143 = true then (laws_FnExactChanged.j1 kj12 a1 a2 t115 (t130 != t115) l0_0 l0_1 t109 t112 t124 t127) else (laws_FnExactChanged.j1 kj12 a1 a2 t115 true l0_0 l0_1 t109 t112 t124 t127))))) else (some false)) = some true := H
          have A63 := Aside0.mk A630
          clear A630
          by_cases c64 : t139 = true
          · subst c64
            have H1 : ((laws_markConf.f kj12 t117 t120 1).bind fun bt140 => (if bt140.1 < 0 then (laws_FnExactChanged.j1 kj12 a1 a2 t115 true l0_0 l0_1 t109 t112 t124 t127) else ((laws_eqConf.f kj12 t124 t127 t109 t112).bind fun t143 => (if t143 = true then (laws_FnExactChanged.j1 kj12 a1 a2 t115 (t130 != t115) l0_0 l0_1 t109 t112 t124 t127) else (laws_FnExactChanged.j1 kj12 a1 a2 t115 true l0_0 l0_1 t109 t112 t124 t127))))) = some true := by first | (with_reducible rfl) | (rw [if_pos rfl] at H; exact H)
            clear H
            have H := H1
            clear H1
            replace H := Option.bind_eq_some_iff.mp H
            obtain ⟨⟨t140, t141, t142⟩, A650, H⟩ := H
            replace H : (if t140 < 0 then (laws_FnExactChanged.j1 kj12 a1 a2 t115 true l0_0 l0_1 t109 t112 t124 t127) else ((laws_eqConf.f kj12 t124 t127 t109 t112).bind fun t143 => (if t143 = true then (laws_FnExactChanged.j1 kj12 a1 a2 t115 (t130 != t115) l0_0 l0_1 t109 t112 t124 t127) else (laws_FnExactChanged.j1 kj12 a1 a2 t115 true l0_0 l0_1 t109 t112 t124 t127)))) = some true := H
            have A65 := Aside0.mk A650
            clear A650
            have HC66 := Aside0.mk H
            clear H
            try go_wp2
            have n0_ := Aside0.mk (Kd.R_drew HO_117000.out)
            have n1_ := Aside0.mk (Kd.R_drew HO_117001.out)
            have n2_ := Aside0.mk (Kd.R_drew HO_124000.out)
            have n3_ := Aside0.mk (Kd.R_drew HO_124001.out)
            have n4_ := Aside0.mk (Kd.R_drew HO_132000.out)
            have n5_ := Aside0.mk (Kd.R_drew HO_132001.out)
            have n6_ := Aside0.mk (blk_drew BK101.out)
            have n7_ := Aside0.mk (blk_drew BK116.out)
            have n8_ := Aside0.mk (blk_drew BK123.out)
            have n9_ := Aside0.mk (blk_drew BK131.out)
            have n10_ := Aside0.mk (below_drew1 HB.out)
            clear HO_117000
            clear HO_117001
            clear HO_124000
            clear HO_124001
            clear HO_132000
            clear HO_132001
            clear BK101
            clear BK116
            clear BK123
            clear BK131
            clear HB
            have HO_117000 := n0_
            have HO_117001 := n1_
            have HO_124000 := n2_
            have HO_124001 := n3_
            have HO_132000 := n4_
            have HO_132001 := n5_
            have BK101 := n6_
            have BK116 := n7_
            have BK123 := n8_
            have BK131 := n9_
            have HB := n10_
            clear n0_ n1_ n2_ n3_ n4_ n5_ n6_ n7_ n8_ n9_ n10_
            refine start_ (n := 5) (S := fun w' => w'.cell? ⟨gb123, 0, none⟩ = some (.slice Ao30 t117.length co30) ∧ w'.cell? ⟨gb123, 1, none⟩ = some (.slice Ao34 t120.length co34) ∧ w'.cell? ⟨gb101, 0, none⟩ = some (.slice A0_0 l0_0.length c0_0) ∧ w'.cell? ⟨gb101, 1, none⟩ = some (.slice A0_1 l0_1.length c0_1)) (ds := []) #[false, false, false, false, false] (by kernel_rfl) rfl rfl ⟨(blk_cell BK123.out 0).trans rfl, (blk_cell BK123.out 1).trans rfl, (blk_cell BK101.out 0).trans rfl, (blk_cell BK101.out 1).trans rfl⟩ (fun hHeld => ?_)
            generalize wc.drew = w67 at HO_117000 HO_117001 HO_124000 HO_124001 HO_132000 HO_132001 BK101 BK116 BK123 BK131 HB hHeld ⊢
            refine take_ (i := 0) (N := some 49) (v := ?_) (a' := ?_) #[true, false, false, false, false] rfl rfl (by kernel_rfl) (fun _ _ _ h => h) (Or.inl ⟨by rfl, ?_⟩) hHeld ?_ ?_
            rotate_left
            · rintro w' ⟨s0, s1, s2, s3⟩
              go_simp
              with_reducible rfl
            rotate_left
            · simp only [Act.put, List.setIfInBounds_toArray, List.set_cons_zero, List.set_cons_succ, i64_w, i32_w]
              rfl
            refine take_ (i := 1) (N := some 50) (v := ?_) (a' := ?_) #[true, true, false, false, false] rfl rfl (by kernel_rfl) (fun _ _ _ h => h) (Or.inl ⟨by rfl, ?_⟩) hHeld ?_ ?_
            rotate_left
            · rintro w' ⟨s0, s1, s2, s3⟩
              go_simp
              with_reducible rfl
            rotate_left
            · simp only [Act.put, List.setIfInBounds_toArray, List.set_cons_zero, List.set_cons_succ, i64_w, i32_w]
              rfl
            refine one_ (i := 2) (N := some 51) #[true, true, true, false, false] rfl rfl (by kernel_rfl) (by decide) (fun K hK => ?_)
            refine goes_ Try.func13 (by kernel_rfl) rfl #[.agg #[.slice A0_0 l0_0.length c0_0, .slice A0_1 l0_1.length c0_1]] (by rfl) rfl rfl (by (try simp only [List.map_toArray, List.map_cons, List.map_nil]); first | done | rfl | (simp only [List.length_drop, List.length_take]; rfl)) ?_
            with_reducible refine (laws_toConf.calls kj12 _ _ l0_0 _ _ l0_1 t133 t136 _ ?side1 ?side2 ?side3 ?side4 A62.out).mono ?_
            (case side1 => repeat (first | exact (Kd.C_below HR0_0.out HB.out) | (with_reducible refine Kd.C_alloc ?_ _) | (with_reducible refine Kd.C_drewN ?_ _) | (with_reducible refine Kd.C_drew ?_)))
            (case side2 => exact HC0_0.out)
            (case side3 => repeat (first | exact (Kd.C_below HR0_1.out HB.out) | (with_reducible refine Kd.C_alloc ?_ _) | (with_reducible refine Kd.C_drewN ?_ _) | (with_reducible refine Kd.C_drew ?_)))
            (case side4 => exact HC0_1.out)
            rintro e w68 ⟨v134, v137, rfl, ho0, ho1, hb⟩
            refine ⟨_, rfl, ?_⟩
            have n0_ := Aside0.mk (Kd.R_mono (Kd.R_told (Kd.R_told (Kd.R_old (by (with_reducible repeat (first | apply Kd.R_alloc | apply Kd.R_drewN | apply Kd.R_drew)); exact HO_117000.out) hb) (Kd.R_base ho0)) (Kd.R_base ho1)) (fun _ h_ => h_.1))
            have n1_ := Aside0.mk (Kd.R_mono (Kd.R_told (Kd.R_told (Kd.R_old (by (with_reducible repeat (first | apply Kd.R_alloc | apply Kd.R_drewN | apply Kd.R_drew)); exact HO_117001.out) hb) (Kd.R_base ho0)) (Kd.R_base ho1)) (fun _ h_ => h_.1))
            have n2_ := Aside0.mk (Kd.R_mono (Kd.R_told (Kd.R_told (Kd.R_old (by (with_reducible repeat (first | apply Kd.R_alloc | apply Kd.R_drewN | apply Kd.R_drew)); exact HO_124000.out) hb) (Kd.R_base ho0)) (Kd.R_base ho1)) (fun _ h_ => h_.1))
            have n3_ := Aside0.mk (Kd.R_mono (Kd.R_told (Kd.R_told (Kd.R_old (by (with_reducible repeat (first | apply Kd.R_alloc | apply Kd.R_drewN | apply Kd.R_drew)); exact HO_124001.out) hb) (Kd.R_base ho0)) (Kd.R_base ho1)) (fun _ h_ => h_.1))
            have n4_ := Aside0.mk (Kd.R_mono (Kd.R_told (Kd.R_told (Kd.R_old (by (with_reducible repeat (first | apply Kd.R_alloc | apply Kd.R_drewN | apply Kd.R_drew)); exact HO_132000.out) hb) (Kd.R_base ho0)) (Kd.R_base ho1)) (fun _ h_ => h_.1))
            have n5_ := Aside0.mk (Kd.R_mono (Kd.R_told (Kd.R_told (Kd.R_old (by (with_reducible repeat (first | apply Kd.R_alloc | apply Kd.R_drewN | apply Kd.R_drew)); exact HO_132001.out) hb) (Kd.R_base ho0)) (Kd.R_base ho1)) (fun _ h_ => h_.1))
            have n6_ := Aside0.mk (Kd.R_lower (Kd.R_new' (Kd.R_new' (Kd.R_new' (Kd.R_new' (Kd.R_new' (Kd.R_new' ho0 (Kd.R_lt (by (with_reducible repeat (first | apply Kd.R_alloc | apply Kd.R_drewN | apply Kd.R_drew)); exact HO_117000.out))) (Kd.R_lt (by (with_reducible repeat (first | apply Kd.R_alloc | apply Kd.R_drewN | apply Kd.R_drew)); exact HO_117001.out))) (Kd.R_lt (by (with_reducible repeat (first | apply Kd.R_alloc | apply Kd.R_drewN | apply Kd.R_drew)); exact HO_124000.out))) (Kd.R_lt (by (with_reducible repeat (first | apply Kd.R_alloc | apply Kd.R_drewN | apply Kd.R_drew)); exact HO_124001.out))) (Kd.R_lt (by (with_reducible repeat (first | apply Kd.R_alloc | apply Kd.R_drewN | apply Kd.R_drew)); exact HO_132000.out))) (Kd.R_lt (by (with_reducible repeat (first | apply Kd.R_alloc | apply Kd.R_drewN | apply Kd.R_drew)); exact HO_132001.out))) (below_size (by repeat (first | (with_reducible first | exact HB.out | apply below_alloc | apply pw_below_drewN | apply below_drew1 | refine below_set ?_ GE101.out | refine below_set ?_ GE116.out | refine below_set ?_ GE123.out | refine below_set ?_ GE131.out) | exact HB.out))))
            have n7_ := Aside0.mk (Kd.R_lower (Kd.R_new' (Kd.R_new' (Kd.R_new' (Kd.R_new' (Kd.R_new' (Kd.R_new' ho1 (Kd.R_lt (by (with_reducible repeat (first | apply Kd.R_alloc | apply Kd.R_drewN | apply Kd.R_drew)); exact HO_117000.out))) (Kd.R_lt (by (with_reducible repeat (first | apply Kd.R_alloc | apply Kd.R_drewN | apply Kd.R_drew)); exact HO_117001.out))) (Kd.R_lt (by (with_reducible repeat (first | apply Kd.R_alloc | apply Kd.R_drewN | apply Kd.R_drew)); exact HO_124000.out))) (Kd.R_lt (by (with_reducible repeat (first | apply Kd.R_alloc | apply Kd.R_drewN | apply Kd.R_drew)); exact HO_124001.out))) (Kd.R_lt (by (with_reducible repeat (first | apply Kd.R_alloc | apply Kd.R_drewN | apply Kd.R_drew)); exact HO_132000.out))) (Kd.R_lt (by (with_reducible repeat (first | apply Kd.R_alloc | apply Kd.R_drewN | apply Kd.R_drew)); exact HO_132001.out))) (below_size (by repeat (first | (with_reducible first | exact HB.out | apply below_alloc | apply pw_below_drewN | apply below_drew1 | refine below_set ?_ GE101.out | refine below_set ?_ GE116.out | refine below_set ?_ GE123.out | refine below_set ?_ GE131.out) | exact HB.out))))
            have n8_ := Aside0.mk (blk_below (g := gb101) (o := .cells #[.slice A0_0 l0_0.length c0_0, .slice A0_1 l0_1.length c0_1] 24 (0, 0)) (by (with_reducible repeat (first | refine blk_drewN ?_ _ | refine blk_drew ?_ | refine blk_alloc ?_ _)); exact BK101.out) hb)
            have n9_ := Aside0.mk (blk_below (g := gb116) (o := .cells #[.slice Ao23 t109.length co23, .slice Ao26 t112.length co26] 27 (0, 0)) (by (with_reducible repeat (first | refine blk_drewN ?_ _ | refine blk_drew ?_ | refine blk_alloc ?_ _)); exact BK116.out) hb)
            have n10_ := Aside0.mk (blk_below (g := gb123) (o := .cells #[.slice Ao30 t117.length co30, .slice Ao34 t120.length co34] 27 (0, 0)) (by (with_reducible repeat (first | refine blk_drewN ?_ _ | refine blk_drew ?_ | refine blk_alloc ?_ _)); exact BK123.out) hb)
            have n11_ := Aside0.mk (blk_below (g := gb131) (o := .cells #[.slice Ao37 t124.length co37, .slice Ao42 t127.length co42] 27 (0, 0)) (by (with_reducible repeat (first | refine blk_drewN ?_ _ | refine blk_drew ?_ | refine blk_alloc ?_ _)); exact BK131.out) hb)
            have n12_ := Aside0.mk (below_step (by repeat (first | (with_reducible first | exact HB.out | apply below_alloc | apply pw_below_drewN | apply below_drew1 | refine below_set ?_ GE101.out | refine below_set ?_ GE116.out | refine below_set ?_ GE123.out | refine below_set ?_ GE131.out) | exact HB.out)) hb)
            clear HO_117000
            clear HO_117001
            clear HO_124000
            clear HO_124001
            clear HO_132000
            clear HO_132001
            clear BK101
            clear BK116
            clear BK123
            clear BK131
            clear HB
            have HO_117000 := n0_
            have HO_117001 := n1_
            have HO_124000 := n2_
            have HO_124001 := n3_
            have HO_132000 := n4_
            have HO_132001 := n5_
            have HO135 := n6_
            have HO138 := n7_
            have BK101 := n8_
            have BK116 := n9_
            have BK123 := n10_
            have BK131 := n11_
            have HB := n12_
            clear n0_ n1_ n2_ n3_ n4_ n5_ n6_ n7_ n8_ n9_ n10_ n11_ n12_
            (try clear hb)
            (try clear hb2)
            (try clear hk)
            (try clear hi)
            (try clear ho0)
            (try clear ho1)
            obtain ⟨Ao69, co69, eo69⟩ := Kd.R_slice HO135.out
            (first | subst eo69 | (injection eo69 with f1_ f2_ f3_; have f4_ := f1_.symm; have f5_ := f3_.symm; clear f1_ f2_ f3_; subst f4_; subst f5_))
            obtain ⟨Ao70, co70, eo70⟩ := Kd.R_slice HO138.out
            (first | subst eo70 | (injection eo70 with f1_ f2_ f3_; have f4_ := f1_.symm; have f5_ := f3_.symm; clear f1_ f2_ f3_; subst f4_; subst f5_))
            refine hK.out _ _ ⟨(blk_cell BK123.out 0).trans rfl, (blk_cell BK123.out 1).trans rfl, (blk_cell BK101.out 0).trans rfl, (blk_cell BK101.out 1).trans rfl⟩ (fun hHeld => ?_)
            clear hK K
            refine norm_ (a' := ?_) ?_ ?_
            rotate_left
            · show Act.put _ (some 51) _ = _
              simp only [Act.put, List.setIfInBounds_toArray, List.set_cons_zero, List.set_cons_succ, i64_w, i32_w]
              rfl
            refine one_ (i := 3) (N := some 52) #[true, true, true, true, false] rfl rfl (by kernel_rfl) (by decide) (fun K hK => ?_)
            refine goes_ Try.func15 (by kernel_rfl) rfl #[.agg #[.slice Ao30 t117.length co30, .slice Ao34 t120.length co34], .agg #[.slice Ao69 t133.length co69, .slice Ao70 t136.length co70]] (by rfl) rfl rfl (by (try simp only [List.map_toArray, List.map_cons, List.map_nil]); first | done | rfl | (simp only [List.length_drop, List.length_take]; rfl)) ?_
            with_reducible refine (laws_eqConf.calls kj12 _ _ t117 _ _ t120 _ _ t133 _ _ t136 true _ ?side1 ?side2 ?side3 ?side4 ?side5 ?side6 ?side7 ?side8 A63.out).mono ?_
            (case side1 => repeat (first | exact (Kd.R_reads' HO_124000.out).2.2 | (with_reducible refine Kd.C_alloc ?_ _) | (with_reducible refine Kd.C_drewN ?_ _) | (with_reducible refine Kd.C_drew ?_)))
            (case side2 => exact (Kd.R_reads' HO_124000.out).2.1)
            (case side3 => repeat (first | exact (Kd.R_reads' HO_124001.out).2.2 | (with_reducible refine Kd.C_alloc ?_ _) | (with_reducible refine Kd.C_drewN ?_ _) | (with_reducible refine Kd.C_drew ?_)))
            (case side4 => exact (Kd.R_reads' HO_124001.out).2.1)
            (case side5 => repeat (first | exact (Kd.R_reads' HO135.out).2.2 | (with_reducible refine Kd.C_alloc ?_ _) | (with_reducible refine Kd.C_drewN ?_ _) | (with_reducible refine Kd.C_drew ?_)))
            (case side6 => exact (Kd.R_reads' HO135.out).2.1)
            (case side7 => repeat (first | exact (Kd.R_reads' HO138.out).2.2 | (with_reducible refine Kd.C_alloc ?_ _) | (with_reducible refine Kd.C_drewN ?_ _) | (with_reducible refine Kd.C_drew ?_)))
            (case side8 => exact (Kd.R_reads' HO138.out).2.1)
            rintro e w71 ⟨rfl, hb⟩
            refine ⟨_, rfl, ?_⟩
            have n0_ := Aside0.mk (Kd.R_below (by (with_reducible repeat (first | apply Kd.R_alloc | apply Kd.R_drewN | apply Kd.R_drew)); exact HO_117000.out) hb)
            have n1_ := Aside0.mk (Kd.R_below (by (with_reducible repeat (first | apply Kd.R_alloc | apply Kd.R_drewN | apply Kd.R_drew)); exact HO_117001.out) hb)
            have n2_ := Aside0.mk (Kd.R_below (by (with_reducible repeat (first | apply Kd.R_alloc | apply Kd.R_drewN | apply Kd.R_drew)); exact HO_124000.out) hb)
            have n3_ := Aside0.mk (Kd.R_below (by (with_reducible repeat (first | apply Kd.R_alloc | apply Kd.R_drewN | apply Kd.R_drew)); exact HO_124001.out) hb)
            have n4_ := Aside0.mk (Kd.R_below (by (with_reducible repeat (first | apply Kd.R_alloc | apply Kd.R_drewN | apply Kd.R_drew)); exact HO_132000.out) hb)
            have n5_ := Aside0.mk (Kd.R_below (by (with_reducible repeat (first | apply Kd.R_alloc | apply Kd.R_drewN | apply Kd.R_drew)); exact HO_132001.out) hb)
            have n6_ := Aside0.mk (Kd.R_below (by (with_reducible repeat (first | apply Kd.R_alloc | apply Kd.R_drewN | apply Kd.R_drew)); exact HO135.out) hb)
            have n7_ := Aside0.mk (Kd.R_below (by (with_reducible repeat (first | apply Kd.R_alloc | apply Kd.R_drewN | apply Kd.R_drew)); exact HO138.out) hb)
            have n8_ := Aside0.mk (blk_below (g := gb101) (o := .cells #[.slice A0_0 l0_0.length c0_0, .slice A0_1 l0_1.length c0_1] 24 (0, 0)) (by (with_reducible repeat (first | refine blk_drewN ?_ _ | refine blk_drew ?_ | refine blk_alloc ?_ _)); exact BK101.out) hb)
            have n9_ := Aside0.mk (blk_below (g := gb116) (o := .cells #[.slice Ao23 t109.length co23, .slice Ao26 t112.length co26] 27 (0, 0)) (by (with_reducible repeat (first | refine blk_drewN ?_ _ | refine blk_drew ?_ | refine blk_alloc ?_ _)); exact BK116.out) hb)
            have n10_ := Aside0.mk (blk_below (g := gb123) (o := .cells #[.slice Ao30 t117.length co30, .slice Ao34 t120.length co34] 27 (0, 0)) (by (with_reducible repeat (first | refine blk_drewN ?_ _ | refine blk_drew ?_ | refine blk_alloc ?_ _)); exact BK123.out) hb)
            have n11_ := Aside0.mk (blk_below (g := gb131) (o := .cells #[.slice Ao37 t124.length co37, .slice Ao42 t127.length co42] 27 (0, 0)) (by (with_reducible repeat (first | refine blk_drewN ?_ _ | refine blk_drew ?_ | refine blk_alloc ?_ _)); exact BK131.out) hb)
            have n12_ := Aside0.mk (below_step (by repeat (first | (with_reducible first | exact HB.out | apply below_alloc | apply pw_below_drewN | apply below_drew1 | refine below_set ?_ GE101.out | refine below_set ?_ GE116.out | refine below_set ?_ GE123.out | refine below_set ?_ GE131.out) | exact HB.out)) hb)
            clear HO_117000
            clear HO_117001
            clear HO_124000
            clear HO_124001
            clear HO_132000
            clear HO_132001
            clear HO135
            clear HO138
            clear BK101
            clear BK116
            clear BK123
            clear BK131
            clear HB
            have HO_117000 := n0_
            have HO_117001 := n1_
            have HO_124000 := n2_
            have HO_124001 := n3_
            have HO_132000 := n4_
            have HO_132001 := n5_
            have HO135 := n6_
            have HO138 := n7_
            have BK101 := n8_
            have BK116 := n9_
            have BK123 := n10_
            have BK131 := n11_
            have HB := n12_
            clear n0_ n1_ n2_ n3_ n4_ n5_ n6_ n7_ n8_ n9_ n10_ n11_ n12_
            (try clear hb)
            (try clear hb2)
            (try clear hk)
            (try clear hi)
            refine hK.out _ _ ⟨(blk_cell BK123.out 0).trans rfl, (blk_cell BK123.out 1).trans rfl, (blk_cell BK101.out 0).trans rfl, (blk_cell BK101.out 1).trans rfl⟩ (fun hHeld => ?_)
            clear hK K
            refine norm_ (a' := ?_) ?_ ?_
            rotate_left
            · show Act.put _ (some 52) _ = _
              simp only [Act.put, List.setIfInBounds_toArray, List.set_cons_zero, List.set_cons_succ, i64_w, i32_w]
              rfl
            refine pure_ (i := 4) (N := some 53) (v := ?_) (a' := ?_) #[true, true, true, true, true] rfl rfl (by kernel_rfl) (fun _ _ _ h => h) (Or.inl ⟨by rfl, ?_⟩) ?_ ?_
            rotate_left
            · intro w'
              go_simp
              with_reducible rfl
            rotate_left
            · simp only [Act.put, List.setIfInBounds_toArray, List.set_cons_zero, List.set_cons_succ, i64_w, i32_w]
              rfl
            refine done_ (by kernel_rfl) ?_
            have hnb72 := NB123_101.out
            have hnc72 := NB101_123.out
            have hnb73 := NB123_116.out
            have hnc73 := NB116_123.out
            have hnb74 := NB123_131.out
            have hnc74 := NB131_123.out
            have hcz75_0 : w71.cell? ⟨gb123, 0, none⟩ = some (.slice Ao30 t117.length co30) := (blk_cell BK123.out 0).trans rfl
            have hcz75_1 : w71.cell? ⟨gb123, 1, none⟩ = some (.slice Ao34 t120.length co34) := (blk_cell BK123.out 1).trans rfl
            have hfz75_0 := blk_frozen BK123.out 0
            have hfz75_1 := blk_frozen BK123.out 1
            go_upto_region 14 with (first | ((with_reducible refine gate_callee (f := 36) rfl ?_); refine goesL_ (some 56) rfl rfl Try.func36 (by kernel_rfl) rfl #[.agg #[.slice Ao30 t117.length co30, .slice Ao34 t120.length co34], .int .i64 1] rfl (by (try simp only [List.map_toArray, List.map_cons, List.map_nil]); first | done | rfl | (simp only [List.length_drop, List.length_take]; rfl)) ?_; (with_reducible refine (laws_markConf.calls kj12 (fun k_ => some k_ = (.slice Ao30 t117.length co30 : Value).ownBlock) (.slice Ao30 t117.length co30) t117 (fun k_ => some k_ = (.slice Ao34 t120.length co34 : Value).ownBlock) (.slice Ao34 t120.length co34) t120 1 t140 t141 t142 w _ ?side1 ?side2 ?side3 ?side4 ?side5 A65.out).mono ?_); (case side1 => repeat (first | (with_reducible first | exact HB.out | apply below_alloc | apply pw_below_drewN | apply below_drew1 | refine below_set ?_ GE101.out | refine below_set ?_ GE116.out | refine below_set ?_ GE123.out | refine below_set ?_ GE131.out) | exact HB.out)); (case side2 => exact Kd.R_tight rfl HO_124000.out); (case side3 => exact fun k_ e_ => (HO_124000.out.1 k_ e_.symm).1.1.2.2.1); (case side4 => exact Kd.R_tight rfl HO_124001.out); (case side5 => exact fun k_ e_ => (HO_124001.out.1 k_ e_.symm).1.1.2.2.1); rintro e w76 ⟨rfl, hy0, hy1, hb, hkp⟩; refine ⟨_, rfl, ?_⟩; have n0_ := Aside0.mk (Kd.R_mono (ok' := fun k_ => some k_ ≠ (.slice Ao26 t112.length co26 : Value).ownBlock ∧ some k_ ≠ (.slice Ao30 t117.length co30 : Value).ownBlock ∧ some k_ ≠ (.slice Ao34 t120.length co34 : Value).ownBlock ∧ some k_ ≠ (.slice Ao37 t124.length co37 : Value).ownBlock ∧ some k_ ≠ (.slice Ao42 t127.length co42 : Value).ownBlock ∧ some k_ ≠ (.slice Ao69 t133.length co69 : Value).ownBlock ∧ some k_ ≠ (.slice Ao70 t136.length co70 : Value).ownBlock) (Kd.R_keptB (HO_117000.out) hkp (fun k_ hk_ hs_ => Or.elim hs_ (fun e_ => (hk_.1.1.2.1) e_) (fun e_ => (hk_.1.1.2.2.1) e_))) (fun k_ hk_ => ⟨hk_.1.1.1.1, hk_.1.1.1.2.1, hk_.1.1.1.2.2.1, hk_.1.1.1.2.2.2.1, hk_.1.1.1.2.2.2.2, hk_.1.1.2, hk_.1.2⟩)); have n1_ := Aside0.mk (Kd.R_mono (ok' := fun k_ => some k_ ≠ (.slice Ao23 t109.length co23 : Value).ownBlock ∧ some k_ ≠ (.slice Ao30 t117.length co30 : Value).ownBlock ∧ some k_ ≠ (.slice Ao34 t120.length co34 : Value).ownBlock ∧ some k_ ≠ (.slice Ao37 t124.length co37 : Value).ownBlock ∧ some k_ ≠ (.slice Ao42 t127.length co42 : Value).ownBlock ∧ some k_ ≠ (.slice Ao69 t133.length co69 : Value).ownBlock ∧ some k_ ≠ (.slice Ao70 t136.length co70 : Value).ownBlock) (Kd.R_keptB (HO_117001.out) hkp (fun k_ hk_ hs_ => Or.elim hs_ (fun e_ => (hk_.1.1.2.1) e_) (fun e_ => (hk_.1.1.2.2.1) e_))) (fun k_ hk_ => ⟨hk_.1.1.1.1, hk_.1.1.1.2.1, hk_.1.1.1.2.2.1, hk_.1.1.1.2.2.2.1, hk_.1.1.1.2.2.2.2, hk_.1.1.2, hk_.1.2⟩)); have n2_ := Aside0.mk (Kd.R_reok rfl hy0 (fun k_ e_ => HO_124000.out.1 k_ e_)); have n3_ := Aside0.mk (Kd.R_reok rfl hy1 (fun k_ e_ => HO_124001.out.1 k_ e_)); have n4_ := Aside0.mk (Kd.R_mono (ok' := fun k_ => some k_ ≠ (.slice Ao23 t109.length co23 : Value).ownBlock ∧ some k_ ≠ (.slice Ao26 t112.length co26 : Value).ownBlock ∧ some k_ ≠ (.slice Ao30 t117.length co30 : Value).ownBlock ∧ some k_ ≠ (.slice Ao34 t120.length co34 : Value).ownBlock ∧ some k_ ≠ (.slice Ao42 t127.length co42 : Value).ownBlock ∧ some k_ ≠ (.slice Ao69 t133.length co69 : Value).ownBlock ∧ some k_ ≠ (.slice Ao70 t136.length co70 : Value).ownBlock) (Kd.R_keptB (HO_132000.out) hkp (fun k_ hk_ hs_ => Or.elim hs_ (fun e_ => (hk_.1.1.2.2.1) e_) (fun e_ => (hk_.1.1.2.2.2.1) e_))) (fun k_ hk_ => ⟨hk_.1.1.1.1, hk_.1.1.1.2.1, hk_.1.1.1.2.2.1, hk_.1.1.1.2.2.2.1, hk_.1.1.1.2.2.2.2, hk_.1.1.2, hk_.1.2⟩)); have n5_ := Aside0.mk (Kd.R_mono (ok' := fun k_ => some k_ ≠ (.slice Ao23 t109.length co23 : Value).ownBlock ∧ some k_ ≠ (.slice Ao26 t112.length co26 : Value).ownBlock ∧ some k_ ≠ (.slice Ao30 t117.length co30 : Value).ownBlock ∧ some k_ ≠ (.slice Ao34 t120.length co34 : Value).ownBlock ∧ some k_ ≠ (.slice Ao37 t124.length co37 : Value).ownBlock ∧ some k_ ≠ (.slice Ao69 t133.length co69 : Value).ownBlock ∧ some k_ ≠ (.slice Ao70 t136.length co70 : Value).ownBlock) (Kd.R_keptB (HO_132001.out) hkp (fun k_ hk_ hs_ => Or.elim hs_ (fun e_ => (hk_.1.1.2.2.1) e_) (fun e_ => (hk_.1.1.2.2.2.1) e_))) (fun k_ hk_ => ⟨hk_.1.1.1.1, hk_.1.1.1.2.1, hk_.1.1.1.2.2.1, hk_.1.1.1.2.2.2.1, hk_.1.1.1.2.2.2.2, hk_.1.1.2, hk_.1.2⟩)); have n6_ := Aside0.mk (blk_kept (by (with_reducible repeat (first | refine blk_drewN ?_ _ | refine blk_drew ?_ | refine blk_alloc ?_ _)); exact BK101.out) hkp (fun hs_ => Or.elim hs_ (fun e_ => (fun e_ => (Kd.R_ne HO_124000.out BK101.out (by decide)) e_) e_) (fun e_ => (fun e_ => (Kd.R_ne HO_124001.out BK101.out (by decide)) e_) e_))); have n7_ := Aside0.mk (blk_kept (by (with_reducible repeat (first | refine blk_drewN ?_ _ | refine blk_drew ?_ | refine blk_alloc ?_ _)); exact BK116.out) hkp (fun hs_ => Or.elim hs_ (fun e_ => (fun e_ => (Kd.R_ne HO_124000.out BK116.out (by decide)) e_) e_) (fun e_ => (fun e_ => (Kd.R_ne HO_124001.out BK116.out (by decide)) e_) e_))); have n8_ := Aside0.mk (blk_kept (by (with_reducible repeat (first | refine blk_drewN ?_ _ | refine blk_drew ?_ | refine blk_alloc ?_ _)); exact BK123.out) hkp (fun hs_ => Or.elim hs_ (fun e_ => (fun e_ => (Kd.R_ne HO_124000.out BK123.out (by decide)) e_) e_) (fun e_ => (fun e_ => (Kd.R_ne HO_124001.out BK123.out (by decide)) e_) e_))); have n9_ := Aside0.mk (blk_kept (by (with_reducible repeat (first | refine blk_drewN ?_ _ | refine blk_drew ?_ | refine blk_alloc ?_ _)); exact BK131.out) hkp (fun hs_ => Or.elim hs_ (fun e_ => (fun e_ => (Kd.R_ne HO_124000.out BK131.out (by decide)) e_) e_) (fun e_ => (fun e_ => (Kd.R_ne HO_124001.out BK131.out (by decide)) e_) e_))); have n10_ := Aside0.mk (Kd.R_mono (ok' := fun k_ => some k_ ≠ (.slice Ao23 t109.length co23 : Value).ownBlock ∧ some k_ ≠ (.slice Ao26 t112.length co26 : Value).ownBlock ∧ some k_ ≠ (.slice Ao30 t117.length co30 : Value).ownBlock ∧ some k_ ≠ (.slice Ao34 t120.length co34 : Value).ownBlock ∧ some k_ ≠ (.slice Ao37 t124.length co37 : Value).ownBlock ∧ some k_ ≠ (.slice Ao42 t127.length co42 : Value).ownBlock ∧ some k_ ≠ (.slice Ao70 t136.length co70 : Value).ownBlock) (Kd.R_keptB (HO135.out) hkp (fun k_ hk_ hs_ => Or.elim hs_ (fun e_ => (hk_.1.1.1.2) e_) (fun e_ => (hk_.1.1.2) e_))) (fun k_ hk_ => ⟨hk_.1.1.1.1.1.1.2, hk_.1.1.1.1.1.2, hk_.1.1.1.1.2, hk_.1.1.1.2, hk_.1.1.2, hk_.1.2, hk_.1.1.1.1.1.1.1⟩)); have n11_ := Aside0.mk (Kd.R_mono (ok' := fun k_ => some k_ ≠ (.slice Ao23 t109.length co23 : Value).ownBlock ∧ some k_ ≠ (.slice Ao26 t112.length co26 : Value).ownBlock ∧ some k_ ≠ (.slice Ao30 t117.length co30 : Value).ownBlock ∧ some k_ ≠ (.slice Ao34 t120.length co34 : Value).ownBlock ∧ some k_ ≠ (.slice Ao37 t124.length co37 : Value).ownBlock ∧ some k_ ≠ (.slice Ao42 t127.length co42 : Value).ownBlock ∧ some k_ ≠ (.slice Ao69 t133.length co69 : Value).ownBlock) (Kd.R_keptB (HO138.out) hkp (fun k_ hk_ hs_ => Or.elim hs_ (fun e_ => (hk_.1.1.1.2) e_) (fun e_ => (hk_.1.1.2) e_))) (fun k_ hk_ => ⟨hk_.1.1.1.1.1.1.2, hk_.1.1.1.1.1.2, hk_.1.1.1.1.2, hk_.1.1.1.2, hk_.1.1.2, hk_.1.2, hk_.1.1.1.1.1.1.1⟩)); have n12_ := Aside0.mk (hb); clear HO_117000; clear HO_117001; clear HO_124000; clear HO_124001; clear HO_132000; clear HO_132001; clear BK101; clear BK116; clear BK123; clear BK131; clear HO135; clear HO138; clear HB; have HO_117000 := n0_; have HO_117001 := n1_; have HO_124000 := n2_; have HO_124001 := n3_; have HO_132000 := n4_; have HO_132001 := n5_; have BK101 := n6_; have BK116 := n7_; have BK123 := n8_; have BK131 := n9_; have HO135 := n10_; have HO138 := n11_; have HB := n12_; clear n0_ n1_ n2_ n3_ n4_ n5_ n6_ n7_ n8_ n9_ n10_ n11_ n12_; (try clear hb); (try clear hkp); (try clear hy0); (try clear hy1)))
            (try simp only [Act.put, List.setIfInBounds_toArray, List.set_cons_zero, List.set_cons_succ])
            go_cut [69] (fun v69 wc => ∃ (kq : Nat) (x69_65 : Bool), v69 = .bool x69_65 ∧ Aside0 (laws_FnExactChanged.j1 kq a1 a2 t115 x69_65 l0_0 l0_1 t109 t112 t124 t127 = some true) ∧ Aside0 (kq ≤ kj12) ∧ Aside0 (Kd.R (Kd.int .i64) 2 wc w.heap.size (fun k_ => some k_ ≠ ((.slice Ao26 t112.length co26) : Value).ownBlock ∧ some k_ ≠ ((.slice Ao30 t117.length co30) : Value).ownBlock ∧ some k_ ≠ ((.slice Ao34 t120.length co34) : Value).ownBlock ∧ some k_ ≠ ((.slice Ao37 t124.length co37) : Value).ownBlock ∧ some k_ ≠ ((.slice Ao42 t127.length co42) : Value).ownBlock) (.slice Ao23 t109.length co23) t109) ∧ Aside0 (Kd.R (Kd.int .i64) 2 wc w.heap.size (fun k_ => some k_ ≠ ((.slice Ao23 t109.length co23) : Value).ownBlock ∧ some k_ ≠ ((.slice Ao30 t117.length co30) : Value).ownBlock ∧ some k_ ≠ ((.slice Ao34 t120.length co34) : Value).ownBlock ∧ some k_ ≠ ((.slice Ao37 t124.length co37) : Value).ownBlock ∧ some k_ ≠ ((.slice Ao42 t127.length co42) : Value).ownBlock) (.slice Ao26 t112.length co26) t112) ∧ Aside0 (Kd.R (Kd.int .i64) 2 wc w.heap.size (fun k_ => some k_ ≠ ((.slice Ao23 t109.length co23) : Value).ownBlock ∧ some k_ ≠ ((.slice Ao26 t112.length co26) : Value).ownBlock ∧ some k_ ≠ ((.slice Ao34 t120.length co34) : Value).ownBlock ∧ some k_ ≠ ((.slice Ao37 t124.length co37) : Value).ownBlock ∧ some k_ ≠ ((.slice Ao42 t127.length co42) : Value).ownBlock) (.slice Ao30 t117.length co30) t141) ∧ Aside0 (Kd.R (Kd.int .i64) 2 wc w.heap.size (fun k_ => some k_ ≠ ((.slice Ao23 t109.length co23) : Value).ownBlock ∧ some k_ ≠ ((.slice Ao26 t112.length co26) : Value).ownBlock ∧ some k_ ≠ ((.slice Ao30 t117.length co30) : Value).ownBlock ∧ some k_ ≠ ((.slice Ao37 t124.length co37) : Value).ownBlock ∧ some k_ ≠ ((.slice Ao42 t127.length co42) : Value).ownBlock) (.slice Ao34 t120.length co34) t142) ∧ Aside0 (Kd.R (Kd.int .i64) 2 wc w.heap.size (fun k_ => some k_ ≠ ((.slice Ao23 t109.length co23) : Value).ownBlock ∧ some k_ ≠ ((.slice Ao26 t112.length co26) : Value).ownBlock ∧ some k_ ≠ ((.slice Ao30 t117.length co30) : Value).ownBlock ∧ some k_ ≠ ((.slice Ao34 t120.length co34) : Value).ownBlock ∧ some k_ ≠ ((.slice Ao42 t127.length co42) : Value).ownBlock) (.slice Ao37 t124.length co37) t124) ∧ Aside0 (Kd.R (Kd.int .i64) 2 wc w.heap.size (fun k_ => some k_ ≠ ((.slice Ao23 t109.length co23) : Value).ownBlock ∧ some k_ ≠ ((.slice Ao26 t112.length co26) : Value).ownBlock ∧ some k_ ≠ ((.slice Ao30 t117.length co30) : Value).ownBlock ∧ some k_ ≠ ((.slice Ao34 t120.length co34) : Value).ownBlock ∧ some k_ ≠ ((.slice Ao37 t124.length co37) : Value).ownBlock) (.slice Ao42 t127.length co42) t127) ∧ Aside0 (wc.heap[gb101]? = some (.cells #[(.slice A0_0 l0_0.length c0_0), (.slice A0_1 l0_1.length c0_1)] 24 (0, 0))) ∧ Aside0 (wc.heap[gb116]? = some (.cells #[(.slice Ao23 t109.length co23), (.slice Ao26 t112.length co26)] 27 (0, 0))) ∧ Aside0 (wc.heap[gb123]? = some (.cells #[(.slice Ao30 t117.length co30), (.slice Ao34 t120.length co34)] 27 (0, 0))) ∧ Aside0 (wc.heap[gb131]? = some (.cells #[(.slice Ao37 t124.length co37), (.slice Ao42 t127.length co42)] 27 (0, 0))) ∧ Aside0 (Below w.heap.size w wc))
            case first =>
              have H := HC66.out
              clear HC66
              by_cases c77 : t140 < 0
              · rw [if_pos c77] at H
                have c77b0 : decide (t140 < 0) = true := decide_eq_true c77
                clear c77
                (first | rw [c77b0] | (simp only [i64_w, i32_w]; rw [c77b0]) | skip)
                have H' := Aside0.mk H
                clear H
                go_wp2
                go_meet
                case rel => exact ⟨_, (true), (by first | rfl | (simp; done) | (simp [*]; done)), H', ⟨by have := HJ12.out; first | omega | exact Nat.le_refl _⟩, ⟨by (with_reducible repeat (first | apply Kd.R_alloc | apply Kd.R_drewN | apply Kd.R_drew)); exact Kd.R_mono HO_117000.out (fun _ hk => ⟨hk.1, ⟨hk.2.1, ⟨hk.2.2.1, ⟨hk.2.2.2.1, hk.2.2.2.2.1⟩⟩⟩⟩)⟩, ⟨by (with_reducible repeat (first | apply Kd.R_alloc | apply Kd.R_drewN | apply Kd.R_drew)); exact Kd.R_mono HO_117001.out (fun _ hk => ⟨hk.1, ⟨hk.2.1, ⟨hk.2.2.1, ⟨hk.2.2.2.1, hk.2.2.2.2.1⟩⟩⟩⟩)⟩, ⟨by (with_reducible repeat (first | apply Kd.R_alloc | apply Kd.R_drewN | apply Kd.R_drew)); exact Kd.R_mono HO_124000.out (fun _ hk => ⟨hk.1.1.1, ⟨hk.1.1.2.1, ⟨hk.1.1.2.2.1, ⟨hk.1.1.2.2.2.1, hk.1.1.2.2.2.2⟩⟩⟩⟩)⟩, ⟨by (with_reducible repeat (first | apply Kd.R_alloc | apply Kd.R_drewN | apply Kd.R_drew)); exact Kd.R_mono HO_124001.out (fun _ hk => ⟨hk.1.1.1, ⟨hk.1.1.2.1, ⟨hk.1.1.2.2.1, ⟨hk.1.1.2.2.2.1, hk.1.1.2.2.2.2⟩⟩⟩⟩)⟩, ⟨by (with_reducible repeat (first | apply Kd.R_alloc | apply Kd.R_drewN | apply Kd.R_drew)); exact Kd.R_mono HO_132000.out (fun _ hk => ⟨hk.1, ⟨hk.2.1, ⟨hk.2.2.1, ⟨hk.2.2.2.1, hk.2.2.2.2.1⟩⟩⟩⟩)⟩, ⟨by (with_reducible repeat (first | apply Kd.R_alloc | apply Kd.R_drewN | apply Kd.R_drew)); exact Kd.R_mono HO_132001.out (fun _ hk => ⟨hk.1, ⟨hk.2.1, ⟨hk.2.2.1, ⟨hk.2.2.2.1, hk.2.2.2.2.1⟩⟩⟩⟩)⟩, ⟨by (with_reducible repeat (first | refine blk_drewN ?_ _ | refine blk_drew ?_ | refine blk_alloc ?_ _)); exact BK101.out⟩, ⟨by (with_reducible repeat (first | refine blk_drewN ?_ _ | refine blk_drew ?_ | refine blk_alloc ?_ _)); exact BK116.out⟩, ⟨by (with_reducible repeat (first | refine blk_drewN ?_ _ | refine blk_drew ?_ | refine blk_alloc ?_ _)); exact BK123.out⟩, ⟨by (with_reducible repeat (first | refine blk_drewN ?_ _ | refine blk_drew ?_ | refine blk_alloc ?_ _)); exact BK131.out⟩, ⟨by repeat (first | (with_reducible first | exact HB.out | apply below_alloc | apply pw_below_drewN | apply below_drew1 | refine below_set ?_ GE101.out | refine below_set ?_ GE116.out | refine below_set ?_ GE123.out | refine below_set ?_ GE131.out) | exact HB.out)⟩⟩
              · rw [if_neg c77] at H
                have c77b0 : decide (t140 < 0) = false := decide_eq_false c77
                clear c77
                (first | rw [c77b0] | (simp only [i64_w, i32_w]; rw [c77b0]) | skip)
                replace H := Option.bind_eq_some_iff.mp H
                obtain ⟨t143, A780, H⟩ := H
                replace H : (if t143 = true then (laws_FnExactChanged.j1 kj12 a1 a2 t115 (t130 != t115) l0_0 l0_1 t109 t112 t124 t127) else (laws_FnExactChanged.j1 kj12 a1 a2 t115 true l0_0 l0_1 t109 t112 t124 t127)) = some true := H
                have A78 := Aside0.mk A780
                clear A780
                by_cases c79 : t143 = true
                · subst c79
                  have H1 : (laws_FnExactChanged.j1 kj12 a1 a2 t115 (t130 != t115) l0_0 l0_1 t109 t112 t124 t127) = some true := by first | (with_reducible rfl) | (rw [if_pos rfl] at H; exact H)
                  clear H
                  have H := H1
                  clear H1
                  have H' := Aside0.mk H
                  clear H
                  have hnb80 := NB131_101.out
                  have hnc80 := NB101_131.out
                  have hnb81 := NB131_116.out
                  have hnc81 := NB116_131.out
                  have hnb82 := NB131_123.out
                  have hnc82 := NB123_131.out
                  have hcz83_0 : w76.cell? ⟨gb131, 0, none⟩ = some (.slice Ao37 t124.length co37) := (blk_cell BK131.out 0).trans rfl
                  have hcz83_1 : w76.cell? ⟨gb131, 1, none⟩ = some (.slice Ao42 t127.length co42) := (blk_cell BK131.out 1).trans rfl
                  have hfz83_0 := blk_frozen BK131.out 0
                  have hfz83_1 := blk_frozen BK131.out 1
                  have hnb84 := NB116_101.out
                  have hnc84 := NB101_116.out
                  have hnb85 := NB116_123.out
                  have hnc85 := NB123_116.out
                  have hcz86_0 : w76.cell? ⟨gb116, 0, none⟩ = some (.slice Ao23 t109.length co23) := (blk_cell BK116.out 0).trans rfl
                  have hcz86_1 : w76.cell? ⟨gb116, 1, none⟩ = some (.slice Ao26 t112.length co26) := (blk_cell BK116.out 1).trans rfl
                  have hfz86_0 := blk_frozen BK116.out 0
                  have hfz86_1 := blk_frozen BK116.out 1
                  go_wp2_with (first | (go_at_call 15; (with_reducible refine (laws_eqConf.calls kj12 _ _ t124 _ _ t127 _ _ t109 _ _ t112 true _ ?side1 ?side2 ?side3 ?side4 ?side5 ?side6 ?side7 ?side8 A78.out).mono ?_); (case side1 => repeat (first | exact (Kd.R_reads' HO_132000.out).2.2 | (with_reducible refine Kd.C_alloc ?_ _) | (with_reducible refine Kd.C_drewN ?_ _) | (with_reducible refine Kd.C_drew ?_))); (case side2 => exact (Kd.R_reads' HO_132000.out).2.1); (case side3 => repeat (first | exact (Kd.R_reads' HO_132001.out).2.2 | (with_reducible refine Kd.C_alloc ?_ _) | (with_reducible refine Kd.C_drewN ?_ _) | (with_reducible refine Kd.C_drew ?_))); (case side4 => exact (Kd.R_reads' HO_132001.out).2.1); (case side5 => repeat (first | exact (Kd.R_reads' HO_117000.out).2.2 | (with_reducible refine Kd.C_alloc ?_ _) | (with_reducible refine Kd.C_drewN ?_ _) | (with_reducible refine Kd.C_drew ?_))); (case side6 => exact (Kd.R_reads' HO_117000.out).2.1); (case side7 => repeat (first | exact (Kd.R_reads' HO_117001.out).2.2 | (with_reducible refine Kd.C_alloc ?_ _) | (with_reducible refine Kd.C_drewN ?_ _) | (with_reducible refine Kd.C_drew ?_))); (case side8 => exact (Kd.R_reads' HO_117001.out).2.1); rintro e w87 ⟨rfl, hb⟩; have n0_ := Aside0.mk (Kd.R_below (by (with_reducible repeat (first | apply Kd.R_alloc | apply Kd.R_drewN | apply Kd.R_drew)); exact HO_117000.out) hb); have n1_ := Aside0.mk (Kd.R_below (by (with_reducible repeat (first | apply Kd.R_alloc | apply Kd.R_drewN | apply Kd.R_drew)); exact HO_117001.out) hb); have n2_ := Aside0.mk (Kd.R_below (by (with_reducible repeat (first | apply Kd.R_alloc | apply Kd.R_drewN | apply Kd.R_drew)); exact HO_124000.out) hb); have n3_ := Aside0.mk (Kd.R_below (by (with_reducible repeat (first | apply Kd.R_alloc | apply Kd.R_drewN | apply Kd.R_drew)); exact HO_124001.out) hb); have n4_ := Aside0.mk (Kd.R_below (by (with_reducible repeat (first | apply Kd.R_alloc | apply Kd.R_drewN | apply Kd.R_drew)); exact HO_132000.out) hb); have n5_ := Aside0.mk (Kd.R_below (by (with_reducible repeat (first | apply Kd.R_alloc | apply Kd.R_drewN | apply Kd.R_drew)); exact HO_132001.out) hb); have n6_ := Aside0.mk (Kd.R_below (by (with_reducible repeat (first | apply Kd.R_alloc | apply Kd.R_drewN | apply Kd.R_drew)); exact HO135.out) hb); have n7_ := Aside0.mk (Kd.R_below (by (with_reducible repeat (first | apply Kd.R_alloc | apply Kd.R_drewN | apply Kd.R_drew)); exact HO138.out) hb); have n8_ := Aside0.mk (blk_below (g := gb101) (o := .cells #[.slice A0_0 l0_0.length c0_0, .slice A0_1 l0_1.length c0_1] 24 (0, 0)) (by (with_reducible repeat (first | refine blk_drewN ?_ _ | refine blk_drew ?_ | refine blk_alloc ?_ _)); exact BK101.out) hb); have n9_ := Aside0.mk (blk_below (g := gb116) (o := .cells #[.slice Ao23 t109.length co23, .slice Ao26 t112.length co26] 27 (0, 0)) (by (with_reducible repeat (first | refine blk_drewN ?_ _ | refine blk_drew ?_ | refine blk_alloc ?_ _)); exact BK116.out) hb); have n10_ := Aside0.mk (blk_below (g := gb123) (o := .cells #[.slice Ao30 t117.length co30, .slice Ao34 t120.length co34] 27 (0, 0)) (by (with_reducible repeat (first | refine blk_drewN ?_ _ | refine blk_drew ?_ | refine blk_alloc ?_ _)); exact BK123.out) hb); have n11_ := Aside0.mk (blk_below (g := gb131) (o := .cells #[.slice Ao37 t124.length co37, .slice Ao42 t127.length co42] 27 (0, 0)) (by (with_reducible repeat (first | refine blk_drewN ?_ _ | refine blk_drew ?_ | refine blk_alloc ?_ _)); exact BK131.out) hb); have n12_ := Aside0.mk (below_step (by repeat (first | (with_reducible first | exact HB.out | apply below_alloc | apply pw_below_drewN | apply below_drew1 | refine below_set ?_ GE101.out | refine below_set ?_ GE116.out | refine below_set ?_ GE123.out | refine below_set ?_ GE131.out) | exact HB.out)) hb); clear HO_117000; clear HO_117001; clear HO_124000; clear HO_124001; clear HO_132000; clear HO_132001; clear HO135; clear HO138; clear BK101; clear BK116; clear BK123; clear BK131; clear HB; have HO_117000 := n0_; have HO_117001 := n1_; have HO_124000 := n2_; have HO_124001 := n3_; have HO_132000 := n4_; have HO_132001 := n5_; have HO135 := n6_; have HO138 := n7_; have BK101 := n8_; have BK116 := n9_; have BK123 := n10_; have BK131 := n11_; have HB := n12_; clear n0_ n1_ n2_ n3_ n4_ n5_ n6_ n7_ n8_ n9_ n10_ n11_ n12_; (try clear hb); (try clear hb2); (try clear hk); (try clear hi)))
                  go_meet
                  case rel => exact ⟨_, ((t130 != t115)), (by first | rfl | (simp; done) | (simp [*]; done)), H', ⟨by have := HJ12.out; first | omega | exact Nat.le_refl _⟩, ⟨by (with_reducible repeat (first | apply Kd.R_alloc | apply Kd.R_drewN | apply Kd.R_drew)); exact Kd.R_mono HO_117000.out (fun _ hk => ⟨hk.1, ⟨hk.2.1, ⟨hk.2.2.1, ⟨hk.2.2.2.1, hk.2.2.2.2.1⟩⟩⟩⟩)⟩, ⟨by (with_reducible repeat (first | apply Kd.R_alloc | apply Kd.R_drewN | apply Kd.R_drew)); exact Kd.R_mono HO_117001.out (fun _ hk => ⟨hk.1, ⟨hk.2.1, ⟨hk.2.2.1, ⟨hk.2.2.2.1, hk.2.2.2.2.1⟩⟩⟩⟩)⟩, ⟨by (with_reducible repeat (first | apply Kd.R_alloc | apply Kd.R_drewN | apply Kd.R_drew)); exact Kd.R_mono HO_124000.out (fun _ hk => ⟨hk.1.1.1, ⟨hk.1.1.2.1, ⟨hk.1.1.2.2.1, ⟨hk.1.1.2.2.2.1, hk.1.1.2.2.2.2⟩⟩⟩⟩)⟩, ⟨by (with_reducible repeat (first | apply Kd.R_alloc | apply Kd.R_drewN | apply Kd.R_drew)); exact Kd.R_mono HO_124001.out (fun _ hk => ⟨hk.1.1.1, ⟨hk.1.1.2.1, ⟨hk.1.1.2.2.1, ⟨hk.1.1.2.2.2.1, hk.1.1.2.2.2.2⟩⟩⟩⟩)⟩, ⟨by (with_reducible repeat (first | apply Kd.R_alloc | apply Kd.R_drewN | apply Kd.R_drew)); exact Kd.R_mono HO_132000.out (fun _ hk => ⟨hk.1, ⟨hk.2.1, ⟨hk.2.2.1, ⟨hk.2.2.2.1, hk.2.2.2.2.1⟩⟩⟩⟩)⟩, ⟨by (with_reducible repeat (first | apply Kd.R_alloc | apply Kd.R_drewN | apply Kd.R_drew)); exact Kd.R_mono HO_132001.out (fun _ hk => ⟨hk.1, ⟨hk.2.1, ⟨hk.2.2.1, ⟨hk.2.2.2.1, hk.2.2.2.2.1⟩⟩⟩⟩)⟩, ⟨by (with_reducible repeat (first | refine blk_drewN ?_ _ | refine blk_drew ?_ | refine blk_alloc ?_ _)); exact BK101.out⟩, ⟨by (with_reducible repeat (first | refine blk_drewN ?_ _ | refine blk_drew ?_ | refine blk_alloc ?_ _)); exact BK116.out⟩, ⟨by (with_reducible repeat (first | refine blk_drewN ?_ _ | refine blk_drew ?_ | refine blk_alloc ?_ _)); exact BK123.out⟩, ⟨by (with_reducible repeat (first | refine blk_drewN ?_ _ | refine blk_drew ?_ | refine blk_alloc ?_ _)); exact BK131.out⟩, ⟨by repeat (first | (with_reducible first | exact HB.out | apply below_alloc | apply pw_below_drewN | apply below_drew1 | refine below_set ?_ GE101.out | refine below_set ?_ GE116.out | refine below_set ?_ GE123.out | refine below_set ?_ GE131.out) | exact HB.out)⟩⟩
                · replace c79 := Bool.eq_false_iff.mpr c79
                  subst c79
                  have H1 : (laws_FnExactChanged.j1 kj12 a1 a2 t115 true l0_0 l0_1 t109 t112 t124 t127) = some true := by rw [if_neg (show ¬ (false = true) by decide)] at H; exact H
                  clear H
                  have H := H1
                  clear H1
                  have H' := Aside0.mk H
                  clear H
                  have hnb88 := NB131_101.out
                  have hnc88 := NB101_131.out
                  have hnb89 := NB131_116.out
                  have hnc89 := NB116_131.out
                  have hnb90 := NB131_123.out
                  have hnc90 := NB123_131.out
                  have hcz91_0 : w76.cell? ⟨gb131, 0, none⟩ = some (.slice Ao37 t124.length co37) := (blk_cell BK131.out 0).trans rfl
                  have hcz91_1 : w76.cell? ⟨gb131, 1, none⟩ = some (.slice Ao42 t127.length co42) := (blk_cell BK131.out 1).trans rfl
                  have hfz91_0 := blk_frozen BK131.out 0
                  have hfz91_1 := blk_frozen BK131.out 1
                  have hnb92 := NB116_101.out
                  have hnc92 := NB101_116.out
                  have hnb93 := NB116_123.out
                  have hnc93 := NB123_116.out
                  have hcz94_0 : w76.cell? ⟨gb116, 0, none⟩ = some (.slice Ao23 t109.length co23) := (blk_cell BK116.out 0).trans rfl
                  have hcz94_1 : w76.cell? ⟨gb116, 1, none⟩ = some (.slice Ao26 t112.length co26) := (blk_cell BK116.out 1).trans rfl
                  have hfz94_0 := blk_frozen BK116.out 0
                  have hfz94_1 := blk_frozen BK116.out 1
                  go_wp2_with (first | (go_at_call 15; (with_reducible refine (laws_eqConf.calls kj12 _ _ t124 _ _ t127 _ _ t109 _ _ t112 false _ ?side1 ?side2 ?side3 ?side4 ?side5 ?side6 ?side7 ?side8 A78.out).mono ?_); (case side1 => repeat (first | exact (Kd.R_reads' HO_132000.out).2.2 | (with_reducible refine Kd.C_alloc ?_ _) | (with_reducible refine Kd.C_drewN ?_ _) | (with_reducible refine Kd.C_drew ?_))); (case side2 => exact (Kd.R_reads' HO_132000.out).2.1); (case side3 => repeat (first | exact (Kd.R_reads' HO_132001.out).2.2 | (with_reducible refine Kd.C_alloc ?_ _) | (with_reducible refine Kd.C_drewN ?_ _) | (with_reducible refine Kd.C_drew ?_))); (case side4 => exact (Kd.R_reads' HO_132001.out).2.1); (case side5 => repeat (first | exact (Kd.R_reads' HO_117000.out).2.2 | (with_reducible refine Kd.C_alloc ?_ _) | (with_reducible refine Kd.C_drewN ?_ _) | (with_reducible refine Kd.C_drew ?_))); (case side6 => exact (Kd.R_reads' HO_117000.out).2.1); (case side7 => repeat (first | exact (Kd.R_reads' HO_117001.out).2.2 | (with_reducible refine Kd.C_alloc ?_ _) | (with_reducible refine Kd.C_drewN ?_ _) | (with_reducible refine Kd.C_drew ?_))); (case side8 => exact (Kd.R_reads' HO_117001.out).2.1); rintro e w95 ⟨rfl, hb⟩; have n0_ := Aside0.mk (Kd.R_below (by (with_reducible repeat (first | apply Kd.R_alloc | apply Kd.R_drewN | apply Kd.R_drew)); exact HO_117000.out) hb); have n1_ := Aside0.mk (Kd.R_below (by (with_reducible repeat (first | apply Kd.R_alloc | apply Kd.R_drewN | apply Kd.R_drew)); exact HO_117001.out) hb); have n2_ := Aside0.mk (Kd.R_below (by (with_reducible repeat (first | apply Kd.R_alloc | apply Kd.R_drewN | apply Kd.R_drew)); exact HO_124000.out) hb); have n3_ := Aside0.mk (Kd.R_below (by (with_reducible repeat (first | apply Kd.R_alloc | apply Kd.R_drewN | apply Kd.R_drew)); exact HO_124001.out) hb); have n4_ := Aside0.mk (Kd.R_below (by (with_reducible repeat (first | apply Kd.R_alloc | apply Kd.R_drewN | apply Kd.R_drew)); exact HO_132000.out) hb); have n5_ := Aside0.mk (Kd.R_below (by (with_reducible repeat (first | apply Kd.R_alloc | apply Kd.R_drewN | apply Kd.R_drew)); exact HO_132001.out) hb); have n6_ := Aside0.mk (Kd.R_below (by (with_reducible repeat (first | apply Kd.R_alloc | apply Kd.R_drewN | apply Kd.R_drew)); exact HO135.out) hb); have n7_ := Aside0.mk (Kd.R_below (by (with_reducible repeat (first | apply Kd.R_alloc | apply Kd.R_drewN | apply Kd.R_drew)); exact HO138.out) hb); have n8_ := Aside0.mk (blk_below (g := gb101) (o := .cells #[.slice A0_0 l0_0.length c0_0, .slice A0_1 l0_1.length c0_1] 24 (0, 0)) (by (with_reducible repeat (first | refine blk_drewN ?_ _ | refine blk_drew ?_ | refine blk_alloc ?_ _)); exact BK101.out) hb); have n9_ := Aside0.mk (blk_below (g := gb116) (o := .cells #[.slice Ao23 t109.length co23, .slice Ao26 t112.length co26] 27 (0, 0)) (by (with_reducible repeat (first | refine blk_drewN ?_ _ | refine blk_drew ?_ | refine blk_alloc ?_ _)); exact BK116.out) hb); have n10_ := Aside0.mk (blk_below (g := gb123) (o := .cells #[.slice Ao30 t117.length co30, .slice Ao34 t120.length co34] 27 (0, 0)) (by (with_reducible repeat (first | refine blk_drewN ?_ _ | refine blk_drew ?_ | refine blk_alloc ?_ _)); exact BK123.out) hb); have n11_ := Aside0.mk (blk_below (g := gb131) (o := .cells #[.slice Ao37 t124.length co37, .slice Ao42 t127.length co42] 27 (0, 0)) (by (with_reducible repeat (first | refine blk_drewN ?_ _ | refine blk_drew ?_ | refine blk_alloc ?_ _)); exact BK131.out) hb); have n12_ := Aside0.mk (below_step (by repeat (first | (with_reducible first | exact HB.out | apply below_alloc | apply pw_below_drewN | apply below_drew1 | refine below_set ?_ GE101.out | refine below_set ?_ GE116.out | refine below_set ?_ GE123.out | refine below_set ?_ GE131.out) | exact HB.out)) hb); clear HO_117000; clear HO_117001; clear HO_124000; clear HO_124001; clear HO_132000; clear HO_132001; clear HO135; clear HO138; clear BK101; clear BK116; clear BK123; clear BK131; clear HB; have HO_117000 := n0_; have HO_117001 := n1_; have HO_124000 := n2_; have HO_124001 := n3_; have HO_132000 := n4_; have HO_132001 := n5_; have HO135 := n6_; have HO138 := n7_; have BK101 := n8_; have BK116 := n9_; have BK123 := n10_; have BK131 := n11_; have HB := n12_; clear n0_ n1_ n2_ n3_ n4_ n5_ n6_ n7_ n8_ n9_ n10_ n11_ n12_; (try clear hb); (try clear hb2); (try clear hk); (try clear hi)))
                  go_meet
                  case rel => exact ⟨_, (true), (by first | rfl | (simp; done) | (simp [*]; done)), H', ⟨by have := HJ12.out; first | omega | exact Nat.le_refl _⟩, ⟨by (with_reducible repeat (first | apply Kd.R_alloc | apply Kd.R_drewN | apply Kd.R_drew)); exact Kd.R_mono HO_117000.out (fun _ hk => ⟨hk.1, ⟨hk.2.1, ⟨hk.2.2.1, ⟨hk.2.2.2.1, hk.2.2.2.2.1⟩⟩⟩⟩)⟩, ⟨by (with_reducible repeat (first | apply Kd.R_alloc | apply Kd.R_drewN | apply Kd.R_drew)); exact Kd.R_mono HO_117001.out (fun _ hk => ⟨hk.1, ⟨hk.2.1, ⟨hk.2.2.1, ⟨hk.2.2.2.1, hk.2.2.2.2.1⟩⟩⟩⟩)⟩, ⟨by (with_reducible repeat (first | apply Kd.R_alloc | apply Kd.R_drewN | apply Kd.R_drew)); exact Kd.R_mono HO_124000.out (fun _ hk => ⟨hk.1.1.1, ⟨hk.1.1.2.1, ⟨hk.1.1.2.2.1, ⟨hk.1.1.2.2.2.1, hk.1.1.2.2.2.2⟩⟩⟩⟩)⟩, ⟨by (with_reducible repeat (first | apply Kd.R_alloc | apply Kd.R_drewN | apply Kd.R_drew)); exact Kd.R_mono HO_124001.out (fun _ hk => ⟨hk.1.1.1, ⟨hk.1.1.2.1, ⟨hk.1.1.2.2.1, ⟨hk.1.1.2.2.2.1, hk.1.1.2.2.2.2⟩⟩⟩⟩)⟩, ⟨by (with_reducible repeat (first | apply Kd.R_alloc | apply Kd.R_drewN | apply Kd.R_drew)); exact Kd.R_mono HO_132000.out (fun _ hk => ⟨hk.1, ⟨hk.2.1, ⟨hk.2.2.1, ⟨hk.2.2.2.1, hk.2.2.2.2.1⟩⟩⟩⟩)⟩, ⟨by (with_reducible repeat (first | apply Kd.R_alloc | apply Kd.R_drewN | apply Kd.R_drew)); exact Kd.R_mono HO_132001.out (fun _ hk => ⟨hk.1, ⟨hk.2.1, ⟨hk.2.2.1, ⟨hk.2.2.2.1, hk.2.2.2.2.1⟩⟩⟩⟩)⟩, ⟨by (with_reducible repeat (first | refine blk_drewN ?_ _ | refine blk_drew ?_ | refine blk_alloc ?_ _)); exact BK101.out⟩, ⟨by (with_reducible repeat (first | refine blk_drewN ?_ _ | refine blk_drew ?_ | refine blk_alloc ?_ _)); exact BK116.out⟩, ⟨by (with_reducible repeat (first | refine blk_drewN ?_ _ | refine blk_drew ?_ | refine blk_alloc ?_ _)); exact BK123.out⟩, ⟨by (with_reducible repeat (first | refine blk_drewN ?_ _ | refine blk_drew ?_ | refine blk_alloc ?_ _)); exact BK131.out⟩, ⟨by repeat (first | (with_reducible first | exact HB.out | apply below_alloc | apply pw_below_drewN | apply below_drew1 | refine below_set ?_ GE101.out | refine below_set ?_ GE116.out | refine below_set ?_ GE123.out | refine below_set ?_ GE131.out) | exact HB.out)⟩⟩
            case rest =>
              clear HC66
              try clear c1
              try clear c2
              try clear p2
              try clear c3
              try clear c4
              try clear c5
              try clear c5b0
              try clear c6
              try clear c7
              try clear c8
              try clear c9
              try clear c11
              try clear c13
              try clear c15
              try clear c24
              try clear c31
              try clear c32
              try clear c34
              try clear c35
              try clear c36
              try clear c38
              try clear c39
              try clear c40
              try clear c44
              try clear c45
              try clear c46
              try clear c47
              try clear c49
              try clear c50
              try clear c53
              try clear c54
              try clear c55
              try clear c57
              try clear c58
              try clear c61
              try clear c64
              try clear c72
              try clear c73
              try clear c74
              try clear c77
              try clear c77b0
              try clear c79
              try clear c80
              try clear c81
              try clear c82
              try clear c84
              try clear c85
              try clear c88
              try clear c89
              try clear c90
              try clear c92
              try clear c93
              try clear hcz15_0
              try clear hcz15_1
              try clear hcz17_0
              try clear hcz17_1
              try clear hcz25_0
              try clear hcz25_1
              try clear hcz27_0
              try clear hcz27_1
              try clear hcz33_0
              try clear hcz33_1
              try clear hcz41_0
              try clear hcz41_1
              try clear hcz48_0
              try clear hcz48_1
              try clear hcz51_0
              try clear hcz51_1
              try clear hcz56_0
              try clear hcz56_1
              try clear hcz59_0
              try clear hcz59_1
              try clear hcz75_0
              try clear hcz75_1
              try clear hcz7_0
              try clear hcz7_1
              try clear hcz83_0
              try clear hcz83_1
              try clear hcz86_0
              try clear hcz86_1
              try clear hcz91_0
              try clear hcz91_1
              try clear hcz94_0
              try clear hcz94_1
              try clear hfz15_0
              try clear hfz15_1
              try clear hfz17_0
              try clear hfz17_1
              try clear hfz25_0
              try clear hfz25_1
              try clear hfz27_0
              try clear hfz27_1
              try clear hfz33_0
              try clear hfz33_1
              try clear hfz41_0
              try clear hfz41_1
              try clear hfz48_0
              try clear hfz48_1
              try clear hfz51_0
              try clear hfz51_1
              try clear hfz56_0
              try clear hfz56_1
              try clear hfz59_0
              try clear hfz59_1
              try clear hfz75_0
              try clear hfz75_1
              try clear hfz7_0
              try clear hfz7_1
              try clear hfz83_0
              try clear hfz83_1
              try clear hfz86_0
              try clear hfz86_1
              try clear hfz91_0
              try clear hfz91_1
              try clear hfz94_0
              try clear hfz94_1
              try clear p2
              obtain ⟨kq, x69_65, rfl, HA, HJ65, HO_117000, HO_117001, HO_124000, HO_124001, HO_132000, HO_132001, BK101, BK116, BK123, BK131, HB⟩ := hcut
              have hl124000_65 := (Kd.R_reads' HO_124000.out).1
              rw [hl124000_65] at HO_124000
              (try simp only [hl124000_65])
              (try simp only [hl124000_65] at BK101)
              (try simp only [hl124000_65] at BK116)
              (try simp only [hl124000_65] at BK123)
              (try simp only [hl124000_65] at BK131)
              (try simp only [hl124000_65] at HO_117000)
              (try simp only [hl124000_65] at HO_117001)
              (try simp only [hl124000_65] at HO_124001)
              (try simp only [hl124000_65] at HO_132000)
              (try simp only [hl124000_65] at HO_132001)
              have hl124001_65 := (Kd.R_reads' HO_124001.out).1
              rw [hl124001_65] at HO_124001
              (try simp only [hl124001_65])
              (try simp only [hl124001_65] at BK101)
              (try simp only [hl124001_65] at BK116)
              (try simp only [hl124001_65] at BK123)
              (try simp only [hl124001_65] at BK131)
              (try simp only [hl124001_65] at HO_117000)
              (try simp only [hl124001_65] at HO_117001)
              (try simp only [hl124001_65] at HO_124000)
              (try simp only [hl124001_65] at HO_132000)
              (try simp only [hl124001_65] at HO_132001)
              cases kq with
              | zero => exact absurd HA.out (by simp [laws_FnExactChanged.j1])
              | succ kj65 =>
                have H := HA.out
                clear HA
                simp only [laws_FnExactChanged.j1] at H
                by_cases c96 : x69_65 = true
                · subst c96
                  have H1 : (some false) = some true := by first | (with_reducible rfl) | (rw [if_pos rfl] at H; exact H)
                  clear H
                  have H := H1
                  clear H1
                  exact absurd (Option.some.inj H) (by decide)
                · replace c96 := Bool.eq_false_iff.mpr c96
                  subst c96
                  have H1 : ((laws_markConf.f kj65 t124 t127 1).bind fun bt144 => ((laws_heldConf.f kj65 bt144.2.1 bt144.2.2 1).bind fun t147 => (if t147 < 0 then (some false) else (if t147 = bt144.1 then ((laws_toConf.f kj65 l0_0 l0_1).bind fun bt148 => ((impl_Changed.f kj65 bt148.1 bt148.2 a1 a2).bind fun bt154 => ((laws_eqConf.f kj65 bt154.1 bt154.2.1 t109 t112).bind fun t162 => (if t162 = true then (laws_FnExactChanged.j2 kj65 bt144.1 (bt154.2.2 != t115) bt144.2.1 bt144.2.2) else (laws_FnExactChanged.j2 kj65 bt144.1 true bt144.2.1 bt144.2.2))))) else (some false))))) = some true := by rw [if_neg (show ¬ (false = true) by decide)] at H; exact H
                  clear H
                  have H := H1
                  clear H1
                  replace H := Option.bind_eq_some_iff.mp H
                  obtain ⟨⟨t144, t145, t146⟩, A970, H⟩ := H
                  replace H : ((laws_heldConf.f kj65 t145 t146 1).bind fun t147 => (if t147 < 0 then (some false) else (if t147 = t144 then ((laws_toConf.f kj65 l0_0 l0_1).bind fun bt148 => ((impl_Changed.f kj65 bt148.1 bt148.2 a1 a2).bind fun bt154 => ((laws_eqConf.f kj65 bt154.1 bt154.2.1 t109 t112).bind fun t162 => (if t162 = true then (laws_FnExactChanged.j2 kj65 t144 (bt154.2.2 != t115) t145 t146) else (laws_FnExactChanged.j2 kj65 t144 true t145 t146))))) else (some false)))) = some true := H
                  have A97 := Aside0.mk A970
                  clear A970
                  replace H := Option.bind_eq_some_iff.mp H
                  obtain ⟨t147, A980, H⟩ := H
                  replace H : (if t147 < 0 then (some false) else (if t147 = t144 then ((laws_toConf.f kj65 l0_0 l0_1).bind fun bt148 => ((impl_Changed.f kj65 bt148.1 bt148.2 a1 a2).bind fun bt154 => ((laws_eqConf.f kj65 bt154.1 bt154.2.1 t109 t112).bind fun t162 => (if t162 = true then (laws_FnExactChanged.j2 kj65 t144 (bt154.2.2 != t115) t145 t146) else (laws_FnExactChanged.j2 kj65 t144 true t145 t146))))) else (some false))) = some true := H
                  have A98 := Aside0.mk A980
                  clear A980
                  by_cases c99 : t147 < 0
                  · rw [if_pos c99] at H
                    have c99b0 : decide (t147 < 0) = true := decide_eq_true c99
                    clear c99
                    exact absurd (Option.some.inj H) (by decide)
                  · rw [if_neg c99] at H
                    have c99b0 : decide (t147 < 0) = false := decide_eq_false c99
                    clear c99
                    by_cases c100 : t147 = t144
                    · rw [if_pos c100] at H
                      have c100b0 : (t147 == t144) = true := beq_iff_eq.mpr c100
                      have c100b1 : (t147 != t144) = false := bne_eq_false_iff_eq.mpr c100
                      clear c100
                      replace H := Option.bind_eq_some_iff.mp H
                      obtain ⟨⟨t148, t151⟩, A1010, H⟩ := H
                      replace H : ((impl_Changed.f kj65 t148 t151 a1 a2).bind fun bt154 => ((laws_eqConf.f kj65 bt154.1 bt154.2.1 t109 t112).bind fun t162 => (if t162 = true then (laws_FnExactChanged.j2 kj65 t144 (bt154.2.2 != t115) t145 t146) else (laws_FnExactChanged.j2 kj65 t144 true t145 t146)))) = some true := H
                      have A101 := Aside0.mk A1010
                      clear A1010
                      replace H := Option.bind_eq_some_iff.mp H
                      obtain ⟨⟨t154, t157, t160⟩, A1020, H⟩ := H
                      replace H : ((laws_eqConf.f kj65 t154 t157 t109 t112).bind fun t162 => (if t162 = true then (laws_FnExactChanged.j2 kj65 t144 (t160 != t115) t145 t146) else (laws_FnExactChanged.j2 kj65 t144 true t145 t146))) = some true := H
                      have A102 := Aside0.mk A1020
                      clear A1020
                      have HC103 := Aside0.mk H
                      clear H
                      have hnb104 := NB131_101.out
                      have hnc104 := NB101_131.out
                      have hnb105 := NB131_116.out
                      have hnc105 := NB116_131.out
                      have hnb106 := NB131_123.out
                      have hnc106 := NB123_131.out
                      have hcz107_0 : wc.cell? ⟨gb131, 0, none⟩ = some (.slice Ao37 t124.length co37) := (blk_cell BK131.out 0).trans rfl
                      have hcz107_1 : wc.cell? ⟨gb131, 1, none⟩ = some (.slice Ao42 t127.length co42) := (blk_cell BK131.out 1).trans rfl
                      have hfz107_0 := blk_frozen BK131.out 0
                      have hfz107_1 := blk_frozen BK131.out 1
                      go_upto_region 25 with (first | ((with_reducible refine gate_callee (f := 36) rfl ?_); refine goesL_ (some 72) rfl rfl Try.func36 (by kernel_rfl) rfl #[.agg #[.slice Ao37 t124.length co37, .slice Ao42 t127.length co42], .int .i64 1] rfl (by (try simp only [List.map_toArray, List.map_cons, List.map_nil]); first | done | rfl | (simp only [List.length_drop, List.length_take]; rfl)) ?_; (with_reducible refine (laws_markConf.calls kj65 (fun k_ => some k_ = (.slice Ao37 t124.length co37 : Value).ownBlock) (.slice Ao37 t124.length co37) t124 (fun k_ => some k_ = (.slice Ao42 t127.length co42 : Value).ownBlock) (.slice Ao42 t127.length co42) t127 1 t144 t145 t146 w _ ?side1 ?side2 ?side3 ?side4 ?side5 A97.out).mono ?_); (case side1 => repeat (first | (with_reducible first | exact HB.out | apply below_alloc | apply pw_below_drewN | apply below_drew1 | refine below_set ?_ GE101.out | refine below_set ?_ GE116.out | refine below_set ?_ GE123.out | refine below_set ?_ GE131.out) | exact HB.out)); (case side2 => exact Kd.R_tight rfl HO_132000.out); (case side3 => exact fun k_ e_ => (HO_132000.out.1 k_ e_.symm).2.2.2.2); (case side4 => exact Kd.R_tight rfl HO_132001.out); (case side5 => exact fun k_ e_ => (HO_132001.out.1 k_ e_.symm).2.2.2.2); rintro e w108 ⟨rfl, hy0, hy1, hb, hkp⟩; refine ⟨_, rfl, ?_⟩; have n0_ := Aside0.mk (Kd.R_mono (ok' := fun k_ => some k_ ≠ (.slice Ao26 t112.length co26 : Value).ownBlock ∧ some k_ ≠ (.slice Ao30 t141.length co30 : Value).ownBlock ∧ some k_ ≠ (.slice Ao34 t142.length co34 : Value).ownBlock ∧ some k_ ≠ (.slice Ao37 t124.length co37 : Value).ownBlock ∧ some k_ ≠ (.slice Ao42 t127.length co42 : Value).ownBlock) (Kd.R_keptB (HO_117000.out) hkp (fun k_ hk_ hs_ => Or.elim hs_ (fun e_ => (hk_.2.2.2.1) e_) (fun e_ => (hk_.2.2.2.2) e_))) (fun k_ hk_ => ⟨hk_.1.1, hk_.1.2.1, hk_.1.2.2.1, hk_.1.2.2.2.1, hk_.1.2.2.2.2⟩)); have n1_ := Aside0.mk (Kd.R_mono (ok' := fun k_ => some k_ ≠ (.slice Ao23 t109.length co23 : Value).ownBlock ∧ some k_ ≠ (.slice Ao30 t141.length co30 : Value).ownBlock ∧ some k_ ≠ (.slice Ao34 t142.length co34 : Value).ownBlock ∧ some k_ ≠ (.slice Ao37 t124.length co37 : Value).ownBlock ∧ some k_ ≠ (.slice Ao42 t127.length co42 : Value).ownBlock) (Kd.R_keptB (HO_117001.out) hkp (fun k_ hk_ hs_ => Or.elim hs_ (fun e_ => (hk_.2.2.2.1) e_) (fun e_ => (hk_.2.2.2.2) e_))) (fun k_ hk_ => ⟨hk_.1.1, hk_.1.2.1, hk_.1.2.2.1, hk_.1.2.2.2.1, hk_.1.2.2.2.2⟩)); have n2_ := Aside0.mk (Kd.R_mono (ok' := fun k_ => some k_ ≠ (.slice Ao23 t109.length co23 : Value).ownBlock ∧ some k_ ≠ (.slice Ao26 t112.length co26 : Value).ownBlock ∧ some k_ ≠ (.slice Ao34 t142.length co34 : Value).ownBlock ∧ some k_ ≠ (.slice Ao37 t124.length co37 : Value).ownBlock ∧ some k_ ≠ (.slice Ao42 t127.length co42 : Value).ownBlock) (Kd.R_keptB (HO_124000.out) hkp (fun k_ hk_ hs_ => Or.elim hs_ (fun e_ => (hk_.2.2.2.1) e_) (fun e_ => (hk_.2.2.2.2) e_))) (fun k_ hk_ => ⟨hk_.1.1, hk_.1.2.1, hk_.1.2.2.1, hk_.1.2.2.2.1, hk_.1.2.2.2.2⟩)); have n3_ := Aside0.mk (Kd.R_mono (ok' := fun k_ => some k_ ≠ (.slice Ao23 t109.length co23 : Value).ownBlock ∧ some k_ ≠ (.slice Ao26 t112.length co26 : Value).ownBlock ∧ some k_ ≠ (.slice Ao30 t141.length co30 : Value).ownBlock ∧ some k_ ≠ (.slice Ao37 t124.length co37 : Value).ownBlock ∧ some k_ ≠ (.slice Ao42 t127.length co42 : Value).ownBlock) (Kd.R_keptB (HO_124001.out) hkp (fun k_ hk_ hs_ => Or.elim hs_ (fun e_ => (hk_.2.2.2.1) e_) (fun e_ => (hk_.2.2.2.2) e_))) (fun k_ hk_ => ⟨hk_.1.1, hk_.1.2.1, hk_.1.2.2.1, hk_.1.2.2.2.1, hk_.1.2.2.2.2⟩)); have n4_ := Aside0.mk (Kd.R_reok rfl hy0 (fun k_ e_ => HO_132000.out.1 k_ e_)); have n5_ := Aside0.mk (Kd.R_reok rfl hy1 (fun k_ e_ => HO_132001.out.1 k_ e_)); have n6_ := Aside0.mk (blk_kept (by (with_reducible repeat (first | refine blk_drewN ?_ _ | refine blk_drew ?_ | refine blk_alloc ?_ _)); exact BK101.out) hkp (fun hs_ => Or.elim hs_ (fun e_ => (fun e_ => (Kd.R_ne HO_132000.out BK101.out (by decide)) e_) e_) (fun e_ => (fun e_ => (Kd.R_ne HO_132001.out BK101.out (by decide)) e_) e_))); have n7_ := Aside0.mk (blk_kept (by (with_reducible repeat (first | refine blk_drewN ?_ _ | refine blk_drew ?_ | refine blk_alloc ?_ _)); exact BK116.out) hkp (fun hs_ => Or.elim hs_ (fun e_ => (fun e_ => (Kd.R_ne HO_132000.out BK116.out (by decide)) e_) e_) (fun e_ => (fun e_ => (Kd.R_ne HO_132001.out BK116.out (by decide)) e_) e_))); have n8_ := Aside0.mk (blk_kept (by (with_reducible repeat (first | refine blk_drewN ?_ _ | refine blk_drew ?_ | refine blk_alloc ?_ _)); exact BK123.out) hkp (fun hs_ => Or.elim hs_ (fun e_ => (fun e_ => (Kd.R_ne HO_132000.out BK123.out (by decide)) e_) e_) (fun e_ => (fun e_ => (Kd.R_ne HO_132001.out BK123.out (by decide)) e_) e_))); have n9_ := Aside0.mk (blk_kept (by (with_reducible repeat (first | refine blk_drewN ?_ _ | refine blk_drew ?_ | refine blk_alloc ?_ _)); exact BK131.out) hkp (fun hs_ => Or.elim hs_ (fun e_ => (fun e_ => (Kd.R_ne HO_132000.out BK131.out (by decide)) e_) e_) (fun e_ => (fun e_ => (Kd.R_ne HO_132001.out BK131.out (by decide)) e_) e_))); have n10_ := Aside0.mk (hb); clear HO_117000; clear HO_117001; clear HO_124000; clear HO_124001; clear HO_132000; clear HO_132001; clear BK101; clear BK116; clear BK123; clear BK131; clear HB; have HO_117000 := n0_; have HO_117001 := n1_; have HO_124000 := n2_; have HO_124001 := n3_; have HO_132000 := n4_; have HO_132001 := n5_; have BK101 := n6_; have BK116 := n7_; have BK123 := n8_; have BK131 := n9_; have HB := n10_; clear n0_ n1_ n2_ n3_ n4_ n5_ n6_ n7_ n8_ n9_ n10_; (try clear hb); (try clear hkp); (try clear hy0); (try clear hy1); have hcz109_0 : w108.cell? ⟨gb131, 0, none⟩ = some (.slice Ao37 t124.length co37) := (blk_cell BK131.out 0).trans rfl; have hcz109_1 : w108.cell? ⟨gb131, 1, none⟩ = some (.slice Ao42 t127.length co42) := (blk_cell BK131.out 1).trans rfl; have hfz109_0 := blk_frozen BK131.out 0; have hfz109_1 := blk_frozen BK131.out 1) | ((with_reducible refine gate_callee (f := 37) rfl ?_); refine goesL_ (some 75) rfl rfl Try.func37 (by kernel_rfl) rfl #[.agg #[.slice Ao37 t145.length co37, .slice Ao42 t146.length co42], .int .i64 1] rfl (by (try simp only [List.map_toArray, List.map_cons, List.map_nil]); first | done | (rw [show t145.length = t124.length from (Kd.R_reads' HO_132000.out).1.symm, show t146.length = t127.length from (Kd.R_reads' HO_132001.out).1.symm] <;> rfl) | rfl | (simp only [List.length_drop, List.length_take]; rfl)) ?_; (with_reducible refine (laws_heldConf.calls kj65 _ _ t145 _ _ t146 1 t147 _ ?side1 ?side2 ?side3 ?side4 A98.out).mono ?_); (case side1 => repeat (first | exact (Kd.R_reads' HO_132000.out).2.2 | (with_reducible refine Kd.C_alloc ?_ _) | (with_reducible refine Kd.C_drewN ?_ _) | (with_reducible refine Kd.C_drew ?_))); (case side2 => rw [show t145.length = t124.length from (Kd.R_reads' HO_132000.out).1.symm]; exact (Kd.R_reads' HO_132000.out).2.1); (case side3 => repeat (first | exact (Kd.R_reads' HO_132001.out).2.2 | (with_reducible refine Kd.C_alloc ?_ _) | (with_reducible refine Kd.C_drewN ?_ _) | (with_reducible refine Kd.C_drew ?_))); (case side4 => rw [show t146.length = t127.length from (Kd.R_reads' HO_132001.out).1.symm]; exact (Kd.R_reads' HO_132001.out).2.1); rintro e w110 ⟨rfl, hb⟩; refine ⟨_, rfl, ?_⟩; have n0_ := Aside0.mk (Kd.R_below (by (with_reducible repeat (first | apply Kd.R_alloc | apply Kd.R_drewN | apply Kd.R_drew)); exact HO_117000.out) hb); have n1_ := Aside0.mk (Kd.R_below (by (with_reducible repeat (first | apply Kd.R_alloc | apply Kd.R_drewN | apply Kd.R_drew)); exact HO_117001.out) hb); have n2_ := Aside0.mk (Kd.R_below (by (with_reducible repeat (first | apply Kd.R_alloc | apply Kd.R_drewN | apply Kd.R_drew)); exact HO_124000.out) hb); have n3_ := Aside0.mk (Kd.R_below (by (with_reducible repeat (first | apply Kd.R_alloc | apply Kd.R_drewN | apply Kd.R_drew)); exact HO_124001.out) hb); have n4_ := Aside0.mk (Kd.R_below (by (with_reducible repeat (first | apply Kd.R_alloc | apply Kd.R_drewN | apply Kd.R_drew)); exact HO_132000.out) hb); have n5_ := Aside0.mk (Kd.R_below (by (with_reducible repeat (first | apply Kd.R_alloc | apply Kd.R_drewN | apply Kd.R_drew)); exact HO_132001.out) hb); have n6_ := Aside0.mk (blk_below (g := gb101) (o := .cells #[.slice A0_0 l0_0.length c0_0, .slice A0_1 l0_1.length c0_1] 24 (0, 0)) (by (with_reducible repeat (first | refine blk_drewN ?_ _ | refine blk_drew ?_ | refine blk_alloc ?_ _)); exact BK101.out) hb); have n7_ := Aside0.mk (blk_below (g := gb116) (o := .cells #[.slice Ao23 t109.length co23, .slice Ao26 t112.length co26] 27 (0, 0)) (by (with_reducible repeat (first | refine blk_drewN ?_ _ | refine blk_drew ?_ | refine blk_alloc ?_ _)); exact BK116.out) hb); have n8_ := Aside0.mk (blk_below (g := gb123) (o := .cells #[.slice Ao30 t141.length co30, .slice Ao34 t142.length co34] 27 (0, 0)) (by (with_reducible repeat (first | refine blk_drewN ?_ _ | refine blk_drew ?_ | refine blk_alloc ?_ _)); exact BK123.out) hb); have n9_ := Aside0.mk (blk_below (g := gb131) (o := .cells #[.slice Ao37 t124.length co37, .slice Ao42 t127.length co42] 27 (0, 0)) (by (with_reducible repeat (first | refine blk_drewN ?_ _ | refine blk_drew ?_ | refine blk_alloc ?_ _)); exact BK131.out) hb); have n10_ := Aside0.mk (below_step (by repeat (first | (with_reducible first | exact HB.out | apply below_alloc | apply pw_below_drewN | apply below_drew1 | refine below_set ?_ GE101.out | refine below_set ?_ GE116.out | refine below_set ?_ GE123.out | refine below_set ?_ GE131.out) | exact HB.out)) hb); clear HO_117000; clear HO_117001; clear HO_124000; clear HO_124001; clear HO_132000; clear HO_132001; clear BK101; clear BK116; clear BK123; clear BK131; clear HB; have HO_117000 := n0_; have HO_117001 := n1_; have HO_124000 := n2_; have HO_124001 := n3_; have HO_132000 := n4_; have HO_132001 := n5_; have BK101 := n6_; have BK116 := n7_; have BK123 := n8_; have BK131 := n9_; have HB := n10_; clear n0_ n1_ n2_ n3_ n4_ n5_ n6_ n7_ n8_ n9_ n10_; (try clear hb); (try clear hb2); (try clear hk); (try clear hi); have hnb111 := NB101_116.out; have hnc111 := NB116_101.out; have hnb112 := NB101_123.out; have hnc112 := NB123_101.out; have hcz113_0 : w110.cell? ⟨gb101, 0, none⟩ = some (.slice A0_0 l0_0.length c0_0) := (blk_cell BK101.out 0).trans rfl; have hcz113_1 : w110.cell? ⟨gb101, 1, none⟩ = some (.slice A0_1 l0_1.length c0_1) := (blk_cell BK101.out 1).trans rfl; have hfz113_0 := blk_frozen BK101.out 0; have hfz113_1 := blk_frozen BK101.out 1) | ((with_reducible refine gate_callee (f := 13) rfl ?_); refine goesL_ (some 83) rfl rfl Try.func13 (by kernel_rfl) rfl #[.agg #[.slice A0_0 l0_0.length c0_0, .slice A0_1 l0_1.length c0_1]] rfl (by (try simp only [List.map_toArray, List.map_cons, List.map_nil]); first | done | rfl | (simp only [List.length_drop, List.length_take]; rfl)) ?_; (with_reducible refine (laws_toConf.calls kj65 _ _ l0_0 _ _ l0_1 t148 t151 _ ?side1 ?side2 ?side3 ?side4 A101.out).mono ?_); (case side1 => repeat (first | exact (Kd.C_below HR0_0.out HB.out) | (with_reducible refine Kd.C_alloc ?_ _) | (with_reducible refine Kd.C_drewN ?_ _) | (with_reducible refine Kd.C_drew ?_))); (case side2 => exact HC0_0.out); (case side3 => repeat (first | exact (Kd.C_below HR0_1.out HB.out) | (with_reducible refine Kd.C_alloc ?_ _) | (with_reducible refine Kd.C_drewN ?_ _) | (with_reducible refine Kd.C_drew ?_))); (case side4 => exact HC0_1.out); rintro e w114 ⟨v149, v152, rfl, ho0, ho1, hb⟩; refine ⟨_, rfl, ?_⟩; have n0_ := Aside0.mk (Kd.R_mono (Kd.R_told (Kd.R_told (Kd.R_old (by (with_reducible repeat (first | apply Kd.R_alloc | apply Kd.R_drewN | apply Kd.R_drew)); exact HO_117000.out) hb) (Kd.R_base ho0)) (Kd.R_base ho1)) (fun _ h_ => h_.1)); have n1_ := Aside0.mk (Kd.R_mono (Kd.R_told (Kd.R_told (Kd.R_old (by (with_reducible repeat (first | apply Kd.R_alloc | apply Kd.R_drewN | apply Kd.R_drew)); exact HO_117001.out) hb) (Kd.R_base ho0)) (Kd.R_base ho1)) (fun _ h_ => h_.1)); have n2_ := Aside0.mk (Kd.R_mono (Kd.R_told (Kd.R_told (Kd.R_old (by (with_reducible repeat (first | apply Kd.R_alloc | apply Kd.R_drewN | apply Kd.R_drew)); exact HO_124000.out) hb) (Kd.R_base ho0)) (Kd.R_base ho1)) (fun _ h_ => h_.1)); have n3_ := Aside0.mk (Kd.R_mono (Kd.R_told (Kd.R_told (Kd.R_old (by (with_reducible repeat (first | apply Kd.R_alloc | apply Kd.R_drewN | apply Kd.R_drew)); exact HO_124001.out) hb) (Kd.R_base ho0)) (Kd.R_base ho1)) (fun _ h_ => h_.1)); have n4_ := Aside0.mk (Kd.R_mono (Kd.R_told (Kd.R_told (Kd.R_old (by (with_reducible repeat (first | apply Kd.R_alloc | apply Kd.R_drewN | apply Kd.R_drew)); exact HO_132000.out) hb) (Kd.R_base ho0)) (Kd.R_base ho1)) (fun _ h_ => h_.1)); have n5_ := Aside0.mk (Kd.R_mono (Kd.R_told (Kd.R_told (Kd.R_old (by (with_reducible repeat (first | apply Kd.R_alloc | apply Kd.R_drewN | apply Kd.R_drew)); exact HO_132001.out) hb) (Kd.R_base ho0)) (Kd.R_base ho1)) (fun _ h_ => h_.1)); have n6_ := Aside0.mk (Kd.R_lower (Kd.R_new' (Kd.R_new' (Kd.R_new' (Kd.R_new' (Kd.R_new' (Kd.R_new' ho0 (Kd.R_lt (by (with_reducible repeat (first | apply Kd.R_alloc | apply Kd.R_drewN | apply Kd.R_drew)); exact HO_117000.out))) (Kd.R_lt (by (with_reducible repeat (first | apply Kd.R_alloc | apply Kd.R_drewN | apply Kd.R_drew)); exact HO_117001.out))) (Kd.R_lt (by (with_reducible repeat (first | apply Kd.R_alloc | apply Kd.R_drewN | apply Kd.R_drew)); exact HO_124000.out))) (Kd.R_lt (by (with_reducible repeat (first | apply Kd.R_alloc | apply Kd.R_drewN | apply Kd.R_drew)); exact HO_124001.out))) (Kd.R_lt (by (with_reducible repeat (first | apply Kd.R_alloc | apply Kd.R_drewN | apply Kd.R_drew)); exact HO_132000.out))) (Kd.R_lt (by (with_reducible repeat (first | apply Kd.R_alloc | apply Kd.R_drewN | apply Kd.R_drew)); exact HO_132001.out))) (below_size (by repeat (first | (with_reducible first | exact HB.out | apply below_alloc | apply pw_below_drewN | apply below_drew1 | refine below_set ?_ GE101.out | refine below_set ?_ GE116.out | refine below_set ?_ GE123.out | refine below_set ?_ GE131.out) | exact HB.out)))); have n7_ := Aside0.mk (Kd.R_lower (Kd.R_new' (Kd.R_new' (Kd.R_new' (Kd.R_new' (Kd.R_new' (Kd.R_new' ho1 (Kd.R_lt (by (with_reducible repeat (first | apply Kd.R_alloc | apply Kd.R_drewN | apply Kd.R_drew)); exact HO_117000.out))) (Kd.R_lt (by (with_reducible repeat (first | apply Kd.R_alloc | apply Kd.R_drewN | apply Kd.R_drew)); exact HO_117001.out))) (Kd.R_lt (by (with_reducible repeat (first | apply Kd.R_alloc | apply Kd.R_drewN | apply Kd.R_drew)); exact HO_124000.out))) (Kd.R_lt (by (with_reducible repeat (first | apply Kd.R_alloc | apply Kd.R_drewN | apply Kd.R_drew)); exact HO_124001.out))) (Kd.R_lt (by (with_reducible repeat (first | apply Kd.R_alloc | apply Kd.R_drewN | apply Kd.R_drew)); exact HO_132000.out))) (Kd.R_lt (by (with_reducible repeat (first | apply Kd.R_alloc | apply Kd.R_drewN | apply Kd.R_drew)); exact HO_132001.out))) (below_size (by repeat (first | (with_reducible first | exact HB.out | apply below_alloc | apply pw_below_drewN | apply below_drew1 | refine below_set ?_ GE101.out | refine below_set ?_ GE116.out | refine below_set ?_ GE123.out | refine below_set ?_ GE131.out) | exact HB.out)))); have n8_ := Aside0.mk (blk_below (g := gb101) (o := .cells #[.slice A0_0 l0_0.length c0_0, .slice A0_1 l0_1.length c0_1] 24 (0, 0)) (by (with_reducible repeat (first | refine blk_drewN ?_ _ | refine blk_drew ?_ | refine blk_alloc ?_ _)); exact BK101.out) hb); have n9_ := Aside0.mk (blk_below (g := gb116) (o := .cells #[.slice Ao23 t109.length co23, .slice Ao26 t112.length co26] 27 (0, 0)) (by (with_reducible repeat (first | refine blk_drewN ?_ _ | refine blk_drew ?_ | refine blk_alloc ?_ _)); exact BK116.out) hb); have n10_ := Aside0.mk (blk_below (g := gb123) (o := .cells #[.slice Ao30 t141.length co30, .slice Ao34 t142.length co34] 27 (0, 0)) (by (with_reducible repeat (first | refine blk_drewN ?_ _ | refine blk_drew ?_ | refine blk_alloc ?_ _)); exact BK123.out) hb); have n11_ := Aside0.mk (blk_below (g := gb131) (o := .cells #[.slice Ao37 t124.length co37, .slice Ao42 t127.length co42] 27 (0, 0)) (by (with_reducible repeat (first | refine blk_drewN ?_ _ | refine blk_drew ?_ | refine blk_alloc ?_ _)); exact BK131.out) hb); have n12_ := Aside0.mk (below_step (by repeat (first | (with_reducible first | exact HB.out | apply below_alloc | apply pw_below_drewN | apply below_drew1 | refine below_set ?_ GE101.out | refine below_set ?_ GE116.out | refine below_set ?_ GE123.out | refine below_set ?_ GE131.out) | exact HB.out)) hb); clear HO_117000; clear HO_117001; clear HO_124000; clear HO_124001; clear HO_132000; clear HO_132001; clear BK101; clear BK116; clear BK123; clear BK131; clear HB; have HO_117000 := n0_; have HO_117001 := n1_; have HO_124000 := n2_; have HO_124001 := n3_; have HO_132000 := n4_; have HO_132001 := n5_; have HO150 := n6_; have HO153 := n7_; have BK101 := n8_; have BK116 := n9_; have BK123 := n10_; have BK131 := n11_; have HB := n12_; clear n0_ n1_ n2_ n3_ n4_ n5_ n6_ n7_ n8_ n9_ n10_ n11_ n12_; (try clear hb); (try clear hb2); (try clear hk); (try clear hi); (try clear ho0); (try clear ho1); obtain ⟨Ao115, co115, eo115⟩ := Kd.R_slice HO150.out; subst eo115; obtain ⟨Ao116, co116, eo116⟩ := Kd.R_slice HO153.out; subst eo116) | ((with_reducible refine gate_callee (f := 35) rfl ?_); refine goesL_ (some 86) rfl rfl Try.func35 (by kernel_rfl) rfl #[.agg #[.slice Ao115 t148.length co115, .slice Ao116 t151.length co116], .int .i64 a1, .int .i64 a2] rfl (by (try simp only [List.map_toArray, List.map_cons, List.map_nil]); first | done | rfl | (simp only [List.length_drop, List.length_take]; rfl)) ?_; (with_reducible refine (impl_Changed.calls kj65 _ _ t148 _ _ t151 a1 a2 t154 t157 t160 _ ?side1 ?side2 ?side3 ?side4 A102.out).mono ?_); (case side1 => repeat (first | exact (Kd.R_reads' HO150.out).2.2 | (with_reducible refine Kd.C_alloc ?_ _) | (with_reducible refine Kd.C_drewN ?_ _) | (with_reducible refine Kd.C_drew ?_))); (case side2 => exact (Kd.R_reads' HO150.out).2.1); (case side3 => repeat (first | exact (Kd.R_reads' HO153.out).2.2 | (with_reducible refine Kd.C_alloc ?_ _) | (with_reducible refine Kd.C_drewN ?_ _) | (with_reducible refine Kd.C_drew ?_))); (case side4 => exact (Kd.R_reads' HO153.out).2.1); rintro e w117 ⟨v155, v158, rfl, ho0, ho1, hb⟩; refine ⟨_, rfl, ?_⟩; have n0_ := Aside0.mk (Kd.R_mono (Kd.R_told (Kd.R_told (Kd.R_old (by (with_reducible repeat (first | apply Kd.R_alloc | apply Kd.R_drewN | apply Kd.R_drew)); exact HO_117000.out) hb) (Kd.R_base ho0)) (Kd.R_base ho1)) (fun _ h_ => h_.1)); have n1_ := Aside0.mk (Kd.R_mono (Kd.R_told (Kd.R_told (Kd.R_old (by (with_reducible repeat (first | apply Kd.R_alloc | apply Kd.R_drewN | apply Kd.R_drew)); exact HO_117001.out) hb) (Kd.R_base ho0)) (Kd.R_base ho1)) (fun _ h_ => h_.1)); have n2_ := Aside0.mk (Kd.R_mono (Kd.R_told (Kd.R_told (Kd.R_old (by (with_reducible repeat (first | apply Kd.R_alloc | apply Kd.R_drewN | apply Kd.R_drew)); exact HO_124000.out) hb) (Kd.R_base ho0)) (Kd.R_base ho1)) (fun _ h_ => h_.1)); have n3_ := Aside0.mk (Kd.R_mono (Kd.R_told (Kd.R_told (Kd.R_old (by (with_reducible repeat (first | apply Kd.R_alloc | apply Kd.R_drewN | apply Kd.R_drew)); exact HO_124001.out) hb) (Kd.R_base ho0)) (Kd.R_base ho1)) (fun _ h_ => h_.1)); have n4_ := Aside0.mk (Kd.R_mono (Kd.R_told (Kd.R_told (Kd.R_old (by (with_reducible repeat (first | apply Kd.R_alloc | apply Kd.R_drewN | apply Kd.R_drew)); exact HO_132000.out) hb) (Kd.R_base ho0)) (Kd.R_base ho1)) (fun _ h_ => h_.1)); have n5_ := Aside0.mk (Kd.R_mono (Kd.R_told (Kd.R_told (Kd.R_old (by (with_reducible repeat (first | apply Kd.R_alloc | apply Kd.R_drewN | apply Kd.R_drew)); exact HO_132001.out) hb) (Kd.R_base ho0)) (Kd.R_base ho1)) (fun _ h_ => h_.1)); have n6_ := Aside0.mk (Kd.R_mono (Kd.R_told (Kd.R_told (Kd.R_old (by (with_reducible repeat (first | apply Kd.R_alloc | apply Kd.R_drewN | apply Kd.R_drew)); exact HO150.out) hb) (Kd.R_base ho0)) (Kd.R_base ho1)) (fun _ h_ => h_.1)); have n7_ := Aside0.mk (Kd.R_mono (Kd.R_told (Kd.R_told (Kd.R_old (by (with_reducible repeat (first | apply Kd.R_alloc | apply Kd.R_drewN | apply Kd.R_drew)); exact HO153.out) hb) (Kd.R_base ho0)) (Kd.R_base ho1)) (fun _ h_ => h_.1)); have n8_ := Aside0.mk (Kd.R_lower (Kd.R_new' (Kd.R_new' (Kd.R_new' (Kd.R_new' (Kd.R_new' (Kd.R_new' (Kd.R_new' (Kd.R_new' ho0 (Kd.R_lt (by (with_reducible repeat (first | apply Kd.R_alloc | apply Kd.R_drewN | apply Kd.R_drew)); exact HO_117000.out))) (Kd.R_lt (by (with_reducible repeat (first | apply Kd.R_alloc | apply Kd.R_drewN | apply Kd.R_drew)); exact HO_117001.out))) (Kd.R_lt (by (with_reducible repeat (first | apply Kd.R_alloc | apply Kd.R_drewN | apply Kd.R_drew)); exact HO_124000.out))) (Kd.R_lt (by (with_reducible repeat (first | apply Kd.R_alloc | apply Kd.R_drewN | apply Kd.R_drew)); exact HO_124001.out))) (Kd.R_lt (by (with_reducible repeat (first | apply Kd.R_alloc | apply Kd.R_drewN | apply Kd.R_drew)); exact HO_132000.out))) (Kd.R_lt (by (with_reducible repeat (first | apply Kd.R_alloc | apply Kd.R_drewN | apply Kd.R_drew)); exact HO_132001.out))) (Kd.R_lt (by (with_reducible repeat (first | apply Kd.R_alloc | apply Kd.R_drewN | apply Kd.R_drew)); exact HO150.out))) (Kd.R_lt (by (with_reducible repeat (first | apply Kd.R_alloc | apply Kd.R_drewN | apply Kd.R_drew)); exact HO153.out))) (below_size (by repeat (first | (with_reducible first | exact HB.out | apply below_alloc | apply pw_below_drewN | apply below_drew1 | refine below_set ?_ GE101.out | refine below_set ?_ GE116.out | refine below_set ?_ GE123.out | refine below_set ?_ GE131.out) | exact HB.out)))); have n9_ := Aside0.mk (Kd.R_lower (Kd.R_new' (Kd.R_new' (Kd.R_new' (Kd.R_new' (Kd.R_new' (Kd.R_new' (Kd.R_new' (Kd.R_new' ho1 (Kd.R_lt (by (with_reducible repeat (first | apply Kd.R_alloc | apply Kd.R_drewN | apply Kd.R_drew)); exact HO_117000.out))) (Kd.R_lt (by (with_reducible repeat (first | apply Kd.R_alloc | apply Kd.R_drewN | apply Kd.R_drew)); exact HO_117001.out))) (Kd.R_lt (by (with_reducible repeat (first | apply Kd.R_alloc | apply Kd.R_drewN | apply Kd.R_drew)); exact HO_124000.out))) (Kd.R_lt (by (with_reducible repeat (first | apply Kd.R_alloc | apply Kd.R_drewN | apply Kd.R_drew)); exact HO_124001.out))) (Kd.R_lt (by (with_reducible repeat (first | apply Kd.R_alloc | apply Kd.R_drewN | apply Kd.R_drew)); exact HO_132000.out))) (Kd.R_lt (by (with_reducible repeat (first | apply Kd.R_alloc | apply Kd.R_drewN | apply Kd.R_drew)); exact HO_132001.out))) (Kd.R_lt (by (with_reducible repeat (first | apply Kd.R_alloc | apply Kd.R_drewN | apply Kd.R_drew)); exact HO150.out))) (Kd.R_lt (by (with_reducible repeat (first | apply Kd.R_alloc | apply Kd.R_drewN | apply Kd.R_drew)); exact HO153.out))) (below_size (by repeat (first | (with_reducible first | exact HB.out | apply below_alloc | apply pw_below_drewN | apply below_drew1 | refine below_set ?_ GE101.out | refine below_set ?_ GE116.out | refine below_set ?_ GE123.out | refine below_set ?_ GE131.out) | exact HB.out)))); have n10_ := Aside0.mk (blk_below (g := gb101) (o := .cells #[.slice A0_0 l0_0.length c0_0, .slice A0_1 l0_1.length c0_1] 24 (0, 0)) (by (with_reducible repeat (first | refine blk_drewN ?_ _ | refine blk_drew ?_ | refine blk_alloc ?_ _)); exact BK101.out) hb); have n11_ := Aside0.mk (blk_below (g := gb116) (o := .cells #[.slice Ao23 t109.length co23, .slice Ao26 t112.length co26] 27 (0, 0)) (by (with_reducible repeat (first | refine blk_drewN ?_ _ | refine blk_drew ?_ | refine blk_alloc ?_ _)); exact BK116.out) hb); have n12_ := Aside0.mk (blk_below (g := gb123) (o := .cells #[.slice Ao30 t141.length co30, .slice Ao34 t142.length co34] 27 (0, 0)) (by (with_reducible repeat (first | refine blk_drewN ?_ _ | refine blk_drew ?_ | refine blk_alloc ?_ _)); exact BK123.out) hb); have n13_ := Aside0.mk (blk_below (g := gb131) (o := .cells #[.slice Ao37 t124.length co37, .slice Ao42 t127.length co42] 27 (0, 0)) (by (with_reducible repeat (first | refine blk_drewN ?_ _ | refine blk_drew ?_ | refine blk_alloc ?_ _)); exact BK131.out) hb); have n14_ := Aside0.mk (below_step (by repeat (first | (with_reducible first | exact HB.out | apply below_alloc | apply pw_below_drewN | apply below_drew1 | refine below_set ?_ GE101.out | refine below_set ?_ GE116.out | refine below_set ?_ GE123.out | refine below_set ?_ GE131.out) | exact HB.out)) hb); clear HO_117000; clear HO_117001; clear HO_124000; clear HO_124001; clear HO_132000; clear HO_132001; clear HO150; clear HO153; clear BK101; clear BK116; clear BK123; clear BK131; clear HB; have HO_117000 := n0_; have HO_117001 := n1_; have HO_124000 := n2_; have HO_124001 := n3_; have HO_132000 := n4_; have HO_132001 := n5_; have HO150 := n6_; have HO153 := n7_; have HO156 := n8_; have HO159 := n9_; have BK101 := n10_; have BK116 := n11_; have BK123 := n12_; have BK131 := n13_; have HB := n14_; clear n0_ n1_ n2_ n3_ n4_ n5_ n6_ n7_ n8_ n9_ n10_ n11_ n12_ n13_ n14_; (try clear hb); (try clear hb2); (try clear hk); (try clear hi); (try clear ho0); (try clear ho1)) | ((with_reducible refine gate_dst (N := 16) rfl ?_); refine box_event ?hg (N := 16) ?hd (cs := #[.slice none 0 0, .slice none 0 0]) (t := 27) ?hr ?_; (case hd => rfl); (case hg => rfl); (case hr => first | (go_simp; done) | (go_simp; rfl)); intro gb161 hg w118 hbox hb; have n0_ := Aside0.mk (Kd.R_below (by (with_reducible repeat (first | apply Kd.R_alloc | apply Kd.R_drewN | apply Kd.R_drew)); exact HO_117000.out) hb); have n1_ := Aside0.mk (Kd.R_below (by (with_reducible repeat (first | apply Kd.R_alloc | apply Kd.R_drewN | apply Kd.R_drew)); exact HO_117001.out) hb); have n2_ := Aside0.mk (Kd.R_below (by (with_reducible repeat (first | apply Kd.R_alloc | apply Kd.R_drewN | apply Kd.R_drew)); exact HO_124000.out) hb); have n3_ := Aside0.mk (Kd.R_below (by (with_reducible repeat (first | apply Kd.R_alloc | apply Kd.R_drewN | apply Kd.R_drew)); exact HO_124001.out) hb); have n4_ := Aside0.mk (Kd.R_below (by (with_reducible repeat (first | apply Kd.R_alloc | apply Kd.R_drewN | apply Kd.R_drew)); exact HO_132000.out) hb); have n5_ := Aside0.mk (Kd.R_below (by (with_reducible repeat (first | apply Kd.R_alloc | apply Kd.R_drewN | apply Kd.R_drew)); exact HO_132001.out) hb); have n6_ := Aside0.mk (Kd.R_below (by (with_reducible repeat (first | apply Kd.R_alloc | apply Kd.R_drewN | apply Kd.R_drew)); exact HO150.out) hb); have n7_ := Aside0.mk (Kd.R_below (by (with_reducible repeat (first | apply Kd.R_alloc | apply Kd.R_drewN | apply Kd.R_drew)); exact HO153.out) hb); have n8_ := Aside0.mk (Kd.R_below (by (with_reducible repeat (first | apply Kd.R_alloc | apply Kd.R_drewN | apply Kd.R_drew)); exact HO156.out) hb); have n9_ := Aside0.mk (Kd.R_below (by (with_reducible repeat (first | apply Kd.R_alloc | apply Kd.R_drewN | apply Kd.R_drew)); exact HO159.out) hb); have n10_ := Aside0.mk (blk_below (g := gb101) (o := .cells #[.slice A0_0 l0_0.length c0_0, .slice A0_1 l0_1.length c0_1] 24 (0, 0)) (by (with_reducible repeat (first | refine blk_drewN ?_ _ | refine blk_drew ?_ | refine blk_alloc ?_ _)); exact BK101.out) hb); have n11_ := Aside0.mk (blk_below (g := gb116) (o := .cells #[.slice Ao23 t109.length co23, .slice Ao26 t112.length co26] 27 (0, 0)) (by (with_reducible repeat (first | refine blk_drewN ?_ _ | refine blk_drew ?_ | refine blk_alloc ?_ _)); exact BK116.out) hb); have n12_ := Aside0.mk (blk_below (g := gb123) (o := .cells #[.slice Ao30 t141.length co30, .slice Ao34 t142.length co34] 27 (0, 0)) (by (with_reducible repeat (first | refine blk_drewN ?_ _ | refine blk_drew ?_ | refine blk_alloc ?_ _)); exact BK123.out) hb); have n13_ := Aside0.mk (blk_below (g := gb131) (o := .cells #[.slice Ao37 t124.length co37, .slice Ao42 t127.length co42] 27 (0, 0)) (by (with_reducible repeat (first | refine blk_drewN ?_ _ | refine blk_drew ?_ | refine blk_alloc ?_ _)); exact BK131.out) hb); have n14_ := Aside0.mk (below_step (by repeat (first | (with_reducible first | exact HB.out | apply below_alloc | apply pw_below_drewN | apply below_drew1 | refine below_set ?_ GE101.out | refine below_set ?_ GE116.out | refine below_set ?_ GE123.out | refine below_set ?_ GE131.out) | exact HB.out)) hb); have n15_ := Aside0.mk (hbox); have n16_ := Aside0.mk ((by rw [hg]; exact (below_size (by repeat (first | (with_reducible first | exact HB.out | apply below_alloc | apply pw_below_drewN | apply below_drew1 | refine below_set ?_ GE101.out | refine below_set ?_ GE116.out | refine below_set ?_ GE123.out | refine below_set ?_ GE131.out) | exact HB.out))) : w.heap.size ≤ gb161)); have n17_ := Aside0.mk ((by rw [hg]; exact (below_size (by repeat (first | (with_reducible first | exact HB.out | apply below_alloc | apply pw_below_drewN | apply below_drew1 | refine below_set ?_ GE101.out | refine below_set ?_ GE116.out | refine below_set ?_ GE123.out | refine below_set ?_ GE131.out) | exact HB.out))) : w.heap.size ≤ gb161)); have n18_ := Aside0.mk ((by rw [hg]; exact Nat.ne_of_lt (blk_lt (g := gb101) (o := .cells #[.slice A0_0 l0_0.length c0_0, .slice A0_1 l0_1.length c0_1] 24 (0, 0)) (by (with_reducible repeat (first | refine blk_drewN ?_ _ | refine blk_drew ?_ | refine blk_alloc ?_ _)); exact BK101.out)) : gb101 ≠ gb161)); have n19_ := Aside0.mk ((by rw [hg]; exact Nat.ne_of_gt (blk_lt (g := gb101) (o := .cells #[.slice A0_0 l0_0.length c0_0, .slice A0_1 l0_1.length c0_1] 24 (0, 0)) (by (with_reducible repeat (first | refine blk_drewN ?_ _ | refine blk_drew ?_ | refine blk_alloc ?_ _)); exact BK101.out)) : gb161 ≠ gb101)); have n20_ := Aside0.mk ((by rw [hg]; exact Nat.ne_of_lt (blk_lt (g := gb116) (o := .cells #[.slice Ao23 t109.length co23, .slice Ao26 t112.length co26] 27 (0, 0)) (by (with_reducible repeat (first | refine blk_drewN ?_ _ | refine blk_drew ?_ | refine blk_alloc ?_ _)); exact BK116.out)) : gb116 ≠ gb161)); have n21_ := Aside0.mk ((by rw [hg]; exact Nat.ne_of_gt (blk_lt (g := gb116) (o := .cells #[.slice Ao23 t109.length co23, .slice Ao26 t112.length co26] 27 (0, 0)) (by (with_reducible repeat (first | refine blk_drewN ?_ _ | refine blk_drew ?_ | refine blk_alloc ?_ _)); exact BK116.out)) : gb161 ≠ gb116)); have n22_ := Aside0.mk ((by rw [hg]; exact Nat.ne_of_lt (blk_lt (g := gb123) (o := .cells #[.slice Ao30 t141.length co30, .slice Ao34 t142.length co34] 27 (0, 0)) (by (with_reducible repeat (first | refine blk_drewN ?_ _ | refine blk_drew ?_ | refine blk_alloc ?_ _)); exact BK123.out)) : gb123 ≠ gb161)); have n23_ := Aside0.mk ((by rw [hg]; exact Nat.ne_of_gt (blk_lt (g := gb123) (o := .cells #[.slice Ao30 t141.length co30, .slice Ao34 t142.length co34] 27 (0, 0)) (by (with_reducible repeat (first | refine blk_drewN ?_ _ | refine blk_drew ?_ | refine blk_alloc ?_ _)); exact BK123.out)) : gb161 ≠ gb123)); have n24_ := Aside0.mk ((by rw [hg]; exact Nat.ne_of_lt (blk_lt (g := gb131) (o := .cells #[.slice Ao37 t124.length co37, .slice Ao42 t127.length co42] 27 (0, 0)) (by (with_reducible repeat (first | refine blk_drewN ?_ _ | refine blk_drew ?_ | refine blk_alloc ?_ _)); exact BK131.out)) : gb131 ≠ gb161)); have n25_ := Aside0.mk ((by rw [hg]; exact Nat.ne_of_gt (blk_lt (g := gb131) (o := .cells #[.slice Ao37 t124.length co37, .slice Ao42 t127.length co42] 27 (0, 0)) (by (with_reducible repeat (first | refine blk_drewN ?_ _ | refine blk_drew ?_ | refine blk_alloc ?_ _)); exact BK131.out)) : gb161 ≠ gb131)); clear HO_117000; clear HO_117001; clear HO_124000; clear HO_124001; clear HO_132000; clear HO_132001; clear HO150; clear HO153; clear HO156; clear HO159; clear BK101; clear BK116; clear BK123; clear BK131; clear HB; have HO_117000 := n0_; have HO_117001 := n1_; have HO_124000 := n2_; have HO_124001 := n3_; have HO_132000 := n4_; have HO_132001 := n5_; have HO150 := n6_; have HO153 := n7_; have HO156 := n8_; have HO159 := n9_; have BK101 := n10_; have BK116 := n11_; have BK123 := n12_; have BK131 := n13_; have HB := n14_; have BK161 := n15_; have GW161 := n16_; have GE161 := n17_; have NB101_161 := n18_; have NB161_101 := n19_; have NB116_161 := n20_; have NB161_116 := n21_; have NB123_161 := n22_; have NB161_123 := n23_; have NB131_161 := n24_; have NB161_131 := n25_; clear n0_ n1_ n2_ n3_ n4_ n5_ n6_ n7_ n8_ n9_ n10_ n11_ n12_ n13_ n14_ n15_ n16_ n17_ n18_ n19_ n20_ n21_ n22_ n23_ n24_ n25_; clear hb hbox hg; obtain ⟨Ao119, co119, eo119⟩ := Kd.R_slice HO156.out; subst eo119; have hnb120 := NB161_101.out; have hnc120 := NB101_161.out; have hnb121 := NB161_116.out; have hnc121 := NB116_161.out; have hnb122 := NB161_123.out; have hnc122 := NB123_161.out; have hnb123 := NB161_131.out; have hnc123 := NB131_161.out; have hcz124_0 : w118.cell? ⟨gb161, 0, none⟩ = some (.slice none 0 0) := (blk_cell BK161.out 0).trans rfl; have hcz124_1 : w118.cell? ⟨gb161, 1, none⟩ = some (.slice none 0 0) := (blk_cell BK161.out 1).trans rfl; have hfz124_0 := blk_frozen BK161.out 0; have hfz124_1 := blk_frozen BK161.out 1; obtain ⟨Ao125, co125, eo125⟩ := Kd.R_slice HO159.out; subst eo125))
                      (try simp only [Act.put, List.setIfInBounds_toArray, List.set_cons_zero, List.set_cons_succ])
                      go_cut [97] (fun v97 wc => ∃ (kq : Nat) (x97_102 : Bool), v97 = .bool x97_102 ∧ Aside0 (laws_FnExactChanged.j2 kq t144 x97_102 t145 t146 = some true) ∧ Aside0 (kq ≤ kj65) ∧ Aside0 (Kd.R (Kd.int .i64) 2 wc w.heap.size (fun k_ => some k_ ≠ ((.slice Ao26 t112.length co26) : Value).ownBlock ∧ some k_ ≠ ((.slice Ao30 t141.length co30) : Value).ownBlock ∧ some k_ ≠ ((.slice Ao34 t142.length co34) : Value).ownBlock ∧ some k_ ≠ ((.slice Ao37 t124.length co37) : Value).ownBlock ∧ some k_ ≠ ((.slice Ao42 t127.length co42) : Value).ownBlock ∧ some k_ ≠ ((.slice Ao119 t154.length co119) : Value).ownBlock ∧ some k_ ≠ ((.slice Ao125 t157.length co125) : Value).ownBlock) (.slice Ao23 t109.length co23) t109) ∧ Aside0 (Kd.R (Kd.int .i64) 2 wc w.heap.size (fun k_ => some k_ ≠ ((.slice Ao23 t109.length co23) : Value).ownBlock ∧ some k_ ≠ ((.slice Ao30 t141.length co30) : Value).ownBlock ∧ some k_ ≠ ((.slice Ao34 t142.length co34) : Value).ownBlock ∧ some k_ ≠ ((.slice Ao37 t124.length co37) : Value).ownBlock ∧ some k_ ≠ ((.slice Ao42 t127.length co42) : Value).ownBlock ∧ some k_ ≠ ((.slice Ao119 t154.length co119) : Value).ownBlock ∧ some k_ ≠ ((.slice Ao125 t157.length co125) : Value).ownBlock) (.slice Ao26 t112.length co26) t112) ∧ Aside0 (Kd.R (Kd.int .i64) 2 wc w.heap.size (fun k_ => some k_ ≠ ((.slice Ao23 t109.length co23) : Value).ownBlock ∧ some k_ ≠ ((.slice Ao26 t112.length co26) : Value).ownBlock ∧ some k_ ≠ ((.slice Ao34 t142.length co34) : Value).ownBlock ∧ some k_ ≠ ((.slice Ao37 t124.length co37) : Value).ownBlock ∧ some k_ ≠ ((.slice Ao42 t127.length co42) : Value).ownBlock ∧ some k_ ≠ ((.slice Ao119 t154.length co119) : Value).ownBlock ∧ some k_ ≠ ((.slice Ao125 t157.length co125) : Value).ownBlock) (.slice Ao30 t141.length co30) t141) ∧ Aside0 (Kd.R (Kd.int .i64) 2 wc w.heap.size (fun k_ => some k_ ≠ ((.slice Ao23 t109.length co23) : Value).ownBlock ∧ some k_ ≠ ((.slice Ao26 t112.length co26) : Value).ownBlock ∧ some k_ ≠ ((.slice Ao30 t141.length co30) : Value).ownBlock ∧ some k_ ≠ ((.slice Ao37 t124.length co37) : Value).ownBlock ∧ some k_ ≠ ((.slice Ao42 t127.length co42) : Value).ownBlock ∧ some k_ ≠ ((.slice Ao119 t154.length co119) : Value).ownBlock ∧ some k_ ≠ ((.slice Ao125 t157.length co125) : Value).ownBlock) (.slice Ao34 t142.length co34) t142) ∧ Aside0 (Kd.R (Kd.int .i64) 2 wc w.heap.size (fun k_ => some k_ ≠ ((.slice Ao23 t109.length co23) : Value).ownBlock ∧ some k_ ≠ ((.slice Ao26 t112.length co26) : Value).ownBlock ∧ some k_ ≠ ((.slice Ao30 t141.length co30) : Value).ownBlock ∧ some k_ ≠ ((.slice Ao34 t142.length co34) : Value).ownBlock ∧ some k_ ≠ ((.slice Ao42 t127.length co42) : Value).ownBlock ∧ some k_ ≠ ((.slice Ao119 t154.length co119) : Value).ownBlock ∧ some k_ ≠ ((.slice Ao125 t157.length co125) : Value).ownBlock) (.slice Ao37 t124.length co37) t145) ∧ Aside0 (Kd.R (Kd.int .i64) 2 wc w.heap.size (fun k_ => some k_ ≠ ((.slice Ao23 t109.length co23) : Value).ownBlock ∧ some k_ ≠ ((.slice Ao26 t112.length co26) : Value).ownBlock ∧ some k_ ≠ ((.slice Ao30 t141.length co30) : Value).ownBlock ∧ some k_ ≠ ((.slice Ao34 t142.length co34) : Value).ownBlock ∧ some k_ ≠ ((.slice Ao37 t124.length co37) : Value).ownBlock ∧ some k_ ≠ ((.slice Ao119 t154.length co119) : Value).ownBlock ∧ some k_ ≠ ((.slice Ao125 t157.length co125) : Value).ownBlock) (.slice Ao42 t127.length co42) t146) ∧ Aside0 (Kd.R (Kd.int .i64) 2 wc w.heap.size (fun k_ => some k_ ≠ ((.slice Ao23 t109.length co23) : Value).ownBlock ∧ some k_ ≠ ((.slice Ao26 t112.length co26) : Value).ownBlock ∧ some k_ ≠ ((.slice Ao30 t141.length co30) : Value).ownBlock ∧ some k_ ≠ ((.slice Ao34 t142.length co34) : Value).ownBlock ∧ some k_ ≠ ((.slice Ao37 t124.length co37) : Value).ownBlock ∧ some k_ ≠ ((.slice Ao42 t127.length co42) : Value).ownBlock ∧ some k_ ≠ ((.slice Ao125 t157.length co125) : Value).ownBlock) (.slice Ao119 t154.length co119) t154) ∧ Aside0 (Kd.R (Kd.int .i64) 2 wc w.heap.size (fun k_ => some k_ ≠ ((.slice Ao23 t109.length co23) : Value).ownBlock ∧ some k_ ≠ ((.slice Ao26 t112.length co26) : Value).ownBlock ∧ some k_ ≠ ((.slice Ao30 t141.length co30) : Value).ownBlock ∧ some k_ ≠ ((.slice Ao34 t142.length co34) : Value).ownBlock ∧ some k_ ≠ ((.slice Ao37 t124.length co37) : Value).ownBlock ∧ some k_ ≠ ((.slice Ao42 t127.length co42) : Value).ownBlock ∧ some k_ ≠ ((.slice Ao119 t154.length co119) : Value).ownBlock) (.slice Ao125 t157.length co125) t157) ∧ Aside0 (wc.heap[gb101]? = some (.cells #[(.slice A0_0 l0_0.length c0_0), (.slice A0_1 l0_1.length c0_1)] 24 (0, 0))) ∧ Aside0 (wc.heap[gb116]? = some (.cells #[(.slice Ao23 t109.length co23), (.slice Ao26 t112.length co26)] 27 (0, 0))) ∧ Aside0 (wc.heap[gb123]? = some (.cells #[(.slice Ao30 t141.length co30), (.slice Ao34 t142.length co34)] 27 (0, 0))) ∧ Aside0 (wc.heap[gb131]? = some (.cells #[(.slice Ao37 t124.length co37), (.slice Ao42 t127.length co42)] 27 (0, 0))) ∧ Aside0 (wc.heap[gb161]? = some (.cells #[(.slice Ao119 t154.length co119), (.slice Ao125 t157.length co125)] 27 (0, 0))) ∧ Aside0 (Below w.heap.size w wc))
                      case first =>
                        have H := HC103.out
                        clear HC103
                        replace H := Option.bind_eq_some_iff.mp H
                        obtain ⟨t162, A1260, H⟩ := H
                        replace H : (if t162 = true then (laws_FnExactChanged.j2 kj65 t144 (t160 != t115) t145 t146) else (laws_FnExactChanged.j2 kj65 t144 true t145 t146)) = some true := H
                        have A126 := Aside0.mk A1260
                        clear A1260
                        by_cases c127 : t162 = true
                        · subst c127
                          have H1 : (laws_FnExactChanged.j2 kj65 t144 (t160 != t115) t145 t146) = some true := by first | (with_reducible rfl) | (rw [if_pos rfl] at H; exact H)
                          clear H
                          have H := H1
                          clear H1
                          have H' := Aside0.mk H
                          clear H
                          have hnb128 := NB161_101.out
                          have hnc128 := NB101_161.out
                          have hnb129 := NB161_116.out
                          have hnc129 := NB116_161.out
                          have hnb130 := NB161_123.out
                          have hnc130 := NB123_161.out
                          have hnb131 := NB161_131.out
                          have hnc131 := NB131_161.out
                          have hcz132_0 : w118.cell? ⟨gb161, 0, none⟩ = some (.slice none 0 0) := (blk_cell BK161.out 0).trans rfl
                          have hcz132_1 : w118.cell? ⟨gb161, 1, none⟩ = some (.slice none 0 0) := (blk_cell BK161.out 1).trans rfl
                          have hfz132_0 := blk_frozen BK161.out 0
                          have hfz132_1 := blk_frozen BK161.out 1
                          have hnb133 := NB116_101.out
                          have hnc133 := NB101_116.out
                          have hnb134 := NB116_123.out
                          have hnc134 := NB123_116.out
                          have hnb135 := NB116_131.out
                          have hnc135 := NB131_116.out
                          have hcz136_0 : w118.cell? ⟨gb116, 0, none⟩ = some (.slice Ao23 t109.length co23) := (blk_cell BK116.out 0).trans rfl
                          have hcz136_1 : w118.cell? ⟨gb116, 1, none⟩ = some (.slice Ao26 t112.length co26) := (blk_cell BK116.out 1).trans rfl
                          have hfz136_0 := blk_frozen BK116.out 0
                          have hfz136_1 := blk_frozen BK116.out 1
                          go_wp2_with (first | ((with_reducible refine gate_callee (f := 15) rfl ?_); refine goesL_ (some 91) rfl rfl Try.func15 (by kernel_rfl) rfl #[.agg #[.slice Ao119 t154.length co119, .slice Ao125 t157.length co125], .agg #[.slice Ao23 t109.length co23, .slice Ao26 t112.length co26]] rfl (by (try simp only [List.map_toArray, List.map_cons, List.map_nil]); first | done | rfl | (simp only [List.length_drop, List.length_take]; rfl)) ?_; (with_reducible refine (laws_eqConf.calls kj65 _ _ t154 _ _ t157 _ _ t109 _ _ t112 true _ ?side1 ?side2 ?side3 ?side4 ?side5 ?side6 ?side7 ?side8 A126.out).mono ?_); (case side1 => refine (Kd.R_reads' (e := 2) (base := w.heap.size) (ok := fun k_ => ((((((((some k_ ≠ (.slice Ao125 t157.length co125 : Value).ownBlock ∧ some k_ ≠ (.slice Ao23 t109.length co23 : Value).ownBlock) ∧ some k_ ≠ (.slice Ao26 t112.length co26 : Value).ownBlock) ∧ some k_ ≠ (.slice Ao30 t141.length co30 : Value).ownBlock) ∧ some k_ ≠ (.slice Ao34 t142.length co34 : Value).ownBlock) ∧ some k_ ≠ (.slice Ao37 t124.length co37 : Value).ownBlock) ∧ some k_ ≠ (.slice Ao42 t127.length co42 : Value).ownBlock) ∧ some k_ ≠ (.slice Ao115 t148.length co115 : Value).ownBlock) ∧ some k_ ≠ (.slice Ao116 t151.length co116 : Value).ownBlock)) (n := t154.length) (c := co119) ?_).2.2; exact (by (with_reducible repeat (first | apply Kd.R_alloc | apply Kd.R_drewN | apply Kd.R_drew)); exact (Kd.R_mono (Kd.R_far (p := ⟨gb161, 1, none⟩) (Kd.R_far (p := ⟨gb161, 0, none⟩) (Kd.R_types HO156.out BK161.out (by decide)) (fun _ hk => hk.2) (.slice Ao119 t154.length co119)) (fun _ hk => hk.2) (.slice Ao125 t157.length co125)) (fun _ h_ => h_.1)))); (case side2 => exact (Kd.R_reads' HO156.out).2.1); (case side3 => refine (Kd.R_reads' (e := 2) (base := w.heap.size) (ok := fun k_ => ((((((((some k_ ≠ (.slice Ao119 t154.length co119 : Value).ownBlock ∧ some k_ ≠ (.slice Ao23 t109.length co23 : Value).ownBlock) ∧ some k_ ≠ (.slice Ao26 t112.length co26 : Value).ownBlock) ∧ some k_ ≠ (.slice Ao30 t141.length co30 : Value).ownBlock) ∧ some k_ ≠ (.slice Ao34 t142.length co34 : Value).ownBlock) ∧ some k_ ≠ (.slice Ao37 t124.length co37 : Value).ownBlock) ∧ some k_ ≠ (.slice Ao42 t127.length co42 : Value).ownBlock) ∧ some k_ ≠ (.slice Ao115 t148.length co115 : Value).ownBlock) ∧ some k_ ≠ (.slice Ao116 t151.length co116 : Value).ownBlock)) (n := t157.length) (c := co125) ?_).2.2; exact (by (with_reducible repeat (first | apply Kd.R_alloc | apply Kd.R_drewN | apply Kd.R_drew)); exact (Kd.R_mono (Kd.R_far (p := ⟨gb161, 1, none⟩) (Kd.R_far (p := ⟨gb161, 0, none⟩) (Kd.R_types HO159.out BK161.out (by decide)) (fun _ hk => hk.2) (.slice Ao119 t154.length co119)) (fun _ hk => hk.2) (.slice Ao125 t157.length co125)) (fun _ h_ => h_.1)))); (case side4 => exact (Kd.R_reads' HO159.out).2.1); (case side5 => refine (Kd.R_reads' (e := 2) (base := w.heap.size) (ok := fun k_ => (((((some k_ ≠ (.slice Ao26 t112.length co26 : Value).ownBlock ∧ (some k_ ≠ (.slice Ao30 t141.length co30 : Value).ownBlock ∧ (some k_ ≠ (.slice Ao34 t142.length co34 : Value).ownBlock ∧ (some k_ ≠ (.slice Ao37 t124.length co37 : Value).ownBlock ∧ some k_ ≠ (.slice Ao42 t127.length co42 : Value).ownBlock)))) ∧ some k_ ≠ (.slice Ao115 t148.length co115 : Value).ownBlock) ∧ some k_ ≠ (.slice Ao116 t151.length co116 : Value).ownBlock) ∧ some k_ ≠ (.slice Ao119 t154.length co119 : Value).ownBlock) ∧ some k_ ≠ (.slice Ao125 t157.length co125 : Value).ownBlock)) (n := t109.length) (c := co23) ?_).2.2; exact (by (with_reducible repeat (first | apply Kd.R_alloc | apply Kd.R_drewN | apply Kd.R_drew)); exact (Kd.R_mono (Kd.R_far (p := ⟨gb161, 1, none⟩) (Kd.R_far (p := ⟨gb161, 0, none⟩) (Kd.R_types HO_117000.out BK161.out (by decide)) (fun _ hk => hk.2) (.slice Ao119 t154.length co119)) (fun _ hk => hk.2) (.slice Ao125 t157.length co125)) (fun _ h_ => h_.1)))); (case side6 => exact (Kd.R_reads' HO_117000.out).2.1); (case side7 => refine (Kd.R_reads' (e := 2) (base := w.heap.size) (ok := fun k_ => (((((some k_ ≠ (.slice Ao23 t109.length co23 : Value).ownBlock ∧ (some k_ ≠ (.slice Ao30 t141.length co30 : Value).ownBlock ∧ (some k_ ≠ (.slice Ao34 t142.length co34 : Value).ownBlock ∧ (some k_ ≠ (.slice Ao37 t124.length co37 : Value).ownBlock ∧ some k_ ≠ (.slice Ao42 t127.length co42 : Value).ownBlock)))) ∧ some k_ ≠ (.slice Ao115 t148.length co115 : Value).ownBlock) ∧ some k_ ≠ (.slice Ao116 t151.length co116 : Value).ownBlock) ∧ some k_ ≠ (.slice Ao119 t154.length co119 : Value).ownBlock) ∧ some k_ ≠ (.slice Ao125 t157.length co125 : Value).ownBlock)) (n := t112.length) (c := co26) ?_).2.2; exact (by (with_reducible repeat (first | apply Kd.R_alloc | apply Kd.R_drewN | apply Kd.R_drew)); exact (Kd.R_mono (Kd.R_far (p := ⟨gb161, 1, none⟩) (Kd.R_far (p := ⟨gb161, 0, none⟩) (Kd.R_types HO_117001.out BK161.out (by decide)) (fun _ hk => hk.2) (.slice Ao119 t154.length co119)) (fun _ hk => hk.2) (.slice Ao125 t157.length co125)) (fun _ h_ => h_.1)))); (case side8 => exact (Kd.R_reads' HO_117001.out).2.1); rintro e w137 ⟨rfl, hb⟩; refine ⟨_, rfl, ?_⟩; have n0_ := Aside0.mk (Kd.R_below (by (with_reducible repeat (first | apply Kd.R_alloc | apply Kd.R_drewN | apply Kd.R_drew)); exact (Kd.R_mono (Kd.R_far (p := ⟨gb161, 1, none⟩) (Kd.R_far (p := ⟨gb161, 0, none⟩) (Kd.R_types HO_117000.out BK161.out (by decide)) (fun _ hk => hk.2) (.slice Ao119 t154.length co119)) (fun _ hk => hk.2) (.slice Ao125 t157.length co125)) (fun _ h_ => h_.1))) hb); have n1_ := Aside0.mk (Kd.R_below (by (with_reducible repeat (first | apply Kd.R_alloc | apply Kd.R_drewN | apply Kd.R_drew)); exact (Kd.R_mono (Kd.R_far (p := ⟨gb161, 1, none⟩) (Kd.R_far (p := ⟨gb161, 0, none⟩) (Kd.R_types HO_117001.out BK161.out (by decide)) (fun _ hk => hk.2) (.slice Ao119 t154.length co119)) (fun _ hk => hk.2) (.slice Ao125 t157.length co125)) (fun _ h_ => h_.1))) hb); have n2_ := Aside0.mk (Kd.R_below (by (with_reducible repeat (first | apply Kd.R_alloc | apply Kd.R_drewN | apply Kd.R_drew)); exact (Kd.R_mono (Kd.R_far (p := ⟨gb161, 1, none⟩) (Kd.R_far (p := ⟨gb161, 0, none⟩) (Kd.R_types HO_124000.out BK161.out (by decide)) (fun _ hk => hk.2) (.slice Ao119 t154.length co119)) (fun _ hk => hk.2) (.slice Ao125 t157.length co125)) (fun _ h_ => h_.1))) hb); have n3_ := Aside0.mk (Kd.R_below (by (with_reducible repeat (first | apply Kd.R_alloc | apply Kd.R_drewN | apply Kd.R_drew)); exact (Kd.R_mono (Kd.R_far (p := ⟨gb161, 1, none⟩) (Kd.R_far (p := ⟨gb161, 0, none⟩) (Kd.R_types HO_124001.out BK161.out (by decide)) (fun _ hk => hk.2) (.slice Ao119 t154.length co119)) (fun _ hk => hk.2) (.slice Ao125 t157.length co125)) (fun _ h_ => h_.1))) hb); have n4_ := Aside0.mk (Kd.R_below (by (with_reducible repeat (first | apply Kd.R_alloc | apply Kd.R_drewN | apply Kd.R_drew)); exact (Kd.R_mono (Kd.R_far (p := ⟨gb161, 1, none⟩) (Kd.R_far (p := ⟨gb161, 0, none⟩) (Kd.R_types HO_132000.out BK161.out (by decide)) (fun _ hk => hk.2) (.slice Ao119 t154.length co119)) (fun _ hk => hk.2) (.slice Ao125 t157.length co125)) (fun _ h_ => h_.1))) hb); have n5_ := Aside0.mk (Kd.R_below (by (with_reducible repeat (first | apply Kd.R_alloc | apply Kd.R_drewN | apply Kd.R_drew)); exact (Kd.R_mono (Kd.R_far (p := ⟨gb161, 1, none⟩) (Kd.R_far (p := ⟨gb161, 0, none⟩) (Kd.R_types HO_132001.out BK161.out (by decide)) (fun _ hk => hk.2) (.slice Ao119 t154.length co119)) (fun _ hk => hk.2) (.slice Ao125 t157.length co125)) (fun _ h_ => h_.1))) hb); have n6_ := Aside0.mk (Kd.R_below (by (with_reducible repeat (first | apply Kd.R_alloc | apply Kd.R_drewN | apply Kd.R_drew)); exact (Kd.R_mono (Kd.R_far (p := ⟨gb161, 1, none⟩) (Kd.R_far (p := ⟨gb161, 0, none⟩) (Kd.R_types HO150.out BK161.out (by decide)) (fun _ hk => hk.2) (.slice Ao119 t154.length co119)) (fun _ hk => hk.2) (.slice Ao125 t157.length co125)) (fun _ h_ => h_.1))) hb); have n7_ := Aside0.mk (Kd.R_below (by (with_reducible repeat (first | apply Kd.R_alloc | apply Kd.R_drewN | apply Kd.R_drew)); exact (Kd.R_mono (Kd.R_far (p := ⟨gb161, 1, none⟩) (Kd.R_far (p := ⟨gb161, 0, none⟩) (Kd.R_types HO153.out BK161.out (by decide)) (fun _ hk => hk.2) (.slice Ao119 t154.length co119)) (fun _ hk => hk.2) (.slice Ao125 t157.length co125)) (fun _ h_ => h_.1))) hb); have n8_ := Aside0.mk (Kd.R_below (by (with_reducible repeat (first | apply Kd.R_alloc | apply Kd.R_drewN | apply Kd.R_drew)); exact (Kd.R_mono (Kd.R_far (p := ⟨gb161, 1, none⟩) (Kd.R_far (p := ⟨gb161, 0, none⟩) (Kd.R_types HO156.out BK161.out (by decide)) (fun _ hk => hk.2) (.slice Ao119 t154.length co119)) (fun _ hk => hk.2) (.slice Ao125 t157.length co125)) (fun _ h_ => h_.1))) hb); have n9_ := Aside0.mk (Kd.R_below (by (with_reducible repeat (first | apply Kd.R_alloc | apply Kd.R_drewN | apply Kd.R_drew)); exact (Kd.R_mono (Kd.R_far (p := ⟨gb161, 1, none⟩) (Kd.R_far (p := ⟨gb161, 0, none⟩) (Kd.R_types HO159.out BK161.out (by decide)) (fun _ hk => hk.2) (.slice Ao119 t154.length co119)) (fun _ hk => hk.2) (.slice Ao125 t157.length co125)) (fun _ h_ => h_.1))) hb); have n10_ := Aside0.mk (blk_below (g := gb101) (o := .cells #[.slice A0_0 l0_0.length c0_0, .slice A0_1 l0_1.length c0_1] 24 (0, 0)) (by (with_reducible repeat (first | refine blk_drewN ?_ _ | refine blk_drew ?_ | refine blk_alloc ?_ _)); refine blk_far ?_ NB101_161.out _; (with_reducible repeat (first | refine blk_drewN ?_ _ | refine blk_drew ?_ | refine blk_alloc ?_ _)); refine blk_far ?_ NB101_161.out _; (with_reducible repeat (first | refine blk_drewN ?_ _ | refine blk_drew ?_ | refine blk_alloc ?_ _)); exact BK101.out) hb); have n11_ := Aside0.mk (blk_below (g := gb116) (o := .cells #[.slice Ao23 t109.length co23, .slice Ao26 t112.length co26] 27 (0, 0)) (by (with_reducible repeat (first | refine blk_drewN ?_ _ | refine blk_drew ?_ | refine blk_alloc ?_ _)); refine blk_far ?_ NB116_161.out _; (with_reducible repeat (first | refine blk_drewN ?_ _ | refine blk_drew ?_ | refine blk_alloc ?_ _)); refine blk_far ?_ NB116_161.out _; (with_reducible repeat (first | refine blk_drewN ?_ _ | refine blk_drew ?_ | refine blk_alloc ?_ _)); exact BK116.out) hb); have n12_ := Aside0.mk (blk_below (g := gb123) (o := .cells #[.slice Ao30 t141.length co30, .slice Ao34 t142.length co34] 27 (0, 0)) (by (with_reducible repeat (first | refine blk_drewN ?_ _ | refine blk_drew ?_ | refine blk_alloc ?_ _)); refine blk_far ?_ NB123_161.out _; (with_reducible repeat (first | refine blk_drewN ?_ _ | refine blk_drew ?_ | refine blk_alloc ?_ _)); refine blk_far ?_ NB123_161.out _; (with_reducible repeat (first | refine blk_drewN ?_ _ | refine blk_drew ?_ | refine blk_alloc ?_ _)); exact BK123.out) hb); have n13_ := Aside0.mk (blk_below (g := gb131) (o := .cells #[.slice Ao37 t124.length co37, .slice Ao42 t127.length co42] 27 (0, 0)) (by (with_reducible repeat (first | refine blk_drewN ?_ _ | refine blk_drew ?_ | refine blk_alloc ?_ _)); refine blk_far ?_ NB131_161.out _; (with_reducible repeat (first | refine blk_drewN ?_ _ | refine blk_drew ?_ | refine blk_alloc ?_ _)); refine blk_far ?_ NB131_161.out _; (with_reducible repeat (first | refine blk_drewN ?_ _ | refine blk_drew ?_ | refine blk_alloc ?_ _)); exact BK131.out) hb); have n14_ := Aside0.mk (blk_below (g := gb161) (o := .cells #[.slice Ao119 t154.length co119, .slice Ao125 t157.length co125] 27 (0, 0)) (by (with_reducible repeat (first | refine blk_drewN ?_ _ | refine blk_drew ?_ | refine blk_alloc ?_ _)); refine blk_put (cs := #[.slice Ao119 t154.length co119, .slice none 0 0]) ?_ 1 _ rfl; (with_reducible repeat (first | refine blk_drewN ?_ _ | refine blk_drew ?_ | refine blk_alloc ?_ _)); refine blk_put (cs := #[.slice none 0 0, .slice none 0 0]) ?_ 0 _ rfl; (with_reducible repeat (first | refine blk_drewN ?_ _ | refine blk_drew ?_ | refine blk_alloc ?_ _)); exact BK161.out) hb); have n15_ := Aside0.mk (below_step (by repeat (first | (with_reducible first | exact HB.out | apply below_alloc | apply pw_below_drewN | apply below_drew1 | refine below_set ?_ GE101.out | refine below_set ?_ GE116.out | refine below_set ?_ GE123.out | refine below_set ?_ GE131.out | refine below_set ?_ GE161.out) | exact HB.out)) hb); clear HO_117000; clear HO_117001; clear HO_124000; clear HO_124001; clear HO_132000; clear HO_132001; clear HO150; clear HO153; clear HO156; clear HO159; clear BK101; clear BK116; clear BK123; clear BK131; clear BK161; clear HB; have HO_117000 := n0_; have HO_117001 := n1_; have HO_124000 := n2_; have HO_124001 := n3_; have HO_132000 := n4_; have HO_132001 := n5_; have HO150 := n6_; have HO153 := n7_; have HO156 := n8_; have HO159 := n9_; have BK101 := n10_; have BK116 := n11_; have BK123 := n12_; have BK131 := n13_; have BK161 := n14_; have HB := n15_; clear n0_ n1_ n2_ n3_ n4_ n5_ n6_ n7_ n8_ n9_ n10_ n11_ n12_ n13_ n14_ n15_; (try clear hb); (try clear hb2); (try clear hk); (try clear hi)))
                          go_meet
                          case rel => exact ⟨_, ((t160 != t115)), (by first | rfl | (simp; done) | (simp [*]; done)), H', ⟨by have := HJ12.out; have := HJ65.out; first | omega | exact Nat.le_refl _⟩, ⟨by (try simp only [hl124000_65]); (try simp only [hl124001_65]); (with_reducible repeat (first | apply Kd.R_alloc | apply Kd.R_drewN | apply Kd.R_drew)); exact Kd.R_mono HO_117000.out (fun _ hk => ⟨hk.1.1.1.1.1, ⟨hk.1.1.1.1.2.1, ⟨hk.1.1.1.1.2.2.1, ⟨hk.1.1.1.1.2.2.2.1, ⟨hk.1.1.1.1.2.2.2.2, ⟨hk.1.2, hk.2⟩⟩⟩⟩⟩⟩)⟩, ⟨by (try simp only [hl124000_65]); (try simp only [hl124001_65]); (with_reducible repeat (first | apply Kd.R_alloc | apply Kd.R_drewN | apply Kd.R_drew)); exact Kd.R_mono HO_117001.out (fun _ hk => ⟨hk.1.1.1.1.1, ⟨hk.1.1.1.1.2.1, ⟨hk.1.1.1.1.2.2.1, ⟨hk.1.1.1.1.2.2.2.1, ⟨hk.1.1.1.1.2.2.2.2, ⟨hk.1.2, hk.2⟩⟩⟩⟩⟩⟩)⟩, ⟨by (try simp only [hl124000_65]); (try simp only [hl124001_65]); (with_reducible repeat (first | apply Kd.R_alloc | apply Kd.R_drewN | apply Kd.R_drew)); exact Kd.R_mono HO_124000.out (fun _ hk => ⟨hk.1.1.1.1.1, ⟨hk.1.1.1.1.2.1, ⟨hk.1.1.1.1.2.2.1, ⟨hk.1.1.1.1.2.2.2.1, ⟨hk.1.1.1.1.2.2.2.2, ⟨hk.1.2, hk.2⟩⟩⟩⟩⟩⟩)⟩, ⟨by (try simp only [hl124000_65]); (try simp only [hl124001_65]); (with_reducible repeat (first | apply Kd.R_alloc | apply Kd.R_drewN | apply Kd.R_drew)); exact Kd.R_mono HO_124001.out (fun _ hk => ⟨hk.1.1.1.1.1, ⟨hk.1.1.1.1.2.1, ⟨hk.1.1.1.1.2.2.1, ⟨hk.1.1.1.1.2.2.2.1, ⟨hk.1.1.1.1.2.2.2.2, ⟨hk.1.2, hk.2⟩⟩⟩⟩⟩⟩)⟩, ⟨by (try simp only [hl124000_65]); (try simp only [hl124001_65]); (with_reducible repeat (first | apply Kd.R_alloc | apply Kd.R_drewN | apply Kd.R_drew)); exact Kd.R_mono HO_132000.out (fun _ hk => ⟨hk.1.1.1.1.1, ⟨hk.1.1.1.1.2.1, ⟨hk.1.1.1.1.2.2.1, ⟨hk.1.1.1.1.2.2.2.1, ⟨hk.1.1.1.1.2.2.2.2, ⟨hk.1.2, hk.2⟩⟩⟩⟩⟩⟩)⟩, ⟨by (try simp only [hl124000_65]); (try simp only [hl124001_65]); (with_reducible repeat (first | apply Kd.R_alloc | apply Kd.R_drewN | apply Kd.R_drew)); exact Kd.R_mono HO_132001.out (fun _ hk => ⟨hk.1.1.1.1.1, ⟨hk.1.1.1.1.2.1, ⟨hk.1.1.1.1.2.2.1, ⟨hk.1.1.1.1.2.2.2.1, ⟨hk.1.1.1.1.2.2.2.2, ⟨hk.1.2, hk.2⟩⟩⟩⟩⟩⟩)⟩, ⟨by (try simp only [hl124000_65]); (try simp only [hl124001_65]); (with_reducible repeat (first | apply Kd.R_alloc | apply Kd.R_drewN | apply Kd.R_drew)); exact Kd.R_mono HO156.out (fun _ hk => ⟨hk.1.1.1.1.1.1.1.2, ⟨hk.1.1.1.1.1.1.2, ⟨hk.1.1.1.1.1.2, ⟨hk.1.1.1.1.2, ⟨hk.1.1.1.2, ⟨hk.1.1.2, hk.1.1.1.1.1.1.1.1⟩⟩⟩⟩⟩⟩)⟩, ⟨by (try simp only [hl124000_65]); (try simp only [hl124001_65]); (with_reducible repeat (first | apply Kd.R_alloc | apply Kd.R_drewN | apply Kd.R_drew)); exact Kd.R_mono HO159.out (fun _ hk => ⟨hk.1.1.1.1.1.1.1.2, ⟨hk.1.1.1.1.1.1.2, ⟨hk.1.1.1.1.1.2, ⟨hk.1.1.1.1.2, ⟨hk.1.1.1.2, ⟨hk.1.1.2, hk.1.1.1.1.1.1.1.1⟩⟩⟩⟩⟩⟩)⟩, ⟨by (try simp only [hl124000_65]); (try simp only [hl124001_65]); (with_reducible repeat (first | refine blk_drewN ?_ _ | refine blk_drew ?_ | refine blk_alloc ?_ _)); exact BK101.out⟩, ⟨by (try simp only [hl124000_65]); (try simp only [hl124001_65]); (with_reducible repeat (first | refine blk_drewN ?_ _ | refine blk_drew ?_ | refine blk_alloc ?_ _)); exact BK116.out⟩, ⟨by (try simp only [hl124000_65]); (try simp only [hl124001_65]); (with_reducible repeat (first | refine blk_drewN ?_ _ | refine blk_drew ?_ | refine blk_alloc ?_ _)); exact BK123.out⟩, ⟨by (try simp only [hl124000_65]); (try simp only [hl124001_65]); (with_reducible repeat (first | refine blk_drewN ?_ _ | refine blk_drew ?_ | refine blk_alloc ?_ _)); exact BK131.out⟩, ⟨by (try simp only [hl124000_65]); (try simp only [hl124001_65]); (with_reducible repeat (first | refine blk_drewN ?_ _ | refine blk_drew ?_ | refine blk_alloc ?_ _)); exact BK161.out⟩, ⟨by repeat (first | (with_reducible first | exact HB.out | apply below_alloc | apply pw_below_drewN | apply below_drew1 | refine below_set ?_ GE101.out | refine below_set ?_ GE116.out | refine below_set ?_ GE123.out | refine below_set ?_ GE131.out | refine below_set ?_ GE161.out) | exact HB.out)⟩⟩
                        · replace c127 := Bool.eq_false_iff.mpr c127
                          subst c127
                          have H1 : (laws_FnExactChanged.j2 kj65 t144 true t145 t146) = some true := by rw [if_neg (show ¬ (false = true) by decide)] at H; exact H
                          clear H
                          have H := H1
                          clear H1
                          have H' := Aside0.mk H
                          clear H
                          have hnb138 := NB161_101.out
                          have hnc138 := NB101_161.out
                          have hnb139 := NB161_116.out
                          have hnc139 := NB116_161.out
                          have hnb140 := NB161_123.out
                          have hnc140 := NB123_161.out
                          have hnb141 := NB161_131.out
                          have hnc141 := NB131_161.out
                          have hcz142_0 : w118.cell? ⟨gb161, 0, none⟩ = some (.slice none 0 0) := (blk_cell BK161.out 0).trans rfl
                          have hcz142_1 : w118.cell? ⟨gb161, 1, none⟩ = some (.slice none 0 0) := (blk_cell BK161.out 1).trans rfl
                          have hfz142_0 := blk_frozen BK161.out 0
                          have hfz142_1 := blk_frozen BK161.out 1
                          have hnb143 := NB116_101.out
                          have hnc143 := NB101_116.out
                          have hnb144 := NB116_123.out
                          have hnc144 := NB123_116.out
                          have hnb145 := NB116_131.out
                          have hnc145 := NB131_116.out
                          have hcz146_0 : w118.cell? ⟨gb116, 0, none⟩ = some (.slice Ao23 t109.length co23) := (blk_cell BK116.out 0).trans rfl
                          have hcz146_1 : w118.cell? ⟨gb116, 1, none⟩ = some (.slice Ao26 t112.length co26) := (blk_cell BK116.out 1).trans rfl
                          have hfz146_0 := blk_frozen BK116.out 0
                          have hfz146_1 := blk_frozen BK116.out 1
                          go_wp2_with (first | ((with_reducible refine gate_callee (f := 15) rfl ?_); refine goesL_ (some 91) rfl rfl Try.func15 (by kernel_rfl) rfl #[.agg #[.slice Ao119 t154.length co119, .slice Ao125 t157.length co125], .agg #[.slice Ao23 t109.length co23, .slice Ao26 t112.length co26]] rfl (by (try simp only [List.map_toArray, List.map_cons, List.map_nil]); first | done | rfl | (simp only [List.length_drop, List.length_take]; rfl)) ?_; (with_reducible refine (laws_eqConf.calls kj65 _ _ t154 _ _ t157 _ _ t109 _ _ t112 false _ ?side1 ?side2 ?side3 ?side4 ?side5 ?side6 ?side7 ?side8 A126.out).mono ?_); (case side1 => refine (Kd.R_reads' (e := 2) (base := w.heap.size) (ok := fun k_ => ((((((((some k_ ≠ (.slice Ao125 t157.length co125 : Value).ownBlock ∧ some k_ ≠ (.slice Ao23 t109.length co23 : Value).ownBlock) ∧ some k_ ≠ (.slice Ao26 t112.length co26 : Value).ownBlock) ∧ some k_ ≠ (.slice Ao30 t141.length co30 : Value).ownBlock) ∧ some k_ ≠ (.slice Ao34 t142.length co34 : Value).ownBlock) ∧ some k_ ≠ (.slice Ao37 t124.length co37 : Value).ownBlock) ∧ some k_ ≠ (.slice Ao42 t127.length co42 : Value).ownBlock) ∧ some k_ ≠ (.slice Ao115 t148.length co115 : Value).ownBlock) ∧ some k_ ≠ (.slice Ao116 t151.length co116 : Value).ownBlock)) (n := t154.length) (c := co119) ?_).2.2; exact (by (with_reducible repeat (first | apply Kd.R_alloc | apply Kd.R_drewN | apply Kd.R_drew)); exact (Kd.R_mono (Kd.R_far (p := ⟨gb161, 1, none⟩) (Kd.R_far (p := ⟨gb161, 0, none⟩) (Kd.R_types HO156.out BK161.out (by decide)) (fun _ hk => hk.2) (.slice Ao119 t154.length co119)) (fun _ hk => hk.2) (.slice Ao125 t157.length co125)) (fun _ h_ => h_.1)))); (case side2 => exact (Kd.R_reads' HO156.out).2.1); (case side3 => refine (Kd.R_reads' (e := 2) (base := w.heap.size) (ok := fun k_ => ((((((((some k_ ≠ (.slice Ao119 t154.length co119 : Value).ownBlock ∧ some k_ ≠ (.slice Ao23 t109.length co23 : Value).ownBlock) ∧ some k_ ≠ (.slice Ao26 t112.length co26 : Value).ownBlock) ∧ some k_ ≠ (.slice Ao30 t141.length co30 : Value).ownBlock) ∧ some k_ ≠ (.slice Ao34 t142.length co34 : Value).ownBlock) ∧ some k_ ≠ (.slice Ao37 t124.length co37 : Value).ownBlock) ∧ some k_ ≠ (.slice Ao42 t127.length co42 : Value).ownBlock) ∧ some k_ ≠ (.slice Ao115 t148.length co115 : Value).ownBlock) ∧ some k_ ≠ (.slice Ao116 t151.length co116 : Value).ownBlock)) (n := t157.length) (c := co125) ?_).2.2; exact (by (with_reducible repeat (first | apply Kd.R_alloc | apply Kd.R_drewN | apply Kd.R_drew)); exact (Kd.R_mono (Kd.R_far (p := ⟨gb161, 1, none⟩) (Kd.R_far (p := ⟨gb161, 0, none⟩) (Kd.R_types HO159.out BK161.out (by decide)) (fun _ hk => hk.2) (.slice Ao119 t154.length co119)) (fun _ hk => hk.2) (.slice Ao125 t157.length co125)) (fun _ h_ => h_.1)))); (case side4 => exact (Kd.R_reads' HO159.out).2.1); (case side5 => refine (Kd.R_reads' (e := 2) (base := w.heap.size) (ok := fun k_ => (((((some k_ ≠ (.slice Ao26 t112.length co26 : Value).ownBlock ∧ (some k_ ≠ (.slice Ao30 t141.length co30 : Value).ownBlock ∧ (some k_ ≠ (.slice Ao34 t142.length co34 : Value).ownBlock ∧ (some k_ ≠ (.slice Ao37 t124.length co37 : Value).ownBlock ∧ some k_ ≠ (.slice Ao42 t127.length co42 : Value).ownBlock)))) ∧ some k_ ≠ (.slice Ao115 t148.length co115 : Value).ownBlock) ∧ some k_ ≠ (.slice Ao116 t151.length co116 : Value).ownBlock) ∧ some k_ ≠ (.slice Ao119 t154.length co119 : Value).ownBlock) ∧ some k_ ≠ (.slice Ao125 t157.length co125 : Value).ownBlock)) (n := t109.length) (c := co23) ?_).2.2; exact (by (with_reducible repeat (first | apply Kd.R_alloc | apply Kd.R_drewN | apply Kd.R_drew)); exact (Kd.R_mono (Kd.R_far (p := ⟨gb161, 1, none⟩) (Kd.R_far (p := ⟨gb161, 0, none⟩) (Kd.R_types HO_117000.out BK161.out (by decide)) (fun _ hk => hk.2) (.slice Ao119 t154.length co119)) (fun _ hk => hk.2) (.slice Ao125 t157.length co125)) (fun _ h_ => h_.1)))); (case side6 => exact (Kd.R_reads' HO_117000.out).2.1); (case side7 => refine (Kd.R_reads' (e := 2) (base := w.heap.size) (ok := fun k_ => (((((some k_ ≠ (.slice Ao23 t109.length co23 : Value).ownBlock ∧ (some k_ ≠ (.slice Ao30 t141.length co30 : Value).ownBlock ∧ (some k_ ≠ (.slice Ao34 t142.length co34 : Value).ownBlock ∧ (some k_ ≠ (.slice Ao37 t124.length co37 : Value).ownBlock ∧ some k_ ≠ (.slice Ao42 t127.length co42 : Value).ownBlock)))) ∧ some k_ ≠ (.slice Ao115 t148.length co115 : Value).ownBlock) ∧ some k_ ≠ (.slice Ao116 t151.length co116 : Value).ownBlock) ∧ some k_ ≠ (.slice Ao119 t154.length co119 : Value).ownBlock) ∧ some k_ ≠ (.slice Ao125 t157.length co125 : Value).ownBlock)) (n := t112.length) (c := co26) ?_).2.2; exact (by (with_reducible repeat (first | apply Kd.R_alloc | apply Kd.R_drewN | apply Kd.R_drew)); exact (Kd.R_mono (Kd.R_far (p := ⟨gb161, 1, none⟩) (Kd.R_far (p := ⟨gb161, 0, none⟩) (Kd.R_types HO_117001.out BK161.out (by decide)) (fun _ hk => hk.2) (.slice Ao119 t154.length co119)) (fun _ hk => hk.2) (.slice Ao125 t157.length co125)) (fun _ h_ => h_.1)))); (case side8 => exact (Kd.R_reads' HO_117001.out).2.1); rintro e w147 ⟨rfl, hb⟩; refine ⟨_, rfl, ?_⟩; have n0_ := Aside0.mk (Kd.R_below (by (with_reducible repeat (first | apply Kd.R_alloc | apply Kd.R_drewN | apply Kd.R_drew)); exact (Kd.R_mono (Kd.R_far (p := ⟨gb161, 1, none⟩) (Kd.R_far (p := ⟨gb161, 0, none⟩) (Kd.R_types HO_117000.out BK161.out (by decide)) (fun _ hk => hk.2) (.slice Ao119 t154.length co119)) (fun _ hk => hk.2) (.slice Ao125 t157.length co125)) (fun _ h_ => h_.1))) hb); have n1_ := Aside0.mk (Kd.R_below (by (with_reducible repeat (first | apply Kd.R_alloc | apply Kd.R_drewN | apply Kd.R_drew)); exact (Kd.R_mono (Kd.R_far (p := ⟨gb161, 1, none⟩) (Kd.R_far (p := ⟨gb161, 0, none⟩) (Kd.R_types HO_117001.out BK161.out (by decide)) (fun _ hk => hk.2) (.slice Ao119 t154.length co119)) (fun _ hk => hk.2) (.slice Ao125 t157.length co125)) (fun _ h_ => h_.1))) hb); have n2_ := Aside0.mk (Kd.R_below (by (with_reducible repeat (first | apply Kd.R_alloc | apply Kd.R_drewN | apply Kd.R_drew)); exact (Kd.R_mono (Kd.R_far (p := ⟨gb161, 1, none⟩) (Kd.R_far (p := ⟨gb161, 0, none⟩) (Kd.R_types HO_124000.out BK161.out (by decide)) (fun _ hk => hk.2) (.slice Ao119 t154.length co119)) (fun _ hk => hk.2) (.slice Ao125 t157.length co125)) (fun _ h_ => h_.1))) hb); have n3_ := Aside0.mk (Kd.R_below (by (with_reducible repeat (first | apply Kd.R_alloc | apply Kd.R_drewN | apply Kd.R_drew)); exact (Kd.R_mono (Kd.R_far (p := ⟨gb161, 1, none⟩) (Kd.R_far (p := ⟨gb161, 0, none⟩) (Kd.R_types HO_124001.out BK161.out (by decide)) (fun _ hk => hk.2) (.slice Ao119 t154.length co119)) (fun _ hk => hk.2) (.slice Ao125 t157.length co125)) (fun _ h_ => h_.1))) hb); have n4_ := Aside0.mk (Kd.R_below (by (with_reducible repeat (first | apply Kd.R_alloc | apply Kd.R_drewN | apply Kd.R_drew)); exact (Kd.R_mono (Kd.R_far (p := ⟨gb161, 1, none⟩) (Kd.R_far (p := ⟨gb161, 0, none⟩) (Kd.R_types HO_132000.out BK161.out (by decide)) (fun _ hk => hk.2) (.slice Ao119 t154.length co119)) (fun _ hk => hk.2) (.slice Ao125 t157.length co125)) (fun _ h_ => h_.1))) hb); have n5_ := Aside0.mk (Kd.R_below (by (with_reducible repeat (first | apply Kd.R_alloc | apply Kd.R_drewN | apply Kd.R_drew)); exact (Kd.R_mono (Kd.R_far (p := ⟨gb161, 1, none⟩) (Kd.R_far (p := ⟨gb161, 0, none⟩) (Kd.R_types HO_132001.out BK161.out (by decide)) (fun _ hk => hk.2) (.slice Ao119 t154.length co119)) (fun _ hk => hk.2) (.slice Ao125 t157.length co125)) (fun _ h_ => h_.1))) hb); have n6_ := Aside0.mk (Kd.R_below (by (with_reducible repeat (first | apply Kd.R_alloc | apply Kd.R_drewN | apply Kd.R_drew)); exact (Kd.R_mono (Kd.R_far (p := ⟨gb161, 1, none⟩) (Kd.R_far (p := ⟨gb161, 0, none⟩) (Kd.R_types HO150.out BK161.out (by decide)) (fun _ hk => hk.2) (.slice Ao119 t154.length co119)) (fun _ hk => hk.2) (.slice Ao125 t157.length co125)) (fun _ h_ => h_.1))) hb); have n7_ := Aside0.mk (Kd.R_below (by (with_reducible repeat (first | apply Kd.R_alloc | apply Kd.R_drewN | apply Kd.R_drew)); exact (Kd.R_mono (Kd.R_far (p := ⟨gb161, 1, none⟩) (Kd.R_far (p := ⟨gb161, 0, none⟩) (Kd.R_types HO153.out BK161.out (by decide)) (fun _ hk => hk.2) (.slice Ao119 t154.length co119)) (fun _ hk => hk.2) (.slice Ao125 t157.length co125)) (fun _ h_ => h_.1))) hb); have n8_ := Aside0.mk (Kd.R_below (by (with_reducible repeat (first | apply Kd.R_alloc | apply Kd.R_drewN | apply Kd.R_drew)); exact (Kd.R_mono (Kd.R_far (p := ⟨gb161, 1, none⟩) (Kd.R_far (p := ⟨gb161, 0, none⟩) (Kd.R_types HO156.out BK161.out (by decide)) (fun _ hk => hk.2) (.slice Ao119 t154.length co119)) (fun _ hk => hk.2) (.slice Ao125 t157.length co125)) (fun _ h_ => h_.1))) hb); have n9_ := Aside0.mk (Kd.R_below (by (with_reducible repeat (first | apply Kd.R_alloc | apply Kd.R_drewN | apply Kd.R_drew)); exact (Kd.R_mono (Kd.R_far (p := ⟨gb161, 1, none⟩) (Kd.R_far (p := ⟨gb161, 0, none⟩) (Kd.R_types HO159.out BK161.out (by decide)) (fun _ hk => hk.2) (.slice Ao119 t154.length co119)) (fun _ hk => hk.2) (.slice Ao125 t157.length co125)) (fun _ h_ => h_.1))) hb); have n10_ := Aside0.mk (blk_below (g := gb101) (o := .cells #[.slice A0_0 l0_0.length c0_0, .slice A0_1 l0_1.length c0_1] 24 (0, 0)) (by (with_reducible repeat (first | refine blk_drewN ?_ _ | refine blk_drew ?_ | refine blk_alloc ?_ _)); refine blk_far ?_ NB101_161.out _; (with_reducible repeat (first | refine blk_drewN ?_ _ | refine blk_drew ?_ | refine blk_alloc ?_ _)); refine blk_far ?_ NB101_161.out _; (with_reducible repeat (first | refine blk_drewN ?_ _ | refine blk_drew ?_ | refine blk_alloc ?_ _)); exact BK101.out) hb); have n11_ := Aside0.mk (blk_below (g := gb116) (o := .cells #[.slice Ao23 t109.length co23, .slice Ao26 t112.length co26] 27 (0, 0)) (by (with_reducible repeat (first | refine blk_drewN ?_ _ | refine blk_drew ?_ | refine blk_alloc ?_ _)); refine blk_far ?_ NB116_161.out _; (with_reducible repeat (first | refine blk_drewN ?_ _ | refine blk_drew ?_ | refine blk_alloc ?_ _)); refine blk_far ?_ NB116_161.out _; (with_reducible repeat (first | refine blk_drewN ?_ _ | refine blk_drew ?_ | refine blk_alloc ?_ _)); exact BK116.out) hb); have n12_ := Aside0.mk (blk_below (g := gb123) (o := .cells #[.slice Ao30 t141.length co30, .slice Ao34 t142.length co34] 27 (0, 0)) (by (with_reducible repeat (first | refine blk_drewN ?_ _ | refine blk_drew ?_ | refine blk_alloc ?_ _)); refine blk_far ?_ NB123_161.out _; (with_reducible repeat (first | refine blk_drewN ?_ _ | refine blk_drew ?_ | refine blk_alloc ?_ _)); refine blk_far ?_ NB123_161.out _; (with_reducible repeat (first | refine blk_drewN ?_ _ | refine blk_drew ?_ | refine blk_alloc ?_ _)); exact BK123.out) hb); have n13_ := Aside0.mk (blk_below (g := gb131) (o := .cells #[.slice Ao37 t124.length co37, .slice Ao42 t127.length co42] 27 (0, 0)) (by (with_reducible repeat (first | refine blk_drewN ?_ _ | refine blk_drew ?_ | refine blk_alloc ?_ _)); refine blk_far ?_ NB131_161.out _; (with_reducible repeat (first | refine blk_drewN ?_ _ | refine blk_drew ?_ | refine blk_alloc ?_ _)); refine blk_far ?_ NB131_161.out _; (with_reducible repeat (first | refine blk_drewN ?_ _ | refine blk_drew ?_ | refine blk_alloc ?_ _)); exact BK131.out) hb); have n14_ := Aside0.mk (blk_below (g := gb161) (o := .cells #[.slice Ao119 t154.length co119, .slice Ao125 t157.length co125] 27 (0, 0)) (by (with_reducible repeat (first | refine blk_drewN ?_ _ | refine blk_drew ?_ | refine blk_alloc ?_ _)); refine blk_put (cs := #[.slice Ao119 t154.length co119, .slice none 0 0]) ?_ 1 _ rfl; (with_reducible repeat (first | refine blk_drewN ?_ _ | refine blk_drew ?_ | refine blk_alloc ?_ _)); refine blk_put (cs := #[.slice none 0 0, .slice none 0 0]) ?_ 0 _ rfl; (with_reducible repeat (first | refine blk_drewN ?_ _ | refine blk_drew ?_ | refine blk_alloc ?_ _)); exact BK161.out) hb); have n15_ := Aside0.mk (below_step (by repeat (first | (with_reducible first | exact HB.out | apply below_alloc | apply pw_below_drewN | apply below_drew1 | refine below_set ?_ GE101.out | refine below_set ?_ GE116.out | refine below_set ?_ GE123.out | refine below_set ?_ GE131.out | refine below_set ?_ GE161.out) | exact HB.out)) hb); clear HO_117000; clear HO_117001; clear HO_124000; clear HO_124001; clear HO_132000; clear HO_132001; clear HO150; clear HO153; clear HO156; clear HO159; clear BK101; clear BK116; clear BK123; clear BK131; clear BK161; clear HB; have HO_117000 := n0_; have HO_117001 := n1_; have HO_124000 := n2_; have HO_124001 := n3_; have HO_132000 := n4_; have HO_132001 := n5_; have HO150 := n6_; have HO153 := n7_; have HO156 := n8_; have HO159 := n9_; have BK101 := n10_; have BK116 := n11_; have BK123 := n12_; have BK131 := n13_; have BK161 := n14_; have HB := n15_; clear n0_ n1_ n2_ n3_ n4_ n5_ n6_ n7_ n8_ n9_ n10_ n11_ n12_ n13_ n14_ n15_; (try clear hb); (try clear hb2); (try clear hk); (try clear hi)))
                          go_meet
                          case rel => exact ⟨_, (true), (by first | rfl | (simp; done) | (simp [*]; done)), H', ⟨by have := HJ12.out; have := HJ65.out; first | omega | exact Nat.le_refl _⟩, ⟨by (try simp only [hl124000_65]); (try simp only [hl124001_65]); (with_reducible repeat (first | apply Kd.R_alloc | apply Kd.R_drewN | apply Kd.R_drew)); exact Kd.R_mono HO_117000.out (fun _ hk => ⟨hk.1.1.1.1.1, ⟨hk.1.1.1.1.2.1, ⟨hk.1.1.1.1.2.2.1, ⟨hk.1.1.1.1.2.2.2.1, ⟨hk.1.1.1.1.2.2.2.2, ⟨hk.1.2, hk.2⟩⟩⟩⟩⟩⟩)⟩, ⟨by (try simp only [hl124000_65]); (try simp only [hl124001_65]); (with_reducible repeat (first | apply Kd.R_alloc | apply Kd.R_drewN | apply Kd.R_drew)); exact Kd.R_mono HO_117001.out (fun _ hk => ⟨hk.1.1.1.1.1, ⟨hk.1.1.1.1.2.1, ⟨hk.1.1.1.1.2.2.1, ⟨hk.1.1.1.1.2.2.2.1, ⟨hk.1.1.1.1.2.2.2.2, ⟨hk.1.2, hk.2⟩⟩⟩⟩⟩⟩)⟩, ⟨by (try simp only [hl124000_65]); (try simp only [hl124001_65]); (with_reducible repeat (first | apply Kd.R_alloc | apply Kd.R_drewN | apply Kd.R_drew)); exact Kd.R_mono HO_124000.out (fun _ hk => ⟨hk.1.1.1.1.1, ⟨hk.1.1.1.1.2.1, ⟨hk.1.1.1.1.2.2.1, ⟨hk.1.1.1.1.2.2.2.1, ⟨hk.1.1.1.1.2.2.2.2, ⟨hk.1.2, hk.2⟩⟩⟩⟩⟩⟩)⟩, ⟨by (try simp only [hl124000_65]); (try simp only [hl124001_65]); (with_reducible repeat (first | apply Kd.R_alloc | apply Kd.R_drewN | apply Kd.R_drew)); exact Kd.R_mono HO_124001.out (fun _ hk => ⟨hk.1.1.1.1.1, ⟨hk.1.1.1.1.2.1, ⟨hk.1.1.1.1.2.2.1, ⟨hk.1.1.1.1.2.2.2.1, ⟨hk.1.1.1.1.2.2.2.2, ⟨hk.1.2, hk.2⟩⟩⟩⟩⟩⟩)⟩, ⟨by (try simp only [hl124000_65]); (try simp only [hl124001_65]); (with_reducible repeat (first | apply Kd.R_alloc | apply Kd.R_drewN | apply Kd.R_drew)); exact Kd.R_mono HO_132000.out (fun _ hk => ⟨hk.1.1.1.1.1, ⟨hk.1.1.1.1.2.1, ⟨hk.1.1.1.1.2.2.1, ⟨hk.1.1.1.1.2.2.2.1, ⟨hk.1.1.1.1.2.2.2.2, ⟨hk.1.2, hk.2⟩⟩⟩⟩⟩⟩)⟩, ⟨by (try simp only [hl124000_65]); (try simp only [hl124001_65]); (with_reducible repeat (first | apply Kd.R_alloc | apply Kd.R_drewN | apply Kd.R_drew)); exact Kd.R_mono HO_132001.out (fun _ hk => ⟨hk.1.1.1.1.1, ⟨hk.1.1.1.1.2.1, ⟨hk.1.1.1.1.2.2.1, ⟨hk.1.1.1.1.2.2.2.1, ⟨hk.1.1.1.1.2.2.2.2, ⟨hk.1.2, hk.2⟩⟩⟩⟩⟩⟩)⟩, ⟨by (try simp only [hl124000_65]); (try simp only [hl124001_65]); (with_reducible repeat (first | apply Kd.R_alloc | apply Kd.R_drewN | apply Kd.R_drew)); exact Kd.R_mono HO156.out (fun _ hk => ⟨hk.1.1.1.1.1.1.1.2, ⟨hk.1.1.1.1.1.1.2, ⟨hk.1.1.1.1.1.2, ⟨hk.1.1.1.1.2, ⟨hk.1.1.1.2, ⟨hk.1.1.2, hk.1.1.1.1.1.1.1.1⟩⟩⟩⟩⟩⟩)⟩, ⟨by (try simp only [hl124000_65]); (try simp only [hl124001_65]); (with_reducible repeat (first | apply Kd.R_alloc | apply Kd.R_drewN | apply Kd.R_drew)); exact Kd.R_mono HO159.out (fun _ hk => ⟨hk.1.1.1.1.1.1.1.2, ⟨hk.1.1.1.1.1.1.2, ⟨hk.1.1.1.1.1.2, ⟨hk.1.1.1.1.2, ⟨hk.1.1.1.2, ⟨hk.1.1.2, hk.1.1.1.1.1.1.1.1⟩⟩⟩⟩⟩⟩)⟩, ⟨by (try simp only [hl124000_65]); (try simp only [hl124001_65]); (with_reducible repeat (first | refine blk_drewN ?_ _ | refine blk_drew ?_ | refine blk_alloc ?_ _)); exact BK101.out⟩, ⟨by (try simp only [hl124000_65]); (try simp only [hl124001_65]); (with_reducible repeat (first | refine blk_drewN ?_ _ | refine blk_drew ?_ | refine blk_alloc ?_ _)); exact BK116.out⟩, ⟨by (try simp only [hl124000_65]); (try simp only [hl124001_65]); (with_reducible repeat (first | refine blk_drewN ?_ _ | refine blk_drew ?_ | refine blk_alloc ?_ _)); exact BK123.out⟩, ⟨by (try simp only [hl124000_65]); (try simp only [hl124001_65]); (with_reducible repeat (first | refine blk_drewN ?_ _ | refine blk_drew ?_ | refine blk_alloc ?_ _)); exact BK131.out⟩, ⟨by (try simp only [hl124000_65]); (try simp only [hl124001_65]); (with_reducible repeat (first | refine blk_drewN ?_ _ | refine blk_drew ?_ | refine blk_alloc ?_ _)); exact BK161.out⟩, ⟨by repeat (first | (with_reducible first | exact HB.out | apply below_alloc | apply pw_below_drewN | apply below_drew1 | refine below_set ?_ GE101.out | refine below_set ?_ GE116.out | refine below_set ?_ GE123.out | refine below_set ?_ GE131.out | refine below_set ?_ GE161.out) | exact HB.out)⟩⟩
                      case rest =>
                        clear HC103
                        try clear c1
                        try clear c2
                        try clear p2
                        try clear c3
                        try clear c4
                        try clear c5
                        try clear c5b0
                        try clear c6
                        try clear c7
                        try clear c8
                        try clear c9
                        try clear c10
                        try clear c11
                        try clear c12
                        try clear c13
                        try clear c14
                        try clear c15
                        try clear c24
                        try clear c31
                        try clear c32
                        try clear c34
                        try clear c35
                        try clear c36
                        try clear c37
                        try clear c38
                        try clear c39
                        try clear c40
                        try clear c44
                        try clear c45
                        try clear c46
                        try clear c47
                        try clear c49
                        try clear c50
                        try clear c53
                        try clear c54
                        try clear c55
                        try clear c57
                        try clear c58
                        try clear c61
                        try clear c64
                        try clear c72
                        try clear c73
                        try clear c74
                        try clear c77
                        try clear c77b0
                        try clear c79
                        try clear c80
                        try clear c81
                        try clear c82
                        try clear c84
                        try clear c85
                        try clear c88
                        try clear c89
                        try clear c90
                        try clear c92
                        try clear c93
                        try clear c96
                        try clear c99
                        try clear c99b0
                        try clear c100
                        try clear c100b0
                        try clear c100b1
                        try clear c104
                        try clear c105
                        try clear c106
                        try clear c111
                        try clear c112
                        try clear c120
                        try clear c121
                        try clear c122
                        try clear c123
                        try clear c127
                        try clear c128
                        try clear c129
                        try clear c130
                        try clear c131
                        try clear c133
                        try clear c134
                        try clear c135
                        try clear c138
                        try clear c139
                        try clear c140
                        try clear c141
                        try clear c143
                        try clear c144
                        try clear c145
                        try clear hcz107_0
                        try clear hcz107_1
                        try clear hcz109_0
                        try clear hcz109_1
                        try clear hcz113_0
                        try clear hcz113_1
                        try clear hcz124_0
                        try clear hcz124_1
                        try clear hcz132_0
                        try clear hcz132_1
                        try clear hcz136_0
                        try clear hcz136_1
                        try clear hcz142_0
                        try clear hcz142_1
                        try clear hcz146_0
                        try clear hcz146_1
                        try clear hcz15_0
                        try clear hcz15_1
                        try clear hcz17_0
                        try clear hcz17_1
                        try clear hcz25_0
                        try clear hcz25_1
                        try clear hcz27_0
                        try clear hcz27_1
                        try clear hcz33_0
                        try clear hcz33_1
                        try clear hcz41_0
                        try clear hcz41_1
                        try clear hcz48_0
                        try clear hcz48_1
                        try clear hcz51_0
                        try clear hcz51_1
                        try clear hcz56_0
                        try clear hcz56_1
                        try clear hcz59_0
                        try clear hcz59_1
                        try clear hcz75_0
                        try clear hcz75_1
                        try clear hcz7_0
                        try clear hcz7_1
                        try clear hcz83_0
                        try clear hcz83_1
                        try clear hcz86_0
                        try clear hcz86_1
                        try clear hcz91_0
                        try clear hcz91_1
                        try clear hcz94_0
                        try clear hcz94_1
                        try clear hfz107_0
                        try clear hfz107_1
                        try clear hfz109_0
                        try clear hfz109_1
                        try clear hfz113_0
                        try clear hfz113_1
                        try clear hfz124_0
                        try clear hfz124_1
                        try clear hfz132_0
                        try clear hfz132_1
                        try clear hfz136_0
                        try clear hfz136_1
                        try clear hfz142_0
                        try clear hfz142_1
                        try clear hfz146_0
                        try clear hfz146_1
                        try clear hfz15_0
                        try clear hfz15_1
                        try clear hfz17_0
                        try clear hfz17_1
                        try clear hfz25_0
                        try clear hfz25_1
                        try clear hfz27_0
                        try clear hfz27_1
                        try clear hfz33_0
                        try clear hfz33_1
                        try clear hfz41_0
                        try clear hfz41_1
                        try clear hfz48_0
                        try clear hfz48_1
                        try clear hfz51_0
                        try clear hfz51_1
                        try clear hfz56_0
                        try clear hfz56_1
                        try clear hfz59_0
                        try clear hfz59_1
                        try clear hfz75_0
                        try clear hfz75_1
                        try clear hfz7_0
                        try clear hfz7_1
                        try clear hfz83_0
                        try clear hfz83_1
                        try clear hfz86_0
                        try clear hfz86_1
                        try clear hfz91_0
                        try clear hfz91_1
                        try clear hfz94_0
                        try clear hfz94_1
                        try clear p2
                        obtain ⟨kq, x97_102, rfl, HA, HJ102, HO_117000, HO_117001, HO_124000, HO_124001, HO_132000, HO_132001, HO_162000, HO_162001, BK101, BK116, BK123, BK131, BK161, HB⟩ := hcut
                        have hl132000_102 := (Kd.R_reads' HO_132000.out).1
                        rw [hl132000_102] at HO_132000
                        (try simp only [hl132000_102])
                        (try simp only [hl132000_102] at BK101)
                        (try simp only [hl132000_102] at BK116)
                        (try simp only [hl132000_102] at BK123)
                        (try simp only [hl132000_102] at BK131)
                        (try simp only [hl132000_102] at BK161)
                        (try simp only [hl132000_102] at HO_117000)
                        (try simp only [hl132000_102] at HO_117001)
                        (try simp only [hl132000_102] at HO_124000)
                        (try simp only [hl132000_102] at HO_124001)
                        (try simp only [hl132000_102] at HO_132001)
                        (try simp only [hl132000_102] at HO_162000)
                        (try simp only [hl132000_102] at HO_162001)
                        have hl132001_102 := (Kd.R_reads' HO_132001.out).1
                        rw [hl132001_102] at HO_132001
                        (try simp only [hl132001_102])
                        (try simp only [hl132001_102] at BK101)
                        (try simp only [hl132001_102] at BK116)
                        (try simp only [hl132001_102] at BK123)
                        (try simp only [hl132001_102] at BK131)
                        (try simp only [hl132001_102] at BK161)
                        (try simp only [hl132001_102] at HO_117000)
                        (try simp only [hl132001_102] at HO_117001)
                        (try simp only [hl132001_102] at HO_124000)
                        (try simp only [hl132001_102] at HO_124001)
                        (try simp only [hl132001_102] at HO_132000)
                        (try simp only [hl132001_102] at HO_162000)
                        (try simp only [hl132001_102] at HO_162001)
                        cases kq with
                        | zero => exact absurd HA.out (by simp [laws_FnExactChanged.j2])
                        | succ kj102 =>
                          have H := HA.out
                          clear HA
                          simp only [laws_FnExactChanged.j2] at H
                          by_cases c148 : x97_102 = true
                          · subst c148
                            have H1 : (some false) = some true := by first | (with_reducible rfl) | (rw [if_pos rfl] at H; exact H)
                            clear H
                            have H := H1
                            clear H1
                            exact absurd (Option.some.inj H) (by decide)
                          · replace c148 := Bool.eq_false_iff.mpr c148
                            subst c148
                            have H1 : ((laws_heldConf.f kj102 t145 t146 1).bind fun t163 => (if t163 < 0 then (some false) else (if t163 = t144 then (some true) else (some false)))) = some true := by rw [if_neg (show ¬ (false = true) by decide)] at H; exact H
                            clear H
                            have H := H1
                            clear H1
                            replace H := Option.bind_eq_some_iff.mp H
                            obtain ⟨t163, A1490, H⟩ := H
                            replace H : (if t163 < 0 then (some false) else (if t163 = t144 then (some true) else (some false))) = some true := H
                            have A149 := Aside0.mk A1490
                            clear A1490
                            by_cases c150 : t163 < 0
                            · rw [if_pos c150] at H
                              have c150b0 : decide (t163 < 0) = true := decide_eq_true c150
                              clear c150
                              exact absurd (Option.some.inj H) (by decide)
                            · rw [if_neg c150] at H
                              have c150b0 : decide (t163 < 0) = false := decide_eq_false c150
                              clear c150
                              by_cases c151 : t163 = t144
                              · rw [if_pos c151] at H
                                have c151b0 : (t163 == t144) = true := beq_iff_eq.mpr c151
                                have c151b1 : (t163 != t144) = false := bne_eq_false_iff_eq.mpr c151
                                clear c151
                                clear H
                                have hnb152 := NB131_101.out
                                have hnc152 := NB101_131.out
                                have hnb153 := NB131_116.out
                                have hnc153 := NB116_131.out
                                have hnb154 := NB131_123.out
                                have hnc154 := NB123_131.out
                                have hnb155 := NB131_161.out
                                have hnc155 := NB161_131.out
                                have hcz156_0 : wc.cell? ⟨gb131, 0, none⟩ = some (.slice Ao37 t145.length co37) := (blk_cell BK131.out 0).trans rfl
                                have hcz156_1 : wc.cell? ⟨gb131, 1, none⟩ = some (.slice Ao42 t146.length co42) := (blk_cell BK131.out 1).trans rfl
                                have hfz156_0 := blk_frozen BK131.out 0
                                have hfz156_1 := blk_frozen BK131.out 1
                                go_wp2_with (first | ((with_reducible refine gate_callee (f := 37) rfl ?_); refine goesL_ (some 100) rfl rfl Try.func37 (by kernel_rfl) rfl #[.agg #[.slice Ao37 t145.length co37, .slice Ao42 t146.length co42], .int .i64 1] rfl (by (try simp only [List.map_toArray, List.map_cons, List.map_nil]); first | done | rfl | (simp only [List.length_drop, List.length_take]; rfl)) ?_; (with_reducible refine (laws_heldConf.calls kj102 _ _ t145 _ _ t146 1 t163 _ ?side1 ?side2 ?side3 ?side4 A149.out).mono ?_); (case side1 => repeat (first | exact (Kd.R_reads' HO_132000.out).2.2 | (with_reducible refine Kd.C_alloc ?_ _) | (with_reducible refine Kd.C_drewN ?_ _) | (with_reducible refine Kd.C_drew ?_))); (case side2 => exact (Kd.R_reads' HO_132000.out).2.1); (case side3 => repeat (first | exact (Kd.R_reads' HO_132001.out).2.2 | (with_reducible refine Kd.C_alloc ?_ _) | (with_reducible refine Kd.C_drewN ?_ _) | (with_reducible refine Kd.C_drew ?_))); (case side4 => exact (Kd.R_reads' HO_132001.out).2.1); rintro e w157 ⟨rfl, hb⟩; refine ⟨_, rfl, ?_⟩; have n0_ := Aside0.mk (Kd.R_below (by (with_reducible repeat (first | apply Kd.R_alloc | apply Kd.R_drewN | apply Kd.R_drew)); exact HO_117000.out) hb); have n1_ := Aside0.mk (Kd.R_below (by (with_reducible repeat (first | apply Kd.R_alloc | apply Kd.R_drewN | apply Kd.R_drew)); exact HO_117001.out) hb); have n2_ := Aside0.mk (Kd.R_below (by (with_reducible repeat (first | apply Kd.R_alloc | apply Kd.R_drewN | apply Kd.R_drew)); exact HO_124000.out) hb); have n3_ := Aside0.mk (Kd.R_below (by (with_reducible repeat (first | apply Kd.R_alloc | apply Kd.R_drewN | apply Kd.R_drew)); exact HO_124001.out) hb); have n4_ := Aside0.mk (Kd.R_below (by (with_reducible repeat (first | apply Kd.R_alloc | apply Kd.R_drewN | apply Kd.R_drew)); exact HO_132000.out) hb); have n5_ := Aside0.mk (Kd.R_below (by (with_reducible repeat (first | apply Kd.R_alloc | apply Kd.R_drewN | apply Kd.R_drew)); exact HO_132001.out) hb); have n6_ := Aside0.mk (Kd.R_below (by (with_reducible repeat (first | apply Kd.R_alloc | apply Kd.R_drewN | apply Kd.R_drew)); exact HO_162000.out) hb); have n7_ := Aside0.mk (Kd.R_below (by (with_reducible repeat (first | apply Kd.R_alloc | apply Kd.R_drewN | apply Kd.R_drew)); exact HO_162001.out) hb); have n8_ := Aside0.mk (blk_below (g := gb101) (o := .cells #[.slice A0_0 l0_0.length c0_0, .slice A0_1 l0_1.length c0_1] 24 (0, 0)) (by (with_reducible repeat (first | refine blk_drewN ?_ _ | refine blk_drew ?_ | refine blk_alloc ?_ _)); exact BK101.out) hb); have n9_ := Aside0.mk (blk_below (g := gb116) (o := .cells #[.slice Ao23 t109.length co23, .slice Ao26 t112.length co26] 27 (0, 0)) (by (with_reducible repeat (first | refine blk_drewN ?_ _ | refine blk_drew ?_ | refine blk_alloc ?_ _)); exact BK116.out) hb); have n10_ := Aside0.mk (blk_below (g := gb123) (o := .cells #[.slice Ao30 t141.length co30, .slice Ao34 t142.length co34] 27 (0, 0)) (by (with_reducible repeat (first | refine blk_drewN ?_ _ | refine blk_drew ?_ | refine blk_alloc ?_ _)); exact BK123.out) hb); have n11_ := Aside0.mk (blk_below (g := gb131) (o := .cells #[.slice Ao37 t145.length co37, .slice Ao42 t146.length co42] 27 (0, 0)) (by (with_reducible repeat (first | refine blk_drewN ?_ _ | refine blk_drew ?_ | refine blk_alloc ?_ _)); exact BK131.out) hb); have n12_ := Aside0.mk (blk_below (g := gb161) (o := .cells #[.slice Ao119 t154.length co119, .slice Ao125 t157.length co125] 27 (0, 0)) (by (with_reducible repeat (first | refine blk_drewN ?_ _ | refine blk_drew ?_ | refine blk_alloc ?_ _)); exact BK161.out) hb); have n13_ := Aside0.mk (below_step (by repeat (first | (with_reducible first | exact HB.out | apply below_alloc | apply pw_below_drewN | apply below_drew1 | refine below_set ?_ GE101.out | refine below_set ?_ GE116.out | refine below_set ?_ GE123.out | refine below_set ?_ GE131.out | refine below_set ?_ GE161.out) | exact HB.out)) hb); clear HO_117000; clear HO_117001; clear HO_124000; clear HO_124001; clear HO_132000; clear HO_132001; clear HO_162000; clear HO_162001; clear BK101; clear BK116; clear BK123; clear BK131; clear BK161; clear HB; have HO_117000 := n0_; have HO_117001 := n1_; have HO_124000 := n2_; have HO_124001 := n3_; have HO_132000 := n4_; have HO_132001 := n5_; have HO_162000 := n6_; have HO_162001 := n7_; have BK101 := n8_; have BK116 := n9_; have BK123 := n10_; have BK131 := n11_; have BK161 := n12_; have HB := n13_; clear n0_ n1_ n2_ n3_ n4_ n5_ n6_ n7_ n8_ n9_ n10_ n11_ n12_ n13_; (try clear hb); (try clear hb2); (try clear hk); (try clear hi)))
                                go_ret
                                exact ⟨by first | rfl | (simp [errW_none, errW_some] <;> rfl) | (simp [*, errW_none, errW_some] <;> rfl), by repeat (first | (with_reducible first | exact HB.out | apply below_alloc | apply pw_below_drewN | apply below_drew1 | refine below_set ?_ GE101.out | refine below_set ?_ GE116.out | refine below_set ?_ GE123.out | refine below_set ?_ GE131.out | refine below_set ?_ GE161.out) | exact HB.out)⟩
                              · rw [if_neg c151] at H
                                have c151b0 : (t163 == t144) = false := beq_eq_false_iff_ne.mpr c151
                                have c151b1 : (t163 != t144) = true := bne_iff_ne.mpr c151
                                exact absurd (Option.some.inj H) (by decide)
                    · rw [if_neg c100] at H
                      have c100b0 : (t147 == t144) = false := beq_eq_false_iff_ne.mpr c100
                      have c100b1 : (t147 != t144) = true := bne_iff_ne.mpr c100
                      exact absurd (Option.some.inj H) (by decide)
          · replace c64 := Bool.eq_false_iff.mpr c64
            subst c64
            have H1 : (some false) = some true := by rw [if_neg (show ¬ (false = true) by decide)] at H; exact H
            clear H
            have H := H1
            clear H1
            exact absurd (Option.some.inj H) (by decide)

end

section
theorem laws_szInt64S.sz (l : List Int) (a : Int) (h0 : 0 ≤ a) (h1 : a ≤ 1048576) (hl : l.length ≤ maxLen) : ∃ r, laws_szInt64S.f l a = some r ∧ (r < 0 ∨ (0 ≤ r ∧ r ≤ a ∧ l.length ≤ 1048576)) := by
  unfold maxLen at hl
  unfold laws_szInt64S.f
  rw [wrap_id (by omega) (by omega)]
  by_cases h : a - (l.length : Int) < 0
  · exact ⟨-1, by rw [if_pos h], .inl (by omega)⟩
  · exact ⟨a - l.length, by rw [if_neg h], .inr ⟨by omega, by omega, by omega⟩⟩
theorem laws_toInt64S.l0_ev (l : List Int) (hl : l.length ≤ 1048576) (d : Nat) : ∀ i : Nat, l.length - i = d → i ≤ l.length →
    Ev (fun k => laws_toInt64S.l0 k l (l.take i ++ List.replicate (l.length - i) 0) i) l := by
  induction d with
  | zero =>
    intro i hd hi
    refine Ev.step (fun k => by rw [laws_toInt64S.l0]) ?_
    exact Ev.neg (by omega) (Ev.ret' (fill_end _ l i (by omega)))
  | succ d ih =>
    intro i hd hi
    refine Ev.step (fun k => by rw [laws_toInt64S.l0]) ?_
    refine Ev.pos (by omega) (Ev.pos (by omega) (Ev.pos (by rw [fill_length _ l i hi]; omega) ?_))
    have hn := ih (i + 1) (by omega) (by omega)
    rw [show ((i + 1 : Nat) : Int) = wrap64 ((i : Int) + 1) from by rw [wrap_id (by omega) (by omega)]; omega] at hn
    rw [rd_nat l i (by omega), Int.toNat_natCast, fill_step _ l i (by omega)]
    exact hn
theorem laws_toInt64S.ev (l : List Int) (hl : l.length ≤ 1048576) : Ev (fun k => laws_toInt64S.f k l) l := by
  unfold laws_toInt64S.f
  refine Ev.pos (by omega) (Ev.pos (by omega) ?_)
  have := laws_toInt64S.l0_ev l hl _ 0 rfl (Nat.zero_le _)
  simpa using this
theorem laws_eqInt64S.refl0 (l : List Int) (hl : l.length ≤ 1048576) (d : Nat) : ∀ i : Nat, l.length - i = d → i ≤ l.length →
    Ev (fun k => laws_eqInt64S.l0 k l l i) true := by
  induction d with
  | zero =>
    intro i hd hi
    refine Ev.step (fun k => by rw [laws_eqInt64S.l0]) ?_
    exact Ev.neg (by omega) (Ev.ret _)
  | succ d ih =>
    intro i hd hi
    refine Ev.step (fun k => by rw [laws_eqInt64S.l0]) ?_
    refine Ev.pos (by omega) (Ev.pos (by omega) (Ev.pos (by omega) (Ev.pos rfl ?_)))
    have hn := ih (i + 1) (by omega) (by omega)
    rw [show ((i + 1 : Nat) : Int) = wrap64 ((i : Int) + 1) from by rw [wrap_id (by omega) (by omega)]; omega] at hn
    exact hn
theorem laws_eqInt64S.refl (l : List Int) (hl : l.length ≤ 1048576) : Ev (fun k => laws_eqInt64S.f k l l) true := by
  unfold laws_eqInt64S.f
  exact Ev.pos rfl (laws_eqInt64S.refl0 l hl _ 0 rfl (Nat.zero_le _))

end

section
theorem laws_szConf.sz (l0 l1 : List Int) (a : Int) (h0 : 0 ≤ a) (h1 : a ≤ 1048576) (hl0 : l0.length ≤ maxLen) (hl1 : l1.length ≤ maxLen) : ∃ r, laws_szConf.f l0 l1 a = some r ∧ (r < 0 ∨ (0 ≤ r ∧ r ≤ a ∧ l0.length ≤ 1048576 ∧ l1.length ≤ 1048576)) := by
  unfold laws_szConf.f
  obtain ⟨r, hr, h⟩ := laws_szInt64S.sz l0 a h0 h1 hl0
  rw [hr, Option.bind_some]
  rcases h with h | ⟨h2, h3, h4⟩
  · exact ⟨-1, by rw [if_pos h], .inl (by omega)⟩
  · rw [if_neg (by omega)]
    obtain ⟨q, hq, h⟩ := laws_szInt64S.sz l1 r h2 (by omega) hl1
    rw [hq, Option.bind_some]
    rcases h with h | ⟨h5, h6, h7⟩
    · exact ⟨-1, by rw [if_pos h], .inl (by omega)⟩
    · exact ⟨q, by rw [if_neg (by omega)], .inr ⟨h5, by omega, h4, h7⟩⟩
theorem laws_toConf.ev (l0 l1 : List Int) (h0 : l0.length ≤ 1048576) (h1 : l1.length ≤ 1048576) : Ev (fun k => laws_toConf.f k l0 l1) (l0, l1) := by
  unfold laws_toConf.f
  exact Ev.bind (laws_toInt64S.ev l0 h0) (Ev.bind (laws_toInt64S.ev l1 h1) (Ev.ret _))
theorem laws_eqConf.refl (l0 l1 : List Int) (h0 : l0.length ≤ 1048576) (h1 : l1.length ≤ 1048576) : Ev (fun k => laws_eqConf.f k l0 l1 l0 l1) true := by
  unfold laws_eqConf.f
  exact Ev.bind (laws_eqInt64S.refl l0 h0) (Ev.pos rfl (Ev.bind (laws_eqInt64S.refl l1 h1) (Ev.pos rfl (Ev.ret _))))

end

section
theorem laws_markInt64S.l0_ok (q : Int) (hq : 0 ≤ q) (hq2 : q ≤ 1099511627776) (d : Nat) : ∀ (i : Nat) (l : List Int), l.length - i = d → i ≤ l.length → l.length ≤ 1099511627776 → (∀ j : Nat, j < i → rd l j = q + j) →
    ∃ l' : List Int, Ev (fun k => laws_markInt64S.l0 k l (q + i) i) (q + l.length, l') ∧ l'.length = l.length ∧ ∀ j : Nat, j < l'.length → rd l' j = q + j := by
  induction d with
  | zero =>
    intro i l hd hi hl hm
    refine ⟨l, ?_, rfl, fun j hj => hm j (by omega)⟩
    refine Ev.step (fun k => by rw [laws_markInt64S.l0]) ?_
    refine Ev.neg (by omega) (Ev.ret' ?_)
    rw [show i = l.length by omega]
  | succ d ih =>
    intro i l hd hi hl hm
    obtain ⟨l', h1, h2, h3⟩ := ih (i + 1) (l.set i (q + i)) (by rw [List.length_set]; omega) (by rw [List.length_set]; omega) (by rw [List.length_set]; omega) (fun j hj => by
      rw [rd_nat _ j (by rw [List.length_set]; omega), List.getElem_set]
      split
      · omega
      · rw [← rd_nat l j (by omega)]
        exact hm j (by omega))
    rw [List.length_set] at h1 h2
    refine ⟨l', ?_, h2, h3⟩
    refine Ev.step (fun k => by rw [laws_markInt64S.l0]) ?_
    refine Ev.pos (by omega) (Ev.pos (by omega) ?_)
    rw [wrap_id (x := q + i + 1) (by omega) (by omega), wrap_id (x := (i : Int) + 1) (by omega) (by omega), Int.toNat_natCast]
    rw [show q + ((i + 1 : Nat) : Int) = q + i + 1 by omega, show ((i + 1 : Nat) : Int) = (i : Int) + 1 by omega] at h1
    exact h1
theorem laws_heldInt64S.l0_ok (q : Int) (hq : 0 ≤ q) (hq2 : q ≤ 1099511627776) (l : List Int) (hl : l.length ≤ 1099511627776) (hm : ∀ j : Nat, j < l.length → rd l j = q + j) (d : Nat) : ∀ i : Nat, l.length - i = d → i ≤ l.length →
    Ev (fun k => laws_heldInt64S.l0 k l (q + i) i) (q + l.length) := by
  induction d with
  | zero =>
    intro i hd hi
    refine Ev.step (fun k => by rw [laws_heldInt64S.l0]) ?_
    refine Ev.neg (by omega) (Ev.ret' ?_)
    rw [show i = l.length by omega]
  | succ d ih =>
    intro i hd hi
    have hn := ih (i + 1) (by omega) (by omega)
    refine Ev.step (fun k => by rw [laws_heldInt64S.l0]) ?_
    refine Ev.pos (by omega) (Ev.pos (by omega) (Ev.pos (hm i (by omega)) ?_))
    rw [wrap_id (x := q + i + 1) (by omega) (by omega), wrap_id (x := (i : Int) + 1) (by omega) (by omega)]
    rw [show q + ((i + 1 : Nat) : Int) = q + i + 1 by omega, show ((i + 1 : Nat) : Int) = (i : Int) + 1 by omega] at hn
    exact hn
theorem Int64S_marked (q : Int) (hq : 0 ≤ q) (hq2 : q ≤ 1099511627776) (l : List Int) (hl : l.length ≤ 1099511627776) :
    ∃ l' : List Int, Ev (fun k => laws_markInt64S.f k l q) (q + l.length, l') ∧ l'.length = l.length ∧ Ev (fun k => laws_heldInt64S.f k l' q) (q + l.length) := by
  obtain ⟨l', h1, h2, h3⟩ := laws_markInt64S.l0_ok q hq hq2 _ 0 l rfl (Nat.zero_le _) hl (fun j hj => by omega)
  have h4 := laws_heldInt64S.l0_ok q hq hq2 l' (by omega) h3 _ 0 rfl (Nat.zero_le _)
  rw [h2] at h4
  rw [show q + ((0 : Nat) : Int) = q by omega] at h1 h4
  exact ⟨l', h1, h2, h4⟩

end

section
theorem conf_marked (l0 l1 : List Int) (h0 : l0.length ≤ 68719476736) (h1 : l1.length ≤ 68719476736) (q : Int) (hq : 0 ≤ q) (hq2 : q ≤ 1048576) :
    ∃ a b r, Ev (fun k => laws_markConf.f k l0 l1 q) (r, a, b) ∧ Ev (fun k => laws_heldConf.f k a b q) r ∧ q ≤ r := by
  obtain ⟨a, a1, a2, a3⟩ := Int64S_marked q hq (by omega) l0 (by omega)
  obtain ⟨b, b1, b2, b3⟩ := Int64S_marked (q + (l0.length : Int)) (by omega) (by omega) l1 (by omega)
  refine ⟨a, b, q + (l0.length : Int) + (l1.length : Int), ?_, ?_, ?_⟩
  · unfold laws_markConf.f
    exact Ev.bind a1 (Ev.bind b1 (Ev.ret _))
  · unfold laws_heldConf.f
    exact Ev.bind a3 (Ev.neg (by omega) (Ev.bind b3 (Ev.neg (by omega) (Ev.ret _))))
  · omega

end

section
def okI (k : IntKind) (x : Int) : Prop := (Lit.int k x).wf = true
def okB (_ : Bool) : Prop := True
def okL {α : Type} (ok : α → Prop) (l : List α) : Prop := l.length ≤ maxLen ∧ ∀ x ∈ l, ok x
def Opens {α : Type} (P : Program) (t : TypeId) (d : Kd α) (ok : α → Prop) : Prop :=
  ∀ (H : Type) (enc : TypeId × Value → H) (W : World) (base : Nat) (spare : Nat → Bool) (held : Bool) (fuel : Nat) (cs : List Value) (y : DataW H × List MemPlace),
    DataW.trod enc P W base spare held fuel t cs = some y → ∃ x, d.K W x cs ∧ ok x
theorem Opens.int {P : Program} {t : TypeId} {k : IntKind} (ht : P.underlying t = some (.int k)) : Opens P t (Kd.int k) (okI k) := by
  intro H enc W base spare held fuel cs y h
  obtain ⟨n, rfl, _, hw⟩ := DataW.trod_int ht h
  exact ⟨n, rfl, hw⟩
theorem Opens.bool {P : Program} {t : TypeId} (ht : P.underlying t = some .bool) : Opens P t Kd.bool okB := by
  intro H enc W base spare held fuel cs y h
  obtain ⟨n, rfl, _⟩ := DataW.trod_bool ht h
  exact ⟨n, rfl, trivial⟩
theorem list_of_index {α : Type} {p : Nat → α → Prop} (n : Nat) (h : ∀ i, i < n → ∃ x, p i x) : ∃ xs : List α, xs.length = n ∧ ∀ i x, xs[i]? = some x → p i x := by
  induction n with
  | zero => exact ⟨[], rfl, fun i x hx => by simp at hx⟩
  | succ n ih =>
    obtain ⟨xs, hl, hx⟩ := ih (fun i hi => h i (by omega))
    obtain ⟨y, hy⟩ := h n (by omega)
    refine ⟨xs ++ [y], by simp [hl], fun i x he => ?_⟩
    by_cases hi : i < xs.length
    · rw [List.getElem?_append_left hi] at he
      exact hx i x he
    · rw [List.getElem?_append_right (by omega)] at he
      by_cases e : i = xs.length
      · subst e
        simp at he
        subst he
        rw [hl]
        exact hy
      · rw [List.getElem?_eq_none (by simp; omega)] at he
        cases he
theorem Opens.slice {α : Type} {P : Program} {t e : TypeId} {d : Kd α} {ok : α → Prop} (ht : P.underlying t = some (.slice e)) (hd : Opens P e d ok) (hs : P.cellsOf e = d.sz) : Opens P t (Kd.slice e d) (okL ok) := by
  intro H enc W base spare held fuel cs y h
  rcases Deep.open_slice ht h with ⟨rfl, _⟩ | ⟨a, len, cap, m, n, D, Pl, rfl, hb, hl, hm, hme, _, hel⟩
  · exact ⟨[], ⟨none, 0, rfl, Nat.le_refl _, Kd.C_nil _ _⟩, Nat.zero_le _, fun x hx => by simp at hx⟩
  · have hlm : len ≤ m := by
      rw [hme]
      split <;> omega
    have hx : ∀ i, i < len → ∃ x, ok x ∧ ∃ cs', W.cells? base (a.add (i * P.cellsOf e)) (P.cellsOf e) = some cs' ∧ d.K W x cs' := by
      intro i hi
      obtain ⟨cs', h1, h2⟩ := hel i (by omega)
      obtain ⟨x, hk, ho⟩ := hd H enc W base spare held n cs' _ h2
      exact ⟨x, ho, cs', h1, hk⟩
    obtain ⟨xs, rfl, hxs⟩ := list_of_index len hx
    have hmax : xs.length ≤ maxLen := Nat.le_trans hl hm
    refine ⟨xs, ⟨some a, cap, rfl, hl, rfl, hmax, fun _ => ⟨a, rfl, ?_⟩⟩, hmax, ?_⟩
    · intro j p hp
      obtain ⟨_, cs', h1, h2⟩ := hxs j p hp
      refine ⟨cs', d.K_len h2, h2, fun i u hu => ?_⟩
      unfold World.cells? at h1
      split at h1
      · have hi : i < P.cellsOf e := by
          rw [hs, ← d.K_len h2]
          exact (List.getElem?_eq_some_iff.1 hu).1
        have := mapM_some_get h1 i i (by rw [List.getElem?_range hi])
        rw [Addr.add_add, hs] at this
        rw [this]
        exact hu
      · cases h1
    · intro x hx'
      obtain ⟨i, hi, rfl⟩ := List.getElem_of_mem hx'
      exact (hxs i _ (List.getElem?_eq_getElem hi)).1
theorem trod_fields {H : Type} {enc : TypeId × Value → H} {P : Program} {W : World} {base : Nat} {spare : Nat → Bool} {held : Bool} {fuel : Nat} {t : TypeId} {cs : List Value} {y : DataW H × List MemPlace} {fs : Array Field}
    (ht : P.underlying t = some (.struct fs)) (h : DataW.trod enc P W base spare held fuel t cs = some y) :
    cs.length = P.cellsOf t ∧ ∃ n, ∀ (i : Nat) (f : Field), fs[i]? = some f → ∃ z, DataW.trod enc P W base spare held n f.type ((cs.drop f.offset).take (P.cellsOf f.type)) = some z := by
  obtain ⟨xs, n, _, _, hl, hsz, hf⟩ := DataW.trod_struct ht h
  refine ⟨hl, n, fun i f hi => ?_⟩
  have h1 := hf i f hi
  have h2 : i < xs.length := by
    rw [hsz]
    exact (Array.getElem?_eq_some_iff.1 hi).1
  rw [List.getElem?_eq_getElem h2] at h1
  exact ⟨_, h1⟩

end

end Go.Proofs.Ytolloakdibhidaa.Q
