/- Part 3 of what the row of FnExactDiskOk needs: functions of the program as plain Lean functions, their contracts, and lemmas; made by a program of this session out of its texts. -/
import Derived.Deep.Slices
import Derived.ChangeArms
import Derived.DataReads
import Derived.DataElems
import Derived.Test.YtfjoamlgbegpgaaCFnExactDiskOk0
import Derived.Test.YtfjoamlgbegpgaaCFnExactDiskOk1
import Derived.Test.YtfjoamlgbegpgaaCFnExactDiskOk2
namespace Go.Proofs.Ytfjoamlgbegpgaa.Q
open Go.RowKit Go.Proofs.YtfjoamlgbegpgaaW.PrintWords Go.Proofs.YtfjoamlgbegpgaaW.PrintLast Go.Proofs.YtfjoamlgbegpgaaW.PrintMore
attribute [local go_sem] max2_int min2_int max_two min_two max_three min_three max_four min_four   -- for this text's walks alone
set_option linter.unusedVariables false
set_option linter.unusedSimpArgs false
section
/-! ### laws_FnExactDiskOk: function 3 -/
def laws_FnExactDiskOk.f (k : Nat) (l0_0 : List (S106)) (l0_1 : List (S106)) (l0_2 : List (S108)) : Option (Bool) := (laws_szDisk.f k l0_0 l0_1 l0_2 1048576).bind fun t102 => (if t102 < 0 then (some true) else ((laws_toDisk.f k l0_0 l0_1 l0_2).bind fun bt103 => ((spec_DiskOk.f k bt103.1 bt103.2.1 bt103.2.2).bind fun t112 => ((laws_toDisk.f k l0_0 l0_1 l0_2).bind fun bt113 => ((impl_DiskOk.f bt113.1 bt113.2.1 bt113.2.2).bind fun t123 => (if (t123 != t112) = true then (some false) else ((laws_toDisk.f k l0_0 l0_1 l0_2).bind fun bt124 => ((laws_eqDisk.f k bt113.1 bt113.2.1 bt113.2.2 bt124.1 bt124.2.1 bt124.2.2).bind fun t133 => (if t133 = true then (some true) else (some false))))))))))
theorem laws_FnExactDiskOk.mono : ∀ a0 a1 a2 k, LeO (laws_FnExactDiskOk.f k a0 a1 a2) (laws_FnExactDiskOk.f (k + 1) a0 a1 a2) := by
  intro a0 a1 a2 k
  unfold laws_FnExactDiskOk.f
  repeat' first
      | (with_reducible exact laws_eqDisk.mono _ _ _ _ _ _ _)
      | (with_reducible exact laws_szDisk.mono _ _ _ _ _)
      | (with_reducible exact laws_toDisk.mono _ _ _ _)
      | (with_reducible exact spec_DiskOk.mono _ _ _ _)
      | (with_reducible exact LeO.refl _)
      | (with_reducible exact LeO.none _)
      | (with_reducible refine LeO.ite ?_ ?_)
      | (with_reducible refine LeO.bind ?_ (fun _ => ?_))
      | exact laws_eqDisk.mono _ _ _ _ _ _ _
      | exact laws_szDisk.mono _ _ _ _ _
      | exact laws_toDisk.mono _ _ _ _
      | exact spec_DiskOk.mono _ _ _ _
      | exact LeO.none _
      | refine LeO.ite ?_ ?_
      | refine LeO.bind ?_ (fun _ => ?_)
set_option maxHeartbeats 8000000 in
set_option maxRecDepth 100000 in
theorem laws_FnExactDiskOk.calls (k : Nat) (A0_0 : Option Addr) (c0_0 : Nat) (l0_0 : List (S106)) (A0_1 : Option Addr) (c0_1 : Nat) (l0_1 : List (S106)) (A0_2 : Option Addr) (c0_2 : Nat) (l0_2 : List (S108)) (w : World) (hr0_0 : Kd.C k106 w A0_0 l0_0.length l0_0) (hc0_0 : l0_0.length ≤ c0_0) (hr0_1 : Kd.C k106 w A0_1 l0_1.length l0_1) (hc0_1 : l0_1.length ≤ c0_1) (hr0_2 : Kd.C k108 w A0_2 l0_2.length l0_2) (hc0_2 : l0_2.length ≤ c0_2) (h : laws_FnExactDiskOk.f k l0_0 l0_1 l0_2 = some true) :
    Calls Try.prog 3 #[.agg #[.slice A0_0 l0_0.length c0_0, .slice A0_1 l0_1.length c0_1, .slice A0_2 l0_2.length c0_2]] w fun e w' => e = .returned (.bool true) ∧ Below w.heap.size w w' := by
  have hu25 := Try.underlying25
  have hu31 := Try.underlying31
  have HR0_0 := Aside0.mk hr0_0
  have HC0_0 := Aside0.mk hc0_0
  clear hr0_0 hc0_0
  have HR0_1 := Aside0.mk hr0_1
  have HC0_1 := Aside0.mk hc0_1
  clear hr0_1 hc0_1
  have HR0_2 := Aside0.mk hr0_2
  have HC0_2 := Aside0.mk hc0_2
  clear hr0_2 hc0_2
  have HB := Aside0.mk (Below.refl w.heap.size w)
  have H : ((laws_szDisk.f k l0_0 l0_1 l0_2 1048576).bind fun t102 => (if t102 < 0 then (some true) else ((laws_toDisk.f k l0_0 l0_1 l0_2).bind fun bt103 => ((spec_DiskOk.f k bt103.1 bt103.2.1 bt103.2.2).bind fun t112 => ((laws_toDisk.f k l0_0 l0_1 l0_2).bind fun bt113 => ((impl_DiskOk.f bt113.1 bt113.2.1 bt113.2.2).bind fun t123 => (if (t123 != t112) = true then (some false) else ((laws_toDisk.f k l0_0 l0_1 l0_2).bind fun bt124 => ((laws_eqDisk.f k bt113.1 bt113.2.1 bt113.2.2 bt124.1 bt124.2.1 bt124.2.2).bind fun t133 => (if t133 = true then (some true) else (some false))))))))))) = some true := h
  clear h
  replace H := Option.bind_eq_some_iff.mp H
  obtain ⟨t102, A20, H⟩ := H
  replace H : (if t102 < 0 then (some true) else ((laws_toDisk.f k l0_0 l0_1 l0_2).bind fun bt103 => ((spec_DiskOk.f k bt103.1 bt103.2.1 bt103.2.2).bind fun t112 => ((laws_toDisk.f k l0_0 l0_1 l0_2).bind fun bt113 => ((impl_DiskOk.f bt113.1 bt113.2.1 bt113.2.2).bind fun t123 => (if (t123 != t112) = true then (some false) else ((laws_toDisk.f k l0_0 l0_1 l0_2).bind fun bt124 => ((laws_eqDisk.f k bt113.1 bt113.2.1 bt113.2.2 bt124.1 bt124.2.1 bt124.2.2).bind fun t133 => (if t133 = true then (some true) else (some false)))))))))) = some true := H
  have A2 := Aside0.mk A20
  clear A20
  by_cases c3 : t102 < 0
  · rw [if_pos c3] at H
    have c3b0 : decide (t102 < 0) = true := decide_eq_true c3
    clear c3
    clear H
    go_enter Try.func3, Try.ntmps3
    go_wp2_with (first | ((with_reducible refine gate_dst (N := 1) rfl ?_); refine box_event ?hg (N := 1) ?hd (cs := #[.slice A0_0 l0_0.length c0_0, .slice A0_1 l0_1.length c0_1, .slice A0_2 l0_2.length c0_2]) (t := 25) ?hr ?_; (case hd => rfl); (case hg => rfl); (case hr => first | (go_simp; done) | (go_simp; rfl)); intro gb101 hg w4 hbox hb; have n0_ := Aside0.mk (below_step (by repeat (first | (with_reducible first | exact HB.out | apply below_alloc | apply pw_below_drewN | apply below_drew1) | exact HB.out)) hb); have n1_ := Aside0.mk (hbox); have n2_ := Aside0.mk ((by rw [hg]; exact (below_size (by repeat (first | (with_reducible first | exact HB.out | apply below_alloc | apply pw_below_drewN | apply below_drew1) | exact HB.out))) : w.heap.size ≤ gb101)); have n3_ := Aside0.mk ((by rw [hg]; exact (below_size (by repeat (first | (with_reducible first | exact HB.out | apply below_alloc | apply pw_below_drewN | apply below_drew1) | exact HB.out))) : w.heap.size ≤ gb101)); clear HB; have HB := n0_; have BK101 := n1_; have GW101 := n2_; have GE101 := n3_; clear n0_ n1_ n2_ n3_; clear hb hbox hg; have hcz5_0 : w4.cell? ⟨gb101, 0, none⟩ = some (.slice A0_0 l0_0.length c0_0) := (blk_cell BK101.out 0).trans rfl; have hcz5_1 : w4.cell? ⟨gb101, 1, none⟩ = some (.slice A0_1 l0_1.length c0_1) := (blk_cell BK101.out 1).trans rfl; have hcz5_2 : w4.cell? ⟨gb101, 2, none⟩ = some (.slice A0_2 l0_2.length c0_2) := (blk_cell BK101.out 2).trans rfl; have hfz5_0 := blk_frozen BK101.out 0; have hfz5_1 := blk_frozen BK101.out 1; have hfz5_2 := blk_frozen BK101.out 2) | ((with_reducible refine gate_callee (f := 12) rfl ?_); refine goesL_ (some 9) rfl rfl Try.func12 (by kernel_rfl) rfl #[.agg #[.slice A0_0 l0_0.length c0_0, .slice A0_1 l0_1.length c0_1, .slice A0_2 l0_2.length c0_2], .int .i64 1048576] rfl (by (try simp only [List.map_toArray, List.map_cons, List.map_nil]); first | done | rfl | (simp only [List.length_drop, List.length_take]; rfl)) ?_; (with_reducible refine (laws_szDisk.calls k _ _ l0_0 _ _ l0_1 _ _ l0_2 1048576 t102 _ ?side1 ?side2 ?side3 ?side4 ?side5 ?side6 A2.out).mono ?_); (case side1 => repeat (first | exact (Kd.C_below HR0_0.out HB.out) | (with_reducible refine Kd.C_alloc ?_ _) | (with_reducible refine Kd.C_drewN ?_ _) | (with_reducible refine Kd.C_drew ?_))); (case side2 => exact HC0_0.out); (case side3 => repeat (first | exact (Kd.C_below HR0_1.out HB.out) | (with_reducible refine Kd.C_alloc ?_ _) | (with_reducible refine Kd.C_drewN ?_ _) | (with_reducible refine Kd.C_drew ?_))); (case side4 => exact HC0_1.out); (case side5 => repeat (first | exact (Kd.C_below HR0_2.out HB.out) | (with_reducible refine Kd.C_alloc ?_ _) | (with_reducible refine Kd.C_drewN ?_ _) | (with_reducible refine Kd.C_drew ?_))); (case side6 => exact HC0_2.out); rintro e w6 ⟨rfl, hb⟩; refine ⟨_, rfl, ?_⟩; have n0_ := Aside0.mk (blk_below (g := gb101) (o := .cells #[.slice A0_0 l0_0.length c0_0, .slice A0_1 l0_1.length c0_1, .slice A0_2 l0_2.length c0_2] 25 (0, 0)) (by (with_reducible repeat (first | refine blk_drewN ?_ _ | refine blk_drew ?_ | refine blk_alloc ?_ _)); exact BK101.out) hb); have n1_ := Aside0.mk (below_step (by repeat (first | (with_reducible first | exact HB.out | apply below_alloc | apply pw_below_drewN | apply below_drew1 | refine below_set ?_ GE101.out) | exact HB.out)) hb); clear BK101; clear HB; have BK101 := n0_; have HB := n1_; clear n0_ n1_; (try clear hb); (try clear hb2); (try clear hk); (try clear hi)))
    go_ret
    exact ⟨by first | rfl | (simp [errW_none, errW_some] <;> rfl) | (simp [*, errW_none, errW_some] <;> rfl), by repeat (first | (with_reducible first | exact HB.out | apply below_alloc | apply pw_below_drewN | apply below_drew1 | refine below_set ?_ GE101.out) | exact HB.out)⟩
  · rw [if_neg c3] at H
    have c3b0 : decide (t102 < 0) = false := decide_eq_false c3
    clear c3
    replace H := Option.bind_eq_some_iff.mp H
    obtain ⟨⟨t103, t106, t109⟩, A70, H⟩ := H
    replace H : ((spec_DiskOk.f k t103 t106 t109).bind fun t112 => ((laws_toDisk.f k l0_0 l0_1 l0_2).bind fun bt113 => ((impl_DiskOk.f bt113.1 bt113.2.1 bt113.2.2).bind fun t123 => (if (t123 != t112) = true then (some false) else ((laws_toDisk.f k l0_0 l0_1 l0_2).bind fun bt124 => ((laws_eqDisk.f k bt113.1 bt113.2.1 bt113.2.2 bt124.1 bt124.2.1 bt124.2.2).bind fun t133 => (if t133 = true then (some true) else (some false)))))))) = some true := H
    have A7 := Aside0.mk A70
    clear A70
    replace H := Option.bind_eq_some_iff.mp H
    obtain ⟨t112, A80, H⟩ := H
    replace H : ((laws_toDisk.f k l0_0 l0_1 l0_2).bind fun bt113 => ((impl_DiskOk.f bt113.1 bt113.2.1 bt113.2.2).bind fun t123 => (if (t123 != t112) = true then (some false) else ((laws_toDisk.f k l0_0 l0_1 l0_2).bind fun bt124 => ((laws_eqDisk.f k bt113.1 bt113.2.1 bt113.2.2 bt124.1 bt124.2.1 bt124.2.2).bind fun t133 => (if t133 = true then (some true) else (some false))))))) = some true := H
    have A8 := Aside0.mk A80
    clear A80
    replace H := Option.bind_eq_some_iff.mp H
    obtain ⟨⟨t113, t116, t119⟩, A90, H⟩ := H
    replace H : ((impl_DiskOk.f t113 t116 t119).bind fun t123 => (if (t123 != t112) = true then (some false) else ((laws_toDisk.f k l0_0 l0_1 l0_2).bind fun bt124 => ((laws_eqDisk.f k t113 t116 t119 bt124.1 bt124.2.1 bt124.2.2).bind fun t133 => (if t133 = true then (some true) else (some false)))))) = some true := H
    have A9 := Aside0.mk A90
    clear A90
    replace H := Option.bind_eq_some_iff.mp H
    obtain ⟨t123, A100, H⟩ := H
    replace H : (if (t123 != t112) = true then (some false) else ((laws_toDisk.f k l0_0 l0_1 l0_2).bind fun bt124 => ((laws_eqDisk.f k t113 t116 t119 bt124.1 bt124.2.1 bt124.2.2).bind fun t133 => (if t133 = true then (some true) else (some false))))) = some true := H
    have A10 := Aside0.mk A100
    clear A100
    by_cases c11 : (t123 != t112) = true
    · rw [if_pos c11] at H
      have c11b0 : (t123 != t112) = true := c11
      (try (have c11b1 : decide (t123 = t112) = false := by simpa using c11))
      (try (have c11b2 : (t123 == t112) = false := by simpa using c11))
      (try (have c11b3 : ¬ (t123 = t112) := by simpa using c11))
      clear c11
      exact absurd (Option.some.inj H) (by decide)
    · rw [if_neg c11] at H
      have c11b0 : (t123 != t112) = false := by simpa using c11
      (try (have c11b1 : decide (t123 = t112) = true := by simpa using c11))
      (try (have c11b2 : (t123 == t112) = true := by simpa using c11))
      clear c11
      replace H := Option.bind_eq_some_iff.mp H
      obtain ⟨⟨t124, t127, t130⟩, A120, H⟩ := H
      replace H : ((laws_eqDisk.f k t113 t116 t119 t124 t127 t130).bind fun t133 => (if t133 = true then (some true) else (some false))) = some true := H
      have A12 := Aside0.mk A120
      clear A120
      replace H := Option.bind_eq_some_iff.mp H
      obtain ⟨t133, A130, H⟩ := H
      replace H : (if t133 = true then (some true) else (some false)) = some true := H
      have A13 := Aside0.mk A130
      clear A130
      by_cases c14 : t133 = true
      · subst c14
        have H1 : (some true) = some true := by first | (with_reducible rfl) | (rw [if_pos rfl] at H; exact H)
        clear H
        have H := H1
        clear H1
        clear H
        go_enter Try.func3, Try.ntmps3
        try go_wp2_with (first | ((with_reducible refine gate_dst (N := 1) rfl ?_); refine box_event ?hg (N := 1) ?hd (cs := #[.slice A0_0 l0_0.length c0_0, .slice A0_1 l0_1.length c0_1, .slice A0_2 l0_2.length c0_2]) (t := 25) ?hr ?_; (case hd => rfl); (case hg => rfl); (case hr => first | (go_simp; done) | (go_simp; rfl)); intro gb101 hg w15 hbox hb; have n0_ := Aside0.mk (below_step (by repeat (first | (with_reducible first | exact HB.out | apply below_alloc | apply pw_below_drewN | apply below_drew1) | exact HB.out)) hb); have n1_ := Aside0.mk (hbox); have n2_ := Aside0.mk ((by rw [hg]; exact (below_size (by repeat (first | (with_reducible first | exact HB.out | apply below_alloc | apply pw_below_drewN | apply below_drew1) | exact HB.out))) : w.heap.size ≤ gb101)); have n3_ := Aside0.mk ((by rw [hg]; exact (below_size (by repeat (first | (with_reducible first | exact HB.out | apply below_alloc | apply pw_below_drewN | apply below_drew1) | exact HB.out))) : w.heap.size ≤ gb101)); clear HB; have HB := n0_; have BK101 := n1_; have GW101 := n2_; have GE101 := n3_; clear n0_ n1_ n2_ n3_; clear hb hbox hg; have hcz16_0 : w15.cell? ⟨gb101, 0, none⟩ = some (.slice A0_0 l0_0.length c0_0) := (blk_cell BK101.out 0).trans rfl; have hcz16_1 : w15.cell? ⟨gb101, 1, none⟩ = some (.slice A0_1 l0_1.length c0_1) := (blk_cell BK101.out 1).trans rfl; have hcz16_2 : w15.cell? ⟨gb101, 2, none⟩ = some (.slice A0_2 l0_2.length c0_2) := (blk_cell BK101.out 2).trans rfl; have hfz16_0 := blk_frozen BK101.out 0; have hfz16_1 := blk_frozen BK101.out 1; have hfz16_2 := blk_frozen BK101.out 2) | ((with_reducible refine gate_callee (f := 12) rfl ?_); refine goesL_ (some 9) rfl rfl Try.func12 (by kernel_rfl) rfl #[.agg #[.slice A0_0 l0_0.length c0_0, .slice A0_1 l0_1.length c0_1, .slice A0_2 l0_2.length c0_2], .int .i64 1048576] rfl (by (try simp only [List.map_toArray, List.map_cons, List.map_nil]); first | done | rfl | (simp only [List.length_drop, List.length_take]; rfl)) ?_; (with_reducible refine (laws_szDisk.calls k _ _ l0_0 _ _ l0_1 _ _ l0_2 1048576 t102 _ ?side1 ?side2 ?side3 ?side4 ?side5 ?side6 A2.out).mono ?_); (case side1 => repeat (first | exact (Kd.C_below HR0_0.out HB.out) | (with_reducible refine Kd.C_alloc ?_ _) | (with_reducible refine Kd.C_drewN ?_ _) | (with_reducible refine Kd.C_drew ?_))); (case side2 => exact HC0_0.out); (case side3 => repeat (first | exact (Kd.C_below HR0_1.out HB.out) | (with_reducible refine Kd.C_alloc ?_ _) | (with_reducible refine Kd.C_drewN ?_ _) | (with_reducible refine Kd.C_drew ?_))); (case side4 => exact HC0_1.out); (case side5 => repeat (first | exact (Kd.C_below HR0_2.out HB.out) | (with_reducible refine Kd.C_alloc ?_ _) | (with_reducible refine Kd.C_drewN ?_ _) | (with_reducible refine Kd.C_drew ?_))); (case side6 => exact HC0_2.out); rintro e w17 ⟨rfl, hb⟩; refine ⟨_, rfl, ?_⟩; have n0_ := Aside0.mk (blk_below (g := gb101) (o := .cells #[.slice A0_0 l0_0.length c0_0, .slice A0_1 l0_1.length c0_1, .slice A0_2 l0_2.length c0_2] 25 (0, 0)) (by (with_reducible repeat (first | refine blk_drewN ?_ _ | refine blk_drew ?_ | refine blk_alloc ?_ _)); exact BK101.out) hb); have n1_ := Aside0.mk (below_step (by repeat (first | (with_reducible first | exact HB.out | apply below_alloc | apply pw_below_drewN | apply below_drew1 | refine below_set ?_ GE101.out) | exact HB.out)) hb); clear BK101; clear HB; have BK101 := n0_; have HB := n1_; clear n0_ n1_; (try clear hb); (try clear hb2); (try clear hk); (try clear hi); have hcz18_0 : w17.cell? ⟨gb101, 0, none⟩ = some (.slice A0_0 l0_0.length c0_0) := (blk_cell BK101.out 0).trans rfl; have hcz18_1 : w17.cell? ⟨gb101, 1, none⟩ = some (.slice A0_1 l0_1.length c0_1) := (blk_cell BK101.out 1).trans rfl; have hcz18_2 : w17.cell? ⟨gb101, 2, none⟩ = some (.slice A0_2 l0_2.length c0_2) := (blk_cell BK101.out 2).trans rfl; have hfz18_0 := blk_frozen BK101.out 0; have hfz18_1 := blk_frozen BK101.out 1; have hfz18_2 := blk_frozen BK101.out 2) | ((with_reducible refine gate_callee (f := 14) rfl ?_); refine goesL_ (some 13) rfl rfl Try.func14 (by kernel_rfl) rfl #[.agg #[.slice A0_0 l0_0.length c0_0, .slice A0_1 l0_1.length c0_1, .slice A0_2 l0_2.length c0_2]] rfl (by (try simp only [List.map_toArray, List.map_cons, List.map_nil]); first | done | rfl | (simp only [List.length_drop, List.length_take]; rfl)) ?_; (with_reducible refine (laws_toDisk.calls k _ _ l0_0 _ _ l0_1 _ _ l0_2 t103 t106 t109 _ ?side1 ?side2 ?side3 ?side4 ?side5 ?side6 A7.out).mono ?_); (case side1 => repeat (first | exact (Kd.C_below HR0_0.out HB.out) | (with_reducible refine Kd.C_alloc ?_ _) | (with_reducible refine Kd.C_drewN ?_ _) | (with_reducible refine Kd.C_drew ?_))); (case side2 => exact HC0_0.out); (case side3 => repeat (first | exact (Kd.C_below HR0_1.out HB.out) | (with_reducible refine Kd.C_alloc ?_ _) | (with_reducible refine Kd.C_drewN ?_ _) | (with_reducible refine Kd.C_drew ?_))); (case side4 => exact HC0_1.out); (case side5 => repeat (first | exact (Kd.C_below HR0_2.out HB.out) | (with_reducible refine Kd.C_alloc ?_ _) | (with_reducible refine Kd.C_drewN ?_ _) | (with_reducible refine Kd.C_drew ?_))); (case side6 => exact HC0_2.out); rintro e w19 ⟨v104, v107, v110, rfl, ho0, ho1, ho2, hb⟩; refine ⟨_, rfl, ?_⟩; have n0_ := Aside0.mk (Kd.R_lower ho0 (below_size (by repeat (first | (with_reducible first | exact HB.out | apply below_alloc | apply pw_below_drewN | apply below_drew1 | refine below_set ?_ GE101.out) | exact HB.out)))); have n1_ := Aside0.mk (Kd.R_lower ho1 (below_size (by repeat (first | (with_reducible first | exact HB.out | apply below_alloc | apply pw_below_drewN | apply below_drew1 | refine below_set ?_ GE101.out) | exact HB.out)))); have n2_ := Aside0.mk (Kd.R_lower ho2 (below_size (by repeat (first | (with_reducible first | exact HB.out | apply below_alloc | apply pw_below_drewN | apply below_drew1 | refine below_set ?_ GE101.out) | exact HB.out)))); have n3_ := Aside0.mk (blk_below (g := gb101) (o := .cells #[.slice A0_0 l0_0.length c0_0, .slice A0_1 l0_1.length c0_1, .slice A0_2 l0_2.length c0_2] 25 (0, 0)) (by (with_reducible repeat (first | refine blk_drewN ?_ _ | refine blk_drew ?_ | refine blk_alloc ?_ _)); exact BK101.out) hb); have n4_ := Aside0.mk (below_step (by repeat (first | (with_reducible first | exact HB.out | apply below_alloc | apply pw_below_drewN | apply below_drew1 | refine below_set ?_ GE101.out) | exact HB.out)) hb); clear BK101; clear HB; have HO105 := n0_; have HO108 := n1_; have HO111 := n2_; have BK101 := n3_; have HB := n4_; clear n0_ n1_ n2_ n3_ n4_; (try clear hb); (try clear hb2); (try clear hk); (try clear hi); (try clear ho0); (try clear ho1); (try clear ho2); obtain ⟨Ao20, co20, eo20⟩ := Kd.R_slice HO105.out; subst eo20; obtain ⟨Ao21, co21, eo21⟩ := Kd.R_slice HO108.out; subst eo21; obtain ⟨Ao22, co22, eo22⟩ := Kd.R_slice HO111.out; subst eo22) | ((with_reducible refine gate_callee (f := 13) rfl ?_); refine goesL_ (some 14) rfl rfl Try.func13 (by kernel_rfl) rfl #[.agg #[.slice Ao20 t103.length co20, .slice Ao21 t106.length co21, .slice Ao22 t109.length co22]] rfl (by (try simp only [List.map_toArray, List.map_cons, List.map_nil]); first | done | rfl | (simp only [List.length_drop, List.length_take]; rfl)) ?_; (with_reducible refine (spec_DiskOk.calls k _ _ t103 (fun k_ => some k_ = (.slice Ao21 t106.length co21 : Value).ownBlock) _ _ t106 _ _ t109 t112 _ ?side1 ?side2 ?side3 ?side4 ?side5 A8.out).mono ?_); (case side1 => repeat (first | exact (Kd.R_reads' HO105.out).2.2 | (with_reducible refine Kd.C_alloc ?_ _) | (with_reducible refine Kd.C_drewN ?_ _) | (with_reducible refine Kd.C_drew ?_))); (case side2 => exact (Kd.R_reads' HO105.out).2.1); (case side3 => exact Kd.R_V (Kd.R_tight rfl (Kd.R_types (Kd.R_apart' (HO108.out) (Kd.R_typed HO111.out) (by decide)) BK101.out (by decide)))); (case side4 => repeat (first | exact (Kd.R_reads' HO111.out).2.2 | (with_reducible refine Kd.C_alloc ?_ _) | (with_reducible refine Kd.C_drewN ?_ _) | (with_reducible refine Kd.C_drew ?_))); (case side5 => exact (Kd.R_reads' HO111.out).2.1); rintro e w23 ⟨rfl, hb⟩; refine ⟨_, rfl, ?_⟩; have n0_ := Aside0.mk (Kd.R_below (by (with_reducible repeat (first | apply Kd.R_alloc | apply Kd.R_drewN | apply Kd.R_drew)); exact HO105.out) hb); have n1_ := Aside0.mk (Kd.R_below (by (with_reducible repeat (first | apply Kd.R_alloc | apply Kd.R_drewN | apply Kd.R_drew)); exact HO108.out) hb); have n2_ := Aside0.mk (Kd.R_below (by (with_reducible repeat (first | apply Kd.R_alloc | apply Kd.R_drewN | apply Kd.R_drew)); exact HO111.out) hb); have n3_ := Aside0.mk (blk_below (g := gb101) (o := .cells #[.slice A0_0 l0_0.length c0_0, .slice A0_1 l0_1.length c0_1, .slice A0_2 l0_2.length c0_2] 25 (0, 0)) (by (with_reducible repeat (first | refine blk_drewN ?_ _ | refine blk_drew ?_ | refine blk_alloc ?_ _)); exact BK101.out) hb); have n4_ := Aside0.mk (below_step (by repeat (first | (with_reducible first | exact HB.out | apply below_alloc | apply pw_below_drewN | apply below_drew1 | refine below_set ?_ GE101.out) | exact HB.out)) hb); clear HO105; clear HO108; clear HO111; clear BK101; clear HB; have HO105 := n0_; have HO108 := n1_; have HO111 := n2_; have BK101 := n3_; have HB := n4_; clear n0_ n1_ n2_ n3_ n4_; (try clear hb); (try clear hb2); (try clear hk); (try clear hi); have hcz24_0 : w23.cell? ⟨gb101, 0, none⟩ = some (.slice A0_0 l0_0.length c0_0) := (blk_cell BK101.out 0).trans rfl; have hcz24_1 : w23.cell? ⟨gb101, 1, none⟩ = some (.slice A0_1 l0_1.length c0_1) := (blk_cell BK101.out 1).trans rfl; have hcz24_2 : w23.cell? ⟨gb101, 2, none⟩ = some (.slice A0_2 l0_2.length c0_2) := (blk_cell BK101.out 2).trans rfl; have hfz24_0 := blk_frozen BK101.out 0; have hfz24_1 := blk_frozen BK101.out 1; have hfz24_2 := blk_frozen BK101.out 2) | ((with_reducible refine gate_callee (f := 14) rfl ?_); refine goesL_ (some 16) rfl rfl Try.func14 (by kernel_rfl) rfl #[.agg #[.slice A0_0 l0_0.length c0_0, .slice A0_1 l0_1.length c0_1, .slice A0_2 l0_2.length c0_2]] rfl (by (try simp only [List.map_toArray, List.map_cons, List.map_nil]); first | done | rfl | (simp only [List.length_drop, List.length_take]; rfl)) ?_; (with_reducible refine (laws_toDisk.calls k _ _ l0_0 _ _ l0_1 _ _ l0_2 t113 t116 t119 _ ?side1 ?side2 ?side3 ?side4 ?side5 ?side6 A9.out).mono ?_); (case side1 => repeat (first | exact (Kd.C_below HR0_0.out HB.out) | (with_reducible refine Kd.C_alloc ?_ _) | (with_reducible refine Kd.C_drewN ?_ _) | (with_reducible refine Kd.C_drew ?_))); (case side2 => exact HC0_0.out); (case side3 => repeat (first | exact (Kd.C_below HR0_1.out HB.out) | (with_reducible refine Kd.C_alloc ?_ _) | (with_reducible refine Kd.C_drewN ?_ _) | (with_reducible refine Kd.C_drew ?_))); (case side4 => exact HC0_1.out); (case side5 => repeat (first | exact (Kd.C_below HR0_2.out HB.out) | (with_reducible refine Kd.C_alloc ?_ _) | (with_reducible refine Kd.C_drewN ?_ _) | (with_reducible refine Kd.C_drew ?_))); (case side6 => exact HC0_2.out); rintro e w25 ⟨v114, v117, v120, rfl, ho0, ho1, ho2, hb⟩; refine ⟨_, rfl, ?_⟩; have n0_ := Aside0.mk (Kd.R_mono (Kd.R_told (Kd.R_told (Kd.R_old (by (with_reducible repeat (first | apply Kd.R_alloc | apply Kd.R_drewN | apply Kd.R_drew)); exact HO105.out) hb) (Kd.R_base ho0)) (Kd.R_base ho1)) (fun _ h_ => h_.1)); have n1_ := Aside0.mk (Kd.R_mono (Kd.R_told (Kd.R_told (Kd.R_old (by (with_reducible repeat (first | apply Kd.R_alloc | apply Kd.R_drewN | apply Kd.R_drew)); exact HO108.out) hb) (Kd.R_base ho0)) (Kd.R_base ho1)) (fun _ h_ => h_.1)); have n2_ := Aside0.mk (Kd.R_elder' (by (with_reducible repeat (first | apply Kd.R_alloc | apply Kd.R_drewN | apply Kd.R_drew)); exact HO111.out) (Kd.R_base ho2) hb); have n3_ := Aside0.mk (Kd.R_lower (Kd.R_new' (Kd.R_new' ho0 (Kd.R_lt (by (with_reducible repeat (first | apply Kd.R_alloc | apply Kd.R_drewN | apply Kd.R_drew)); exact HO105.out))) (Kd.R_lt (by (with_reducible repeat (first | apply Kd.R_alloc | apply Kd.R_drewN | apply Kd.R_drew)); exact HO108.out))) (below_size (by repeat (first | (with_reducible first | exact HB.out | apply below_alloc | apply pw_below_drewN | apply below_drew1 | refine below_set ?_ GE101.out) | exact HB.out)))); have n4_ := Aside0.mk (Kd.R_lower (Kd.R_new' (Kd.R_new' ho1 (Kd.R_lt (by (with_reducible repeat (first | apply Kd.R_alloc | apply Kd.R_drewN | apply Kd.R_drew)); exact HO105.out))) (Kd.R_lt (by (with_reducible repeat (first | apply Kd.R_alloc | apply Kd.R_drewN | apply Kd.R_drew)); exact HO108.out))) (below_size (by repeat (first | (with_reducible first | exact HB.out | apply below_alloc | apply pw_below_drewN | apply below_drew1 | refine below_set ?_ GE101.out) | exact HB.out)))); have n5_ := Aside0.mk (Kd.R_lower (Kd.R_new' ho2 (Kd.R_lt (by (with_reducible repeat (first | apply Kd.R_alloc | apply Kd.R_drewN | apply Kd.R_drew)); exact HO111.out))) (below_size (by repeat (first | (with_reducible first | exact HB.out | apply below_alloc | apply pw_below_drewN | apply below_drew1 | refine below_set ?_ GE101.out) | exact HB.out)))); have n6_ := Aside0.mk (blk_below (g := gb101) (o := .cells #[.slice A0_0 l0_0.length c0_0, .slice A0_1 l0_1.length c0_1, .slice A0_2 l0_2.length c0_2] 25 (0, 0)) (by (with_reducible repeat (first | refine blk_drewN ?_ _ | refine blk_drew ?_ | refine blk_alloc ?_ _)); exact BK101.out) hb); have n7_ := Aside0.mk (below_step (by repeat (first | (with_reducible first | exact HB.out | apply below_alloc | apply pw_below_drewN | apply below_drew1 | refine below_set ?_ GE101.out) | exact HB.out)) hb); clear HO105; clear HO108; clear HO111; clear BK101; clear HB; have HO105 := n0_; have HO108 := n1_; have HO111 := n2_; have HO115 := n3_; have HO118 := n4_; have HO121 := n5_; have BK101 := n6_; have HB := n7_; clear n0_ n1_ n2_ n3_ n4_ n5_ n6_ n7_; (try clear hb); (try clear hb2); (try clear hk); (try clear hi); (try clear ho0); (try clear ho1); (try clear ho2)) | ((with_reducible refine gate_dst (N := 5) rfl ?_); refine box_event ?hg (N := 5) ?hd (cs := #[.slice none 0 0, .slice none 0 0, .slice none 0 0]) (t := 31) ?hr ?_; (case hd => rfl); (case hg => rfl); (case hr => first | (go_simp; done) | (go_simp; rfl)); intro gb122 hg w26 hbox hb; have n0_ := Aside0.mk (Kd.R_below (by (with_reducible repeat (first | apply Kd.R_alloc | apply Kd.R_drewN | apply Kd.R_drew)); exact HO105.out) hb); have n1_ := Aside0.mk (Kd.R_below (by (with_reducible repeat (first | apply Kd.R_alloc | apply Kd.R_drewN | apply Kd.R_drew)); exact HO108.out) hb); have n2_ := Aside0.mk (Kd.R_below (by (with_reducible repeat (first | apply Kd.R_alloc | apply Kd.R_drewN | apply Kd.R_drew)); exact HO111.out) hb); have n3_ := Aside0.mk (Kd.R_below (by (with_reducible repeat (first | apply Kd.R_alloc | apply Kd.R_drewN | apply Kd.R_drew)); exact HO115.out) hb); have n4_ := Aside0.mk (Kd.R_below (by (with_reducible repeat (first | apply Kd.R_alloc | apply Kd.R_drewN | apply Kd.R_drew)); exact HO118.out) hb); have n5_ := Aside0.mk (Kd.R_below (by (with_reducible repeat (first | apply Kd.R_alloc | apply Kd.R_drewN | apply Kd.R_drew)); exact HO121.out) hb); have n6_ := Aside0.mk (blk_below (g := gb101) (o := .cells #[.slice A0_0 l0_0.length c0_0, .slice A0_1 l0_1.length c0_1, .slice A0_2 l0_2.length c0_2] 25 (0, 0)) (by (with_reducible repeat (first | refine blk_drewN ?_ _ | refine blk_drew ?_ | refine blk_alloc ?_ _)); exact BK101.out) hb); have n7_ := Aside0.mk (below_step (by repeat (first | (with_reducible first | exact HB.out | apply below_alloc | apply pw_below_drewN | apply below_drew1 | refine below_set ?_ GE101.out) | exact HB.out)) hb); have n8_ := Aside0.mk (hbox); have n9_ := Aside0.mk ((by rw [hg]; exact (below_size (by repeat (first | (with_reducible first | exact HB.out | apply below_alloc | apply pw_below_drewN | apply below_drew1 | refine below_set ?_ GE101.out) | exact HB.out))) : w.heap.size ≤ gb122)); have n10_ := Aside0.mk ((by rw [hg]; exact (below_size (by repeat (first | (with_reducible first | exact HB.out | apply below_alloc | apply pw_below_drewN | apply below_drew1 | refine below_set ?_ GE101.out) | exact HB.out))) : w.heap.size ≤ gb122)); have n11_ := Aside0.mk ((by rw [hg]; exact Nat.ne_of_lt (blk_lt (g := gb101) (o := .cells #[.slice A0_0 l0_0.length c0_0, .slice A0_1 l0_1.length c0_1, .slice A0_2 l0_2.length c0_2] 25 (0, 0)) (by (with_reducible repeat (first | refine blk_drewN ?_ _ | refine blk_drew ?_ | refine blk_alloc ?_ _)); exact BK101.out)) : gb101 ≠ gb122)); have n12_ := Aside0.mk ((by rw [hg]; exact Nat.ne_of_gt (blk_lt (g := gb101) (o := .cells #[.slice A0_0 l0_0.length c0_0, .slice A0_1 l0_1.length c0_1, .slice A0_2 l0_2.length c0_2] 25 (0, 0)) (by (with_reducible repeat (first | refine blk_drewN ?_ _ | refine blk_drew ?_ | refine blk_alloc ?_ _)); exact BK101.out)) : gb122 ≠ gb101)); clear HO105; clear HO108; clear HO111; clear HO115; clear HO118; clear HO121; clear BK101; clear HB; have HO105 := n0_; have HO108 := n1_; have HO111 := n2_; have HO115 := n3_; have HO118 := n4_; have HO121 := n5_; have BK101 := n6_; have HB := n7_; have BK122 := n8_; have GW122 := n9_; have GE122 := n10_; have NB101_122 := n11_; have NB122_101 := n12_; clear n0_ n1_ n2_ n3_ n4_ n5_ n6_ n7_ n8_ n9_ n10_ n11_ n12_; clear hb hbox hg; obtain ⟨Ao27, co27, eo27⟩ := Kd.R_slice HO115.out; subst eo27; have hnb28 := NB122_101.out; have hnc28 := NB101_122.out; have hcz29_0 : w26.cell? ⟨gb122, 0, none⟩ = some (.slice none 0 0) := (blk_cell BK122.out 0).trans rfl; have hcz29_1 : w26.cell? ⟨gb122, 1, none⟩ = some (.slice none 0 0) := (blk_cell BK122.out 1).trans rfl; have hcz29_2 : w26.cell? ⟨gb122, 2, none⟩ = some (.slice none 0 0) := (blk_cell BK122.out 2).trans rfl; have hfz29_0 := blk_frozen BK122.out 0; have hfz29_1 := blk_frozen BK122.out 1; have hfz29_2 := blk_frozen BK122.out 2; obtain ⟨Ao30, co30, eo30⟩ := Kd.R_slice HO118.out; subst eo30; obtain ⟨Ao31, co31, eo31⟩ := Kd.R_slice HO121.out; subst eo31) | ((with_reducible refine gate_callee (f := 15) rfl ?_); refine goesL_ (some 18) rfl rfl Try.func15 (by kernel_rfl) rfl #[.agg #[.slice Ao27 t113.length co27, .slice Ao30 t116.length co30, .slice Ao31 t119.length co31]] rfl (by (try simp only [List.map_toArray, List.map_cons, List.map_nil]); first | done | rfl | (simp only [List.length_drop, List.length_take]; rfl)) ?_; (with_reducible refine (impl_DiskOk.calls _ _ t113 _ _ t116 _ _ t119 t123 _ ?side1 ?side2 ?side3 ?side4 ?side5 ?side6 A10.out).mono ?_); (case side1 => refine (Kd.R_reads' (e := 80) (base := w.heap.size) (ok := fun k_ => ((some k_ ≠ (.slice Ao30 t116.length co30 : Value).ownBlock ∧ some k_ ≠ (.slice Ao20 t103.length co20 : Value).ownBlock) ∧ some k_ ≠ (.slice Ao21 t106.length co21 : Value).ownBlock)) (n := t113.length) (c := co27) ?_).2.2; exact (by (with_reducible repeat (first | apply Kd.R_alloc | apply Kd.R_drewN | apply Kd.R_drew)); exact (Kd.R_mono (Kd.R_far (p := ⟨gb122, 2, none⟩) (Kd.R_far (p := ⟨gb122, 1, none⟩) (Kd.R_far (p := ⟨gb122, 0, none⟩) (Kd.R_types HO115.out BK122.out (by decide)) (fun _ hk => hk.2) (.slice Ao27 t113.length co27)) (fun _ hk => hk.2) (.slice Ao30 t116.length co30)) (fun _ hk => hk.2) (.slice Ao31 t119.length co31)) (fun _ h_ => h_.1)))); (case side2 => exact (Kd.R_reads' HO115.out).2.1); (case side3 => refine (Kd.R_reads' (e := 80) (base := w.heap.size) (ok := fun k_ => ((some k_ ≠ (.slice Ao27 t113.length co27 : Value).ownBlock ∧ some k_ ≠ (.slice Ao20 t103.length co20 : Value).ownBlock) ∧ some k_ ≠ (.slice Ao21 t106.length co21 : Value).ownBlock)) (n := t116.length) (c := co30) ?_).2.2; exact (by (with_reducible repeat (first | apply Kd.R_alloc | apply Kd.R_drewN | apply Kd.R_drew)); exact (Kd.R_mono (Kd.R_far (p := ⟨gb122, 2, none⟩) (Kd.R_far (p := ⟨gb122, 1, none⟩) (Kd.R_far (p := ⟨gb122, 0, none⟩) (Kd.R_types HO118.out BK122.out (by decide)) (fun _ hk => hk.2) (.slice Ao27 t113.length co27)) (fun _ hk => hk.2) (.slice Ao30 t116.length co30)) (fun _ hk => hk.2) (.slice Ao31 t119.length co31)) (fun _ h_ => h_.1)))); (case side4 => exact (Kd.R_reads' HO118.out).2.1); (case side5 => refine (Kd.R_reads' (e := 73) (base := w.heap.size) (ok := fun k_ => (True ∧ some k_ ≠ (.slice Ao22 t109.length co22 : Value).ownBlock)) (n := t119.length) (c := co31) ?_).2.2; exact (by (with_reducible repeat (first | apply Kd.R_alloc | apply Kd.R_drewN | apply Kd.R_drew)); exact (Kd.R_mono (Kd.R_far (p := ⟨gb122, 2, none⟩) (Kd.R_far (p := ⟨gb122, 1, none⟩) (Kd.R_far (p := ⟨gb122, 0, none⟩) (Kd.R_types HO121.out BK122.out (by decide)) (fun _ hk => hk.2) (.slice Ao27 t113.length co27)) (fun _ hk => hk.2) (.slice Ao30 t116.length co30)) (fun _ hk => hk.2) (.slice Ao31 t119.length co31)) (fun _ h_ => h_.1)))); (case side6 => exact (Kd.R_reads' HO121.out).2.1); rintro e w32 ⟨rfl, hb⟩; refine ⟨_, rfl, ?_⟩; have n0_ := Aside0.mk (Kd.R_below (by (with_reducible repeat (first | apply Kd.R_alloc | apply Kd.R_drewN | apply Kd.R_drew)); exact (Kd.R_mono (Kd.R_far (p := ⟨gb122, 2, none⟩) (Kd.R_far (p := ⟨gb122, 1, none⟩) (Kd.R_far (p := ⟨gb122, 0, none⟩) (Kd.R_types HO105.out BK122.out (by decide)) (fun _ hk => hk.2) (.slice Ao27 t113.length co27)) (fun _ hk => hk.2) (.slice Ao30 t116.length co30)) (fun _ hk => hk.2) (.slice Ao31 t119.length co31)) (fun _ h_ => h_.1))) hb); have n1_ := Aside0.mk (Kd.R_below (by (with_reducible repeat (first | apply Kd.R_alloc | apply Kd.R_drewN | apply Kd.R_drew)); exact (Kd.R_mono (Kd.R_far (p := ⟨gb122, 2, none⟩) (Kd.R_far (p := ⟨gb122, 1, none⟩) (Kd.R_far (p := ⟨gb122, 0, none⟩) (Kd.R_types HO108.out BK122.out (by decide)) (fun _ hk => hk.2) (.slice Ao27 t113.length co27)) (fun _ hk => hk.2) (.slice Ao30 t116.length co30)) (fun _ hk => hk.2) (.slice Ao31 t119.length co31)) (fun _ h_ => h_.1))) hb); have n2_ := Aside0.mk (Kd.R_below (by (with_reducible repeat (first | apply Kd.R_alloc | apply Kd.R_drewN | apply Kd.R_drew)); exact (Kd.R_mono (Kd.R_far (p := ⟨gb122, 2, none⟩) (Kd.R_far (p := ⟨gb122, 1, none⟩) (Kd.R_far (p := ⟨gb122, 0, none⟩) (Kd.R_types HO111.out BK122.out (by decide)) (fun _ hk => hk.2) (.slice Ao27 t113.length co27)) (fun _ hk => hk.2) (.slice Ao30 t116.length co30)) (fun _ hk => hk.2) (.slice Ao31 t119.length co31)) (fun _ h_ => h_.1))) hb); have n3_ := Aside0.mk (Kd.R_below (by (with_reducible repeat (first | apply Kd.R_alloc | apply Kd.R_drewN | apply Kd.R_drew)); exact (Kd.R_mono (Kd.R_far (p := ⟨gb122, 2, none⟩) (Kd.R_far (p := ⟨gb122, 1, none⟩) (Kd.R_far (p := ⟨gb122, 0, none⟩) (Kd.R_types HO115.out BK122.out (by decide)) (fun _ hk => hk.2) (.slice Ao27 t113.length co27)) (fun _ hk => hk.2) (.slice Ao30 t116.length co30)) (fun _ hk => hk.2) (.slice Ao31 t119.length co31)) (fun _ h_ => h_.1))) hb); have n4_ := Aside0.mk (Kd.R_below (by (with_reducible repeat (first | apply Kd.R_alloc | apply Kd.R_drewN | apply Kd.R_drew)); exact (Kd.R_mono (Kd.R_far (p := ⟨gb122, 2, none⟩) (Kd.R_far (p := ⟨gb122, 1, none⟩) (Kd.R_far (p := ⟨gb122, 0, none⟩) (Kd.R_types HO118.out BK122.out (by decide)) (fun _ hk => hk.2) (.slice Ao27 t113.length co27)) (fun _ hk => hk.2) (.slice Ao30 t116.length co30)) (fun _ hk => hk.2) (.slice Ao31 t119.length co31)) (fun _ h_ => h_.1))) hb); have n5_ := Aside0.mk (Kd.R_below (by (with_reducible repeat (first | apply Kd.R_alloc | apply Kd.R_drewN | apply Kd.R_drew)); exact (Kd.R_mono (Kd.R_far (p := ⟨gb122, 2, none⟩) (Kd.R_far (p := ⟨gb122, 1, none⟩) (Kd.R_far (p := ⟨gb122, 0, none⟩) (Kd.R_types HO121.out BK122.out (by decide)) (fun _ hk => hk.2) (.slice Ao27 t113.length co27)) (fun _ hk => hk.2) (.slice Ao30 t116.length co30)) (fun _ hk => hk.2) (.slice Ao31 t119.length co31)) (fun _ h_ => h_.1))) hb); have n6_ := Aside0.mk (blk_below (g := gb101) (o := .cells #[.slice A0_0 l0_0.length c0_0, .slice A0_1 l0_1.length c0_1, .slice A0_2 l0_2.length c0_2] 25 (0, 0)) (by (with_reducible repeat (first | refine blk_drewN ?_ _ | refine blk_drew ?_ | refine blk_alloc ?_ _)); refine blk_far ?_ NB101_122.out _; (with_reducible repeat (first | refine blk_drewN ?_ _ | refine blk_drew ?_ | refine blk_alloc ?_ _)); refine blk_far ?_ NB101_122.out _; (with_reducible repeat (first | refine blk_drewN ?_ _ | refine blk_drew ?_ | refine blk_alloc ?_ _)); refine blk_far ?_ NB101_122.out _; (with_reducible repeat (first | refine blk_drewN ?_ _ | refine blk_drew ?_ | refine blk_alloc ?_ _)); exact BK101.out) hb); have n7_ := Aside0.mk (blk_below (g := gb122) (o := .cells #[.slice Ao27 t113.length co27, .slice Ao30 t116.length co30, .slice Ao31 t119.length co31] 31 (0, 0)) (by (with_reducible repeat (first | refine blk_drewN ?_ _ | refine blk_drew ?_ | refine blk_alloc ?_ _)); refine blk_put (cs := #[.slice Ao27 t113.length co27, .slice Ao30 t116.length co30, .slice none 0 0]) ?_ 2 _ rfl; (with_reducible repeat (first | refine blk_drewN ?_ _ | refine blk_drew ?_ | refine blk_alloc ?_ _)); refine blk_put (cs := #[.slice Ao27 t113.length co27, .slice none 0 0, .slice none 0 0]) ?_ 1 _ rfl; (with_reducible repeat (first | refine blk_drewN ?_ _ | refine blk_drew ?_ | refine blk_alloc ?_ _)); refine blk_put (cs := #[.slice none 0 0, .slice none 0 0, .slice none 0 0]) ?_ 0 _ rfl; (with_reducible repeat (first | refine blk_drewN ?_ _ | refine blk_drew ?_ | refine blk_alloc ?_ _)); exact BK122.out) hb); have n8_ := Aside0.mk (below_step (by repeat (first | (with_reducible first | exact HB.out | apply below_alloc | apply pw_below_drewN | apply below_drew1 | refine below_set ?_ GE101.out | refine below_set ?_ GE122.out) | exact HB.out)) hb); clear HO105; clear HO108; clear HO111; clear HO115; clear HO118; clear HO121; clear BK101; clear BK122; clear HB; have HO105 := n0_; have HO108 := n1_; have HO111 := n2_; have HO115 := n3_; have HO118 := n4_; have HO121 := n5_; have BK101 := n6_; have BK122 := n7_; have HB := n8_; clear n0_ n1_ n2_ n3_ n4_ n5_ n6_ n7_ n8_; (try clear hb); (try clear hb2); (try clear hk); (try clear hi)))
        have n0_ := Aside0.mk (Kd.R_drew HO105.out)
        have n1_ := Aside0.mk (Kd.R_drew HO108.out)
        have n2_ := Aside0.mk (Kd.R_drew HO111.out)
        have n3_ := Aside0.mk (Kd.R_drew HO115.out)
        have n4_ := Aside0.mk (Kd.R_drew HO118.out)
        have n5_ := Aside0.mk (Kd.R_drew HO121.out)
        have n6_ := Aside0.mk (blk_drew BK101.out)
        have n7_ := Aside0.mk (blk_drew BK122.out)
        have n8_ := Aside0.mk (below_drew1 HB.out)
        clear HO105
        clear HO108
        clear HO111
        clear HO115
        clear HO118
        clear HO121
        clear BK101
        clear BK122
        clear HB
        have HO105 := n0_
        have HO108 := n1_
        have HO111 := n2_
        have HO115 := n3_
        have HO118 := n4_
        have HO121 := n5_
        have BK101 := n6_
        have BK122 := n7_
        have HB := n8_
        clear n0_ n1_ n2_ n3_ n4_ n5_ n6_ n7_ n8_
        refine start_ (n := 5) (S := fun w' => w'.cell? ⟨gb122, 0, none⟩ = some (.slice Ao27 t113.length co27) ∧ w'.cell? ⟨gb122, 1, none⟩ = some (.slice Ao30 t116.length co30) ∧ w'.cell? ⟨gb122, 2, none⟩ = some (.slice Ao31 t119.length co31) ∧ w'.cell? ⟨gb101, 0, none⟩ = some (.slice A0_0 l0_0.length c0_0) ∧ w'.cell? ⟨gb101, 1, none⟩ = some (.slice A0_1 l0_1.length c0_1) ∧ w'.cell? ⟨gb101, 2, none⟩ = some (.slice A0_2 l0_2.length c0_2)) (ds := []) #[false, false, false, false, false] (by kernel_rfl) rfl rfl ⟨(blk_cell BK122.out 0).trans rfl, (blk_cell BK122.out 1).trans rfl, (blk_cell BK122.out 2).trans rfl, (blk_cell BK101.out 0).trans rfl, (blk_cell BK101.out 1).trans rfl, (blk_cell BK101.out 2).trans rfl⟩ (fun hHeld => ?_)
        generalize w32.drew = w33 at HO105 HO108 HO111 HO115 HO118 HO121 BK101 BK122 HB hHeld ⊢
        refine take_ (i := 0) (N := some 22) (v := ?_) (a' := ?_) #[true, false, false, false, false] rfl rfl (by kernel_rfl) (fun _ _ _ h => h) (Or.inl ⟨by rfl, ?_⟩) hHeld ?_ ?_
        rotate_left
        · rintro w' ⟨s0, s1, s2, s3, s4, s5⟩
          go_simp
          with_reducible rfl
        rotate_left
        · simp only [Act.put, List.setIfInBounds_toArray, List.set_cons_zero, List.set_cons_succ, i64_w, i32_w]
          rfl
        refine take_ (i := 1) (N := some 23) (v := ?_) (a' := ?_) #[true, true, false, false, false] rfl rfl (by kernel_rfl) (fun _ _ _ h => h) (Or.inl ⟨by rfl, ?_⟩) hHeld ?_ ?_
        rotate_left
        · rintro w' ⟨s0, s1, s2, s3, s4, s5⟩
          go_simp
          with_reducible rfl
        rotate_left
        · simp only [Act.put, List.setIfInBounds_toArray, List.set_cons_zero, List.set_cons_succ, i64_w, i32_w]
          rfl
        refine one_ (i := 2) (N := some 24) #[true, true, true, false, false] rfl rfl (by kernel_rfl) (by decide) (fun K hK => ?_)
        refine goes_ Try.func14 (by kernel_rfl) rfl #[.agg #[.slice A0_0 l0_0.length c0_0, .slice A0_1 l0_1.length c0_1, .slice A0_2 l0_2.length c0_2]] (by rfl) rfl rfl (by (try simp only [List.map_toArray, List.map_cons, List.map_nil]); first | done | rfl | (simp only [List.length_drop, List.length_take]; rfl)) ?_
        with_reducible refine (laws_toDisk.calls k _ _ l0_0 _ _ l0_1 _ _ l0_2 t124 t127 t130 _ ?side1 ?side2 ?side3 ?side4 ?side5 ?side6 A12.out).mono ?_
        (case side1 => repeat (first | exact (Kd.C_below HR0_0.out HB.out) | (with_reducible refine Kd.C_alloc ?_ _) | (with_reducible refine Kd.C_drewN ?_ _) | (with_reducible refine Kd.C_drew ?_)))
        (case side2 => exact HC0_0.out)
        (case side3 => repeat (first | exact (Kd.C_below HR0_1.out HB.out) | (with_reducible refine Kd.C_alloc ?_ _) | (with_reducible refine Kd.C_drewN ?_ _) | (with_reducible refine Kd.C_drew ?_)))
        (case side4 => exact HC0_1.out)
        (case side5 => repeat (first | exact (Kd.C_below HR0_2.out HB.out) | (with_reducible refine Kd.C_alloc ?_ _) | (with_reducible refine Kd.C_drewN ?_ _) | (with_reducible refine Kd.C_drew ?_)))
        (case side6 => exact HC0_2.out)
        rintro e w34 ⟨v125, v128, v131, rfl, ho0, ho1, ho2, hb⟩
        refine ⟨_, rfl, ?_⟩
        have n0_ := Aside0.mk (Kd.R_mono (Kd.R_told (Kd.R_told (Kd.R_old (by (with_reducible repeat (first | apply Kd.R_alloc | apply Kd.R_drewN | apply Kd.R_drew)); exact HO105.out) hb) (Kd.R_base ho0)) (Kd.R_base ho1)) (fun _ h_ => h_.1))
        have n1_ := Aside0.mk (Kd.R_mono (Kd.R_told (Kd.R_told (Kd.R_old (by (with_reducible repeat (first | apply Kd.R_alloc | apply Kd.R_drewN | apply Kd.R_drew)); exact HO108.out) hb) (Kd.R_base ho0)) (Kd.R_base ho1)) (fun _ h_ => h_.1))
        have n2_ := Aside0.mk (Kd.R_elder' (by (with_reducible repeat (first | apply Kd.R_alloc | apply Kd.R_drewN | apply Kd.R_drew)); exact HO111.out) (Kd.R_base ho2) hb)
        have n3_ := Aside0.mk (Kd.R_mono (Kd.R_told (Kd.R_told (Kd.R_old (by (with_reducible repeat (first | apply Kd.R_alloc | apply Kd.R_drewN | apply Kd.R_drew)); exact HO115.out) hb) (Kd.R_base ho0)) (Kd.R_base ho1)) (fun _ h_ => h_.1))
        have n4_ := Aside0.mk (Kd.R_mono (Kd.R_told (Kd.R_told (Kd.R_old (by (with_reducible repeat (first | apply Kd.R_alloc | apply Kd.R_drewN | apply Kd.R_drew)); exact HO118.out) hb) (Kd.R_base ho0)) (Kd.R_base ho1)) (fun _ h_ => h_.1))
        have n5_ := Aside0.mk (Kd.R_elder' (by (with_reducible repeat (first | apply Kd.R_alloc | apply Kd.R_drewN | apply Kd.R_drew)); exact HO121.out) (Kd.R_base ho2) hb)
        have n6_ := Aside0.mk (Kd.R_lower (Kd.R_new' (Kd.R_new' (Kd.R_new' (Kd.R_new' ho0 (Kd.R_lt (by (with_reducible repeat (first | apply Kd.R_alloc | apply Kd.R_drewN | apply Kd.R_drew)); exact HO105.out))) (Kd.R_lt (by (with_reducible repeat (first | apply Kd.R_alloc | apply Kd.R_drewN | apply Kd.R_drew)); exact HO108.out))) (Kd.R_lt (by (with_reducible repeat (first | apply Kd.R_alloc | apply Kd.R_drewN | apply Kd.R_drew)); exact HO115.out))) (Kd.R_lt (by (with_reducible repeat (first | apply Kd.R_alloc | apply Kd.R_drewN | apply Kd.R_drew)); exact HO118.out))) (below_size (by repeat (first | (with_reducible first | exact HB.out | apply below_alloc | apply pw_below_drewN | apply below_drew1 | refine below_set ?_ GE101.out | refine below_set ?_ GE122.out) | exact HB.out))))
        have n7_ := Aside0.mk (Kd.R_lower (Kd.R_new' (Kd.R_new' (Kd.R_new' (Kd.R_new' ho1 (Kd.R_lt (by (with_reducible repeat (first | apply Kd.R_alloc | apply Kd.R_drewN | apply Kd.R_drew)); exact HO105.out))) (Kd.R_lt (by (with_reducible repeat (first | apply Kd.R_alloc | apply Kd.R_drewN | apply Kd.R_drew)); exact HO108.out))) (Kd.R_lt (by (with_reducible repeat (first | apply Kd.R_alloc | apply Kd.R_drewN | apply Kd.R_drew)); exact HO115.out))) (Kd.R_lt (by (with_reducible repeat (first | apply Kd.R_alloc | apply Kd.R_drewN | apply Kd.R_drew)); exact HO118.out))) (below_size (by repeat (first | (with_reducible first | exact HB.out | apply below_alloc | apply pw_below_drewN | apply below_drew1 | refine below_set ?_ GE101.out | refine below_set ?_ GE122.out) | exact HB.out))))
        have n8_ := Aside0.mk (Kd.R_lower (Kd.R_new' (Kd.R_new' ho2 (Kd.R_lt (by (with_reducible repeat (first | apply Kd.R_alloc | apply Kd.R_drewN | apply Kd.R_drew)); exact HO111.out))) (Kd.R_lt (by (with_reducible repeat (first | apply Kd.R_alloc | apply Kd.R_drewN | apply Kd.R_drew)); exact HO121.out))) (below_size (by repeat (first | (with_reducible first | exact HB.out | apply below_alloc | apply pw_below_drewN | apply below_drew1 | refine below_set ?_ GE101.out | refine below_set ?_ GE122.out) | exact HB.out))))
        have n9_ := Aside0.mk (blk_below (g := gb101) (o := .cells #[.slice A0_0 l0_0.length c0_0, .slice A0_1 l0_1.length c0_1, .slice A0_2 l0_2.length c0_2] 25 (0, 0)) (by (with_reducible repeat (first | refine blk_drewN ?_ _ | refine blk_drew ?_ | refine blk_alloc ?_ _)); exact BK101.out) hb)
        have n10_ := Aside0.mk (blk_below (g := gb122) (o := .cells #[.slice Ao27 t113.length co27, .slice Ao30 t116.length co30, .slice Ao31 t119.length co31] 31 (0, 0)) (by (with_reducible repeat (first | refine blk_drewN ?_ _ | refine blk_drew ?_ | refine blk_alloc ?_ _)); exact BK122.out) hb)
        have n11_ := Aside0.mk (below_step (by repeat (first | (with_reducible first | exact HB.out | apply below_alloc | apply pw_below_drewN | apply below_drew1 | refine below_set ?_ GE101.out | refine below_set ?_ GE122.out) | exact HB.out)) hb)
        clear HO105
        clear HO108
        clear HO111
        clear HO115
        clear HO118
        clear HO121
        clear BK101
        clear BK122
        clear HB
        have HO105 := n0_
        have HO108 := n1_
        have HO111 := n2_
        have HO115 := n3_
        have HO118 := n4_
        have HO121 := n5_
        have HO126 := n6_
        have HO129 := n7_
        have HO132 := n8_
        have BK101 := n9_
        have BK122 := n10_
        have HB := n11_
        clear n0_ n1_ n2_ n3_ n4_ n5_ n6_ n7_ n8_ n9_ n10_ n11_
        (try clear hb)
        (try clear hb2)
        (try clear hk)
        (try clear hi)
        (try clear ho0)
        (try clear ho1)
        (try clear ho2)
        obtain ⟨Ao35, co35, eo35⟩ := Kd.R_slice HO126.out
        (first | subst eo35 | (injection eo35 with f1_ f2_ f3_; have f4_ := f1_.symm; have f5_ := f3_.symm; clear f1_ f2_ f3_; subst f4_; subst f5_))
        obtain ⟨Ao36, co36, eo36⟩ := Kd.R_slice HO129.out
        (first | subst eo36 | (injection eo36 with f1_ f2_ f3_; have f4_ := f1_.symm; have f5_ := f3_.symm; clear f1_ f2_ f3_; subst f4_; subst f5_))
        obtain ⟨Ao37, co37, eo37⟩ := Kd.R_slice HO132.out
        (first | subst eo37 | (injection eo37 with f1_ f2_ f3_; have f4_ := f1_.symm; have f5_ := f3_.symm; clear f1_ f2_ f3_; subst f4_; subst f5_))
        refine hK.out _ _ ⟨(blk_cell BK122.out 0).trans rfl, (blk_cell BK122.out 1).trans rfl, (blk_cell BK122.out 2).trans rfl, (blk_cell BK101.out 0).trans rfl, (blk_cell BK101.out 1).trans rfl, (blk_cell BK101.out 2).trans rfl⟩ (fun hHeld => ?_)
        clear hK K
        refine norm_ (a' := ?_) ?_ ?_
        rotate_left
        · show Act.put _ (some 24) _ = _
          simp only [Act.put, List.setIfInBounds_toArray, List.set_cons_zero, List.set_cons_succ, i64_w, i32_w]
          rfl
        refine one_ (i := 3) (N := some 25) #[true, true, true, true, false] rfl rfl (by kernel_rfl) (by decide) (fun K hK => ?_)
        refine goes_ Try.func16 (by kernel_rfl) rfl #[.agg #[.slice Ao27 t113.length co27, .slice Ao30 t116.length co30, .slice Ao31 t119.length co31], .agg #[.slice Ao35 t124.length co35, .slice Ao36 t127.length co36, .slice Ao37 t130.length co37]] (by rfl) rfl rfl (by (try simp only [List.map_toArray, List.map_cons, List.map_nil]); first | done | rfl | (simp only [List.length_drop, List.length_take]; rfl)) ?_
        with_reducible refine (laws_eqDisk.calls k _ _ t113 _ _ t116 _ _ t119 _ _ t124 _ _ t127 _ _ t130 true _ ?side1 ?side2 ?side3 ?side4 ?side5 ?side6 ?side7 ?side8 ?side9 ?side10 ?side11 ?side12 A13.out).mono ?_
        (case side1 => repeat (first | exact (Kd.R_reads' HO115.out).2.2 | (with_reducible refine Kd.C_alloc ?_ _) | (with_reducible refine Kd.C_drewN ?_ _) | (with_reducible refine Kd.C_drew ?_)))
        (case side2 => exact (Kd.R_reads' HO115.out).2.1)
        (case side3 => repeat (first | exact (Kd.R_reads' HO118.out).2.2 | (with_reducible refine Kd.C_alloc ?_ _) | (with_reducible refine Kd.C_drewN ?_ _) | (with_reducible refine Kd.C_drew ?_)))
        (case side4 => exact (Kd.R_reads' HO118.out).2.1)
        (case side5 => repeat (first | exact (Kd.R_reads' HO121.out).2.2 | (with_reducible refine Kd.C_alloc ?_ _) | (with_reducible refine Kd.C_drewN ?_ _) | (with_reducible refine Kd.C_drew ?_)))
        (case side6 => exact (Kd.R_reads' HO121.out).2.1)
        (case side7 => repeat (first | exact (Kd.R_reads' HO126.out).2.2 | (with_reducible refine Kd.C_alloc ?_ _) | (with_reducible refine Kd.C_drewN ?_ _) | (with_reducible refine Kd.C_drew ?_)))
        (case side8 => exact (Kd.R_reads' HO126.out).2.1)
        (case side9 => repeat (first | exact (Kd.R_reads' HO129.out).2.2 | (with_reducible refine Kd.C_alloc ?_ _) | (with_reducible refine Kd.C_drewN ?_ _) | (with_reducible refine Kd.C_drew ?_)))
        (case side10 => exact (Kd.R_reads' HO129.out).2.1)
        (case side11 => repeat (first | exact (Kd.R_reads' HO132.out).2.2 | (with_reducible refine Kd.C_alloc ?_ _) | (with_reducible refine Kd.C_drewN ?_ _) | (with_reducible refine Kd.C_drew ?_)))
        (case side12 => exact (Kd.R_reads' HO132.out).2.1)
        rintro e w38 ⟨rfl, hb⟩
        refine ⟨_, rfl, ?_⟩
        have n0_ := Aside0.mk (Kd.R_below (by (with_reducible repeat (first | apply Kd.R_alloc | apply Kd.R_drewN | apply Kd.R_drew)); exact HO105.out) hb)
        have n1_ := Aside0.mk (Kd.R_below (by (with_reducible repeat (first | apply Kd.R_alloc | apply Kd.R_drewN | apply Kd.R_drew)); exact HO108.out) hb)
        have n2_ := Aside0.mk (Kd.R_below (by (with_reducible repeat (first | apply Kd.R_alloc | apply Kd.R_drewN | apply Kd.R_drew)); exact HO111.out) hb)
        have n3_ := Aside0.mk (Kd.R_below (by (with_reducible repeat (first | apply Kd.R_alloc | apply Kd.R_drewN | apply Kd.R_drew)); exact HO115.out) hb)
        have n4_ := Aside0.mk (Kd.R_below (by (with_reducible repeat (first | apply Kd.R_alloc | apply Kd.R_drewN | apply Kd.R_drew)); exact HO118.out) hb)
        have n5_ := Aside0.mk (Kd.R_below (by (with_reducible repeat (first | apply Kd.R_alloc | apply Kd.R_drewN | apply Kd.R_drew)); exact HO121.out) hb)
        have n6_ := Aside0.mk (Kd.R_below (by (with_reducible repeat (first | apply Kd.R_alloc | apply Kd.R_drewN | apply Kd.R_drew)); exact HO126.out) hb)
        have n7_ := Aside0.mk (Kd.R_below (by (with_reducible repeat (first | apply Kd.R_alloc | apply Kd.R_drewN | apply Kd.R_drew)); exact HO129.out) hb)
        have n8_ := Aside0.mk (Kd.R_below (by (with_reducible repeat (first | apply Kd.R_alloc | apply Kd.R_drewN | apply Kd.R_drew)); exact HO132.out) hb)
        have n9_ := Aside0.mk (blk_below (g := gb101) (o := .cells #[.slice A0_0 l0_0.length c0_0, .slice A0_1 l0_1.length c0_1, .slice A0_2 l0_2.length c0_2] 25 (0, 0)) (by (with_reducible repeat (first | refine blk_drewN ?_ _ | refine blk_drew ?_ | refine blk_alloc ?_ _)); exact BK101.out) hb)
        have n10_ := Aside0.mk (blk_below (g := gb122) (o := .cells #[.slice Ao27 t113.length co27, .slice Ao30 t116.length co30, .slice Ao31 t119.length co31] 31 (0, 0)) (by (with_reducible repeat (first | refine blk_drewN ?_ _ | refine blk_drew ?_ | refine blk_alloc ?_ _)); exact BK122.out) hb)
        have n11_ := Aside0.mk (below_step (by repeat (first | (with_reducible first | exact HB.out | apply below_alloc | apply pw_below_drewN | apply below_drew1 | refine below_set ?_ GE101.out | refine below_set ?_ GE122.out) | exact HB.out)) hb)
        clear HO105
        clear HO108
        clear HO111
        clear HO115
        clear HO118
        clear HO121
        clear HO126
        clear HO129
        clear HO132
        clear BK101
        clear BK122
        clear HB
        have HO105 := n0_
        have HO108 := n1_
        have HO111 := n2_
        have HO115 := n3_
        have HO118 := n4_
        have HO121 := n5_
        have HO126 := n6_
        have HO129 := n7_
        have HO132 := n8_
        have BK101 := n9_
        have BK122 := n10_
        have HB := n11_
        clear n0_ n1_ n2_ n3_ n4_ n5_ n6_ n7_ n8_ n9_ n10_ n11_
        (try clear hb)
        (try clear hb2)
        (try clear hk)
        (try clear hi)
        refine hK.out _ _ ⟨(blk_cell BK122.out 0).trans rfl, (blk_cell BK122.out 1).trans rfl, (blk_cell BK122.out 2).trans rfl, (blk_cell BK101.out 0).trans rfl, (blk_cell BK101.out 1).trans rfl, (blk_cell BK101.out 2).trans rfl⟩ (fun hHeld => ?_)
        clear hK K
        refine norm_ (a' := ?_) ?_ ?_
        rotate_left
        · show Act.put _ (some 25) _ = _
          simp only [Act.put, List.setIfInBounds_toArray, List.set_cons_zero, List.set_cons_succ, i64_w, i32_w]
          rfl
        refine pure_ (i := 4) (N := some 26) (v := ?_) (a' := ?_) #[true, true, true, true, true] rfl rfl (by kernel_rfl) (fun _ _ _ h => h) (Or.inl ⟨by rfl, ?_⟩) ?_ ?_
        rotate_left
        · intro w'
          go_simp
          with_reducible rfl
        rotate_left
        · simp only [Act.put, List.setIfInBounds_toArray, List.set_cons_zero, List.set_cons_succ, i64_w, i32_w]
          rfl
        refine done_ (by kernel_rfl) ?_
        try go_wp2
        go_ret
        exact ⟨by first | rfl | (simp [errW_none, errW_some] <;> rfl) | (simp [*, errW_none, errW_some] <;> rfl), by repeat (first | (with_reducible first | exact HB.out | apply below_alloc | apply pw_below_drewN | apply below_drew1 | refine below_set ?_ GE101.out | refine below_set ?_ GE122.out) | exact HB.out)⟩
      · replace c14 := Bool.eq_false_iff.mpr c14
        subst c14
        have H1 : (some false) = some true := by rw [if_neg (show ¬ (false = true) by decide)] at H; exact H
        clear H
        have H := H1
        clear H1
        exact absurd (Option.some.inj H) (by decide)
end

section
theorem rdL108_nat (l : List S108) (i : Nat) (h : i < l.length) : rd_T108 l (i : Int) = l[i] := by
  unfold rd_T108
  rw [Int.toNat_natCast, List.getD_eq_getElem?_getD, List.getElem?_eq_getElem h]
  rfl
def to_DOp (x : S108) : S73 := ⟨x.f0, x.f1, x.f2, x.f3⟩
theorem laws_szDOp.eq (x0 : Int) (x1 : ByteArray) (x2 : ByteArray) (x3 : ByteArray) (a : Int) (h0 : 0 ≤ a) (h1 : a ≤ 1048576) (o1 : x1.size ≤ 9223372036854775807) (o2 : x2.size ≤ 9223372036854775807) (o3 : x3.size ≤ 9223372036854775807) : ∃ v, laws_szDOp.f x0 x1 x2 x3 a = some v ∧ (v < 0 ∨ (0 ≤ v ∧ v ≤ a ∧ x1.size ≤ 1048576 ∧ x2.size ≤ 1048576 ∧ x3.size ≤ 1048576)) := by
  unfold laws_szDOp.f
  rw [wrap_id (x := a - (x1.size : Int)) (by omega) (by omega)]
  by_cases c1 : a - (x1.size : Int) < 0
  · exact ⟨-1, by rw [if_pos c1], .inl (by omega)⟩
  rw [if_neg c1]
  rw [wrap_id (x := a - (x1.size : Int) - (x2.size : Int)) (by omega) (by omega)]
  by_cases c2 : a - (x1.size : Int) - (x2.size : Int) < 0
  · exact ⟨-1, by rw [if_pos c2], .inl (by omega)⟩
  rw [if_neg c2]
  rw [wrap_id (x := a - (x1.size : Int) - (x2.size : Int) - (x3.size : Int)) (by omega) (by omega)]
  by_cases c3 : a - (x1.size : Int) - (x2.size : Int) - (x3.size : Int) < 0
  · exact ⟨-1, by rw [if_pos c3], .inl (by omega)⟩
  rw [if_neg c3]
  exact ⟨_, rfl, .inr ⟨by omega, by omega, by omega, by omega, by omega⟩⟩
theorem laws_szDOpS.l0_ok (l : List S108) (ho : ∀ x ∈ l, x.f1.size ≤ 9223372036854775807 ∧ x.f2.size ≤ 9223372036854775807 ∧ x.f3.size ≤ 9223372036854775807) (hl : l.length ≤ 9223372036854775807) (d : Nat) : ∀ (i : Nat) (a : Int), l.length - i = d → i ≤ l.length → 0 ≤ a → a ≤ 1048576 → ∃ r, Ev (fun k => laws_szDOpS.l0 k l a i) r ∧ (r < 0 ∨ (0 ≤ r ∧ r ≤ a ∧ ∀ x ∈ l.drop i, x.f1.size ≤ 1048576 ∧ x.f2.size ≤ 1048576 ∧ x.f3.size ≤ 1048576)) := by
  induction d with
  | zero =>
    intro i a hd hi h0 h1
    refine ⟨a, ?_, .inr ⟨h0, Int.le_refl _, fun x hx => ?_⟩⟩
    · refine Ev.step (fun k => by rw [laws_szDOpS.l0]) ?_
      exact Ev.neg (by omega) (Ev.ret _)
    · rw [List.drop_of_length_le (by omega)] at hx
      cases hx
  | succ d ih =>
    intro i a hd hi h0 h1
    have hlt : i < l.length := by omega
    have hox := ho _ (List.getElem_mem hlt)
    obtain ⟨v, hv, hv'⟩ := laws_szDOp.eq (l[i]).f0 (l[i]).f1 (l[i]).f2 (l[i]).f3 a h0 h1 hox.1 hox.2.1 hox.2.2
    have e2 : wrap64 ((i : Int) + 1) = ((i + 1 : Nat) : Int) := by rw [wrap_id (by omega) (by omega)]; omega
    rcases hv' with hv' | ⟨v0, v1, vs⟩
    · refine ⟨-1, ?_, .inl (by omega)⟩
      refine Ev.step (fun k => by rw [laws_szDOpS.l0]) ?_
      refine Ev.pos (by omega) (Ev.pos (by omega) ?_)
      rw [rdL108_nat l i hlt]
      exact Ev.bindS hv (Ev.pos hv' (Ev.ret _))
    · obtain ⟨r, hr, hr'⟩ := ih (i + 1) v (by omega) (by omega) v0 (by omega)
      refine ⟨r, ?_, ?_⟩
      · refine Ev.step (fun k => by rw [laws_szDOpS.l0]) ?_
        refine Ev.pos (by omega) (Ev.pos (by omega) ?_)
        rw [rdL108_nat l i hlt, e2]
        exact Ev.bindS hv (Ev.neg (by omega) hr)
      · rcases hr' with hr' | ⟨r0, r1, rs⟩
        · exact .inl hr'
        · refine .inr ⟨r0, by omega, fun x hx => ?_⟩
          rw [List.drop_eq_getElem_cons hlt] at hx
          rcases List.mem_cons.1 hx with rfl | hx
          · exact vs
          · exact rs x hx
theorem laws_szDOpS.sz (l : List S108) (a : Int) (h0 : 0 ≤ a) (h1 : a ≤ 1048576) (hl : l.length ≤ maxLen) (ho : ∀ x ∈ l, x.f1.size ≤ 9223372036854775807 ∧ x.f2.size ≤ 9223372036854775807 ∧ x.f3.size ≤ 9223372036854775807) : ∃ r, Ev (fun k => laws_szDOpS.f k l a) r ∧ (r < 0 ∨ (0 ≤ r ∧ r ≤ a ∧ l.length ≤ 1048576 ∧ ∀ x ∈ l, x.f1.size ≤ 1048576 ∧ x.f2.size ≤ 1048576 ∧ x.f3.size ≤ 1048576)) := by
  unfold maxLen at hl
  unfold laws_szDOpS.f
  rw [wrap_id (x := a - (l.length : Int)) (by omega) (by omega)]
  by_cases h : a - (l.length : Int) < 0
  · exact ⟨-1, Ev.pos h (Ev.ret _), .inl (by omega)⟩
  · obtain ⟨r, hr, hr'⟩ := laws_szDOpS.l0_ok l ho hl _ 0 (a - (l.length : Int)) rfl (Nat.zero_le _) (by omega) (by omega)
    refine ⟨r, Ev.neg h hr, ?_⟩
    rcases hr' with hr' | ⟨r0, r1, rs⟩
    · exact .inl hr'
    · exact .inr ⟨r0, by omega, by omega, rs⟩
theorem fillM_step_DOpS (l : List S108) (i : Nat) (h : i < l.length) : ((l.take i).map to_DOp ++ List.replicate (l.length - i) z73).set i (to_DOp l[i]) = (l.take (i + 1)).map to_DOp ++ List.replicate (l.length - (i + 1)) z73 := by
  have e : l.length - i = (l.length - (i + 1)) + 1 := by omega
  rw [e, List.replicate_succ, List.set_append_right _ _ (by rw [List.length_map, List.length_take]; omega), List.length_map, List.length_take, Nat.min_eq_left (by omega), Nat.sub_self, List.set_cons_zero, List.take_succ_eq_append_getElem h, List.map_append, List.append_assoc]
  rfl
theorem laws_toDOpS.l0_ev (l : List S108) (hl : l.length ≤ 1048576) (d : Nat) : ∀ i : Nat, l.length - i = d → i ≤ l.length →
    Ev (fun k => laws_toDOpS.l0 k l ((l.take i).map to_DOp ++ List.replicate (l.length - i) z73) i) (l.map to_DOp) := by
  induction d with
  | zero =>
    intro i hd hi
    refine Ev.step (fun k => by rw [laws_toDOpS.l0]) ?_
    refine Ev.neg (by omega) (Ev.ret' ?_)
    rw [List.take_of_length_le (by omega), Nat.sub_eq_zero_of_le (by omega), List.replicate_zero, List.append_nil]
  | succ d ih =>
    intro i hd hi
    have hlt : i < l.length := by omega
    refine Ev.step (fun k => by rw [laws_toDOpS.l0]) ?_
    refine Ev.pos (by omega) (Ev.pos (by omega) ?_)
    refine Ev.bindS rfl (Ev.pos (by rw [List.length_append, List.length_map, List.length_take, List.length_replicate]; omega) ?_)
    have hn := ih (i + 1) (by omega) (by omega)
    rw [show ((i + 1 : Nat) : Int) = wrap64 ((i : Int) + 1) from by rw [wrap_id (by omega) (by omega)]; omega] at hn
    rw [rdL108_nat l i hlt, Int.toNat_natCast]
    have hf := fillM_step_DOpS l i hlt
    unfold to_DOp at hf hn ⊢
    rw [hf]
    exact hn
theorem laws_toDOpS.ev (l : List S108) (hl : l.length ≤ 1048576) : Ev (fun k => laws_toDOpS.f k l) (l.map to_DOp) := by
  unfold laws_toDOpS.f
  refine Ev.pos (by omega) (Ev.pos (by omega) ?_)
  have := laws_toDOpS.l0_ev l hl _ 0 rfl (Nat.zero_le _)
  simpa using this
theorem laws_eqDOpS.refl0 (l : List S73) (hl : l.length ≤ 1099511627776) (d : Nat) : ∀ i : Nat, l.length - i = d → i ≤ l.length → Ev (fun k => laws_eqDOpS.l0 k l l i) true := by
  induction d with
  | zero =>
    intro i hd hi
    refine Ev.step (fun k => by rw [laws_eqDOpS.l0]) ?_
    exact Ev.neg (by omega) (Ev.ret _)
  | succ d ih =>
    intro i hd hi
    refine Ev.step (fun k => by rw [laws_eqDOpS.l0]) ?_
    refine Ev.pos (by omega) (Ev.pos (by omega) (Ev.pos (by omega) ?_))
    refine Ev.bindS (show laws_eqDOp.f (rd_T73 l (i : Int)).f0 (rd_T73 l (i : Int)).f1 (rd_T73 l (i : Int)).f2 (rd_T73 l (i : Int)).f3 (rd_T73 l (i : Int)).f0 (rd_T73 l (i : Int)).f1 (rd_T73 l (i : Int)).f2 (rd_T73 l (i : Int)).f3 = some true from by unfold laws_eqDOp.f; simp) (Ev.pos rfl ?_)
    have hn := ih (i + 1) (by omega) (by omega)
    rw [show ((i + 1 : Nat) : Int) = wrap64 ((i : Int) + 1) from by rw [wrap_id (by omega) (by omega)]; omega] at hn
    exact hn
theorem laws_eqDOpS.refl (l : List S73) (hl : l.length ≤ 1099511627776) : Ev (fun k => laws_eqDOpS.f k l l) true := by
  unfold laws_eqDOpS.f
  exact Ev.pos rfl (laws_eqDOpS.refl0 l hl _ 0 rfl (Nat.zero_le _))
end

section
theorem rdL106_nat (l : List S106) (i : Nat) (h : i < l.length) : rd_T106 l (i : Int) = l[i] := by
  unfold rd_T106
  rw [Int.toNat_natCast, List.getD_eq_getElem?_getD, List.getElem?_eq_getElem h]
  rfl
def to_File (x : S106) : S80 := ⟨x.f0, x.f1⟩
theorem laws_szFile.eq (x0 : ByteArray) (x1 : ByteArray) (a : Int) (h0 : 0 ≤ a) (h1 : a ≤ 1048576) (o0 : x0.size ≤ 9223372036854775807) (o1 : x1.size ≤ 9223372036854775807) : ∃ v, laws_szFile.f x0 x1 a = some v ∧ (v < 0 ∨ (0 ≤ v ∧ v ≤ a ∧ x0.size ≤ 1048576 ∧ x1.size ≤ 1048576)) := by
  unfold laws_szFile.f
  rw [wrap_id (x := a - (x0.size : Int)) (by omega) (by omega)]
  by_cases c0 : a - (x0.size : Int) < 0
  · exact ⟨-1, by rw [if_pos c0], .inl (by omega)⟩
  rw [if_neg c0]
  rw [wrap_id (x := a - (x0.size : Int) - (x1.size : Int)) (by omega) (by omega)]
  by_cases c1 : a - (x0.size : Int) - (x1.size : Int) < 0
  · exact ⟨-1, by rw [if_pos c1], .inl (by omega)⟩
  rw [if_neg c1]
  exact ⟨_, rfl, .inr ⟨by omega, by omega, by omega, by omega⟩⟩
theorem laws_szFileS.l0_ok (l : List S106) (ho : ∀ x ∈ l, x.f0.size ≤ 9223372036854775807 ∧ x.f1.size ≤ 9223372036854775807) (hl : l.length ≤ 9223372036854775807) (d : Nat) : ∀ (i : Nat) (a : Int), l.length - i = d → i ≤ l.length → 0 ≤ a → a ≤ 1048576 → ∃ r, Ev (fun k => laws_szFileS.l0 k l a i) r ∧ (r < 0 ∨ (0 ≤ r ∧ r ≤ a ∧ ∀ x ∈ l.drop i, x.f0.size ≤ 1048576 ∧ x.f1.size ≤ 1048576)) := by
  induction d with
  | zero =>
    intro i a hd hi h0 h1
    refine ⟨a, ?_, .inr ⟨h0, Int.le_refl _, fun x hx => ?_⟩⟩
    · refine Ev.step (fun k => by rw [laws_szFileS.l0]) ?_
      exact Ev.neg (by omega) (Ev.ret _)
    · rw [List.drop_of_length_le (by omega)] at hx
      cases hx
  | succ d ih =>
    intro i a hd hi h0 h1
    have hlt : i < l.length := by omega
    have hox := ho _ (List.getElem_mem hlt)
    obtain ⟨v, hv, hv'⟩ := laws_szFile.eq (l[i]).f0 (l[i]).f1 a h0 h1 hox.1 hox.2
    have e2 : wrap64 ((i : Int) + 1) = ((i + 1 : Nat) : Int) := by rw [wrap_id (by omega) (by omega)]; omega
    rcases hv' with hv' | ⟨v0, v1, vs⟩
    · refine ⟨-1, ?_, .inl (by omega)⟩
      refine Ev.step (fun k => by rw [laws_szFileS.l0]) ?_
      refine Ev.pos (by omega) (Ev.pos (by omega) ?_)
      rw [rdL106_nat l i hlt]
      exact Ev.bindS hv (Ev.pos hv' (Ev.ret _))
    · obtain ⟨r, hr, hr'⟩ := ih (i + 1) v (by omega) (by omega) v0 (by omega)
      refine ⟨r, ?_, ?_⟩
      · refine Ev.step (fun k => by rw [laws_szFileS.l0]) ?_
        refine Ev.pos (by omega) (Ev.pos (by omega) ?_)
        rw [rdL106_nat l i hlt, e2]
        exact Ev.bindS hv (Ev.neg (by omega) hr)
      · rcases hr' with hr' | ⟨r0, r1, rs⟩
        · exact .inl hr'
        · refine .inr ⟨r0, by omega, fun x hx => ?_⟩
          rw [List.drop_eq_getElem_cons hlt] at hx
          rcases List.mem_cons.1 hx with rfl | hx
          · exact vs
          · exact rs x hx
theorem laws_szFileS.sz (l : List S106) (a : Int) (h0 : 0 ≤ a) (h1 : a ≤ 1048576) (hl : l.length ≤ maxLen) (ho : ∀ x ∈ l, x.f0.size ≤ 9223372036854775807 ∧ x.f1.size ≤ 9223372036854775807) : ∃ r, Ev (fun k => laws_szFileS.f k l a) r ∧ (r < 0 ∨ (0 ≤ r ∧ r ≤ a ∧ l.length ≤ 1048576 ∧ ∀ x ∈ l, x.f0.size ≤ 1048576 ∧ x.f1.size ≤ 1048576)) := by
  unfold maxLen at hl
  unfold laws_szFileS.f
  rw [wrap_id (x := a - (l.length : Int)) (by omega) (by omega)]
  by_cases h : a - (l.length : Int) < 0
  · exact ⟨-1, Ev.pos h (Ev.ret _), .inl (by omega)⟩
  · obtain ⟨r, hr, hr'⟩ := laws_szFileS.l0_ok l ho hl _ 0 (a - (l.length : Int)) rfl (Nat.zero_le _) (by omega) (by omega)
    refine ⟨r, Ev.neg h hr, ?_⟩
    rcases hr' with hr' | ⟨r0, r1, rs⟩
    · exact .inl hr'
    · exact .inr ⟨r0, by omega, by omega, rs⟩
theorem fillM_step_FileS (l : List S106) (i : Nat) (h : i < l.length) : ((l.take i).map to_File ++ List.replicate (l.length - i) z80).set i (to_File l[i]) = (l.take (i + 1)).map to_File ++ List.replicate (l.length - (i + 1)) z80 := by
  have e : l.length - i = (l.length - (i + 1)) + 1 := by omega
  rw [e, List.replicate_succ, List.set_append_right _ _ (by rw [List.length_map, List.length_take]; omega), List.length_map, List.length_take, Nat.min_eq_left (by omega), Nat.sub_self, List.set_cons_zero, List.take_succ_eq_append_getElem h, List.map_append, List.append_assoc]
  rfl
theorem laws_toFileS.l0_ev (l : List S106) (hl : l.length ≤ 1048576) (d : Nat) : ∀ i : Nat, l.length - i = d → i ≤ l.length →
    Ev (fun k => laws_toFileS.l0 k l ((l.take i).map to_File ++ List.replicate (l.length - i) z80) i) (l.map to_File) := by
  induction d with
  | zero =>
    intro i hd hi
    refine Ev.step (fun k => by rw [laws_toFileS.l0]) ?_
    refine Ev.neg (by omega) (Ev.ret' ?_)
    rw [List.take_of_length_le (by omega), Nat.sub_eq_zero_of_le (by omega), List.replicate_zero, List.append_nil]
  | succ d ih =>
    intro i hd hi
    have hlt : i < l.length := by omega
    refine Ev.step (fun k => by rw [laws_toFileS.l0]) ?_
    refine Ev.pos (by omega) (Ev.pos (by omega) ?_)
    refine Ev.bindS rfl (Ev.pos (by rw [List.length_append, List.length_map, List.length_take, List.length_replicate]; omega) ?_)
    have hn := ih (i + 1) (by omega) (by omega)
    rw [show ((i + 1 : Nat) : Int) = wrap64 ((i : Int) + 1) from by rw [wrap_id (by omega) (by omega)]; omega] at hn
    rw [rdL106_nat l i hlt, Int.toNat_natCast]
    have hf := fillM_step_FileS l i hlt
    unfold to_File at hf hn ⊢
    rw [hf]
    exact hn
theorem laws_toFileS.ev (l : List S106) (hl : l.length ≤ 1048576) : Ev (fun k => laws_toFileS.f k l) (l.map to_File) := by
  unfold laws_toFileS.f
  refine Ev.pos (by omega) (Ev.pos (by omega) ?_)
  have := laws_toFileS.l0_ev l hl _ 0 rfl (Nat.zero_le _)
  simpa using this
theorem laws_eqFileS.refl0 (l : List S80) (hl : l.length ≤ 1099511627776) (d : Nat) : ∀ i : Nat, l.length - i = d → i ≤ l.length → Ev (fun k => laws_eqFileS.l0 k l l i) true := by
  induction d with
  | zero =>
    intro i hd hi
    refine Ev.step (fun k => by rw [laws_eqFileS.l0]) ?_
    exact Ev.neg (by omega) (Ev.ret _)
  | succ d ih =>
    intro i hd hi
    refine Ev.step (fun k => by rw [laws_eqFileS.l0]) ?_
    refine Ev.pos (by omega) (Ev.pos (by omega) (Ev.pos (by omega) ?_))
    refine Ev.bindS (show laws_eqFile.f (rd_T80 l (i : Int)).f0 (rd_T80 l (i : Int)).f1 (rd_T80 l (i : Int)).f0 (rd_T80 l (i : Int)).f1 = some true from by unfold laws_eqFile.f; simp) (Ev.pos rfl ?_)
    have hn := ih (i + 1) (by omega) (by omega)
    rw [show ((i + 1 : Nat) : Int) = wrap64 ((i : Int) + 1) from by rw [wrap_id (by omega) (by omega)]; omega] at hn
    exact hn
theorem laws_eqFileS.refl (l : List S80) (hl : l.length ≤ 1099511627776) : Ev (fun k => laws_eqFileS.f k l l) true := by
  unfold laws_eqFileS.f
  exact Ev.pos rfl (laws_eqFileS.refl0 l hl _ 0 rfl (Nat.zero_le _))
end

section
/-- What a number, a string, a list that was read as data is bounded by. -/
def okI (k : IntKind) (x : Int) : Prop := (Lit.int k x).wf = true
def okB (_ : Bool) : Prop := True
def okS (s : ByteArray) : Prop := s.size ≤ maxLen
def okL {α : Type} (ok : α → Prop) (l : List α) : Prop := l.length ≤ maxLen ∧ ∀ x ∈ l, ok x
/-- What reads as data at type t is of kind d. -/
def Opens {α : Type} (P : Program) (t : TypeId) (d : Kd α) (ok : α → Prop) : Prop :=
  ∀ (H : Type) (enc : TypeId × Value → H) (W : World) (base : Nat) (spare : Nat → Bool) (held : Bool) (fuel : Nat) (cs : List Value) (y : DataW H × List MemPlace),
    DataW.trod enc P W base spare held fuel t cs = some y → ∃ x, d.K W x cs ∧ ok x
theorem Opens.int {P : Program} {t : TypeId} {k : IntKind} (ht : P.underlying t = some (.int k)) : Opens P t (Kd.int k) (okI k) := by
  intro H enc W base spare held fuel cs y h
  obtain ⟨n, rfl, _, hw⟩ := DataW.trod_int ht h
  exact ⟨n, rfl, hw⟩
theorem Opens.bool {P : Program} {t : TypeId} (ht : P.underlying t = some .bool) : Opens P t Kd.bool okB := by
  intro H enc W base spare held fuel cs y h
  obtain ⟨n, rfl, _⟩ := DataW.trod_bool ht h
  exact ⟨n, rfl, trivial⟩
theorem Opens.string {P : Program} {t : TypeId} (ht : P.underlying t = some .string) : Opens P t Kd.string okS := by
  intro H enc W base spare held fuel cs y h
  obtain ⟨n, rfl, _, hw⟩ := DataW.trod_string ht h
  exact ⟨n, rfl, hw⟩
theorem list_of_index {α : Type} {p : Nat → α → Prop} (n : Nat) (h : ∀ i, i < n → ∃ x, p i x) : ∃ xs : List α, xs.length = n ∧ ∀ i x, xs[i]? = some x → p i x := by
  induction n with
  | zero => exact ⟨[], rfl, fun i x hx => by simp at hx⟩
  | succ n ih =>
    obtain ⟨xs, hl, hx⟩ := ih (fun i hi => h i (by omega))
    obtain ⟨y, hy⟩ := h n (by omega)
    refine ⟨xs ++ [y], by simp [hl], fun i x he => ?_⟩
    by_cases hi : i < xs.length
    · rw [List.getElem?_append_left hi] at he
      exact hx i x he
    · rw [List.getElem?_append_right (by omega)] at he
      by_cases e : i = xs.length
      · subst e
        simp at he
        subst he
        rw [hl]
        exact hy
      · rw [List.getElem?_eq_none (by simp; omega)] at he
        cases he
theorem Opens.slice {α : Type} {P : Program} {t e : TypeId} {d : Kd α} {ok : α → Prop} (ht : P.underlying t = some (.slice e)) (hd : Opens P e d ok) (hs : P.cellsOf e = d.sz) : Opens P t (Kd.slice e d) (okL ok) := by
  intro H enc W base spare held fuel cs y h
  rcases Deep.open_slice ht h with ⟨rfl, _⟩ | ⟨a, len, cap, m, n, D, Pl, rfl, hb, hl, hm, hme, _, hel⟩
  · exact ⟨[], ⟨none, 0, rfl, Nat.le_refl _, Kd.C_nil _ _⟩, Nat.zero_le _, fun x hx => by simp at hx⟩
  · have hlm : len ≤ m := by
      rw [hme]
      split <;> omega
    have hx : ∀ i, i < len → ∃ x, ok x ∧ ∃ cs', W.cells? base (a.add (i * P.cellsOf e)) (P.cellsOf e) = some cs' ∧ d.K W x cs' := by
      intro i hi
      obtain ⟨cs', h1, h2⟩ := hel i (by omega)
      obtain ⟨x, hk, ho⟩ := hd H enc W base spare held n cs' _ h2
      exact ⟨x, ho, cs', h1, hk⟩
    obtain ⟨xs, rfl, hxs⟩ := list_of_index len hx
    have hmax : xs.length ≤ maxLen := Nat.le_trans hl hm
    refine ⟨xs, ⟨some a, cap, rfl, hl, rfl, hmax, fun _ => ⟨a, rfl, ?_⟩⟩, hmax, ?_⟩
    · intro j p hp
      obtain ⟨_, cs', h1, h2⟩ := hxs j p hp
      refine ⟨cs', d.K_len h2, h2, fun i u hu => ?_⟩
      unfold World.cells? at h1
      split at h1
      · have hi : i < P.cellsOf e := by
          rw [hs, ← d.K_len h2]
          exact (List.getElem?_eq_some_iff.1 hu).1
        have := mapM_some_get h1 i i (by rw [List.getElem?_range hi])
        rw [Addr.add_add, hs] at this
        rw [this]
        exact hu
      · cases h1
    · intro x hx'
      obtain ⟨i, hi, rfl⟩ := List.getElem_of_mem hx'
      exact (hxs i _ (List.getElem?_eq_getElem hi)).1
/-- A struct's fields, each at its place. -/
theorem trod_fields {H : Type} {enc : TypeId × Value → H} {P : Program} {W : World} {base : Nat} {spare : Nat → Bool} {held : Bool} {fuel : Nat} {t : TypeId} {cs : List Value} {y : DataW H × List MemPlace} {fs : Array Field}
    (ht : P.underlying t = some (.struct fs)) (h : DataW.trod enc P W base spare held fuel t cs = some y) :
    cs.length = P.cellsOf t ∧ ∃ n, ∀ (i : Nat) (f : Field), fs[i]? = some f → ∃ z, DataW.trod enc P W base spare held n f.type ((cs.drop f.offset).take (P.cellsOf f.type)) = some z := by
  obtain ⟨xs, n, _, _, hl, hsz, hf⟩ := DataW.trod_struct ht h
  refine ⟨hl, n, fun i f hi => ?_⟩
  have h1 := hf i f hi
  have h2 : i < xs.length := by
    rw [hsz]
    exact (Array.getElem?_eq_some_iff.1 hi).1
  rw [List.getElem?_eq_getElem h2] at h1
  exact ⟨_, h1⟩
theorem okI_u8 {x : Int} (h : okI .u8 x) : 0 ≤ x ∧ x ≤ 255 := by
  have h' : (decide (IntKind.u8.min ≤ x) && decide (x ≤ IntKind.u8.max)) = true := h
  rw [Bool.and_eq_true] at h'
  have h1 := of_decide_eq_true h'.1
  have h2 := of_decide_eq_true h'.2
  rw [show IntKind.u8.min = 0 from by decide] at h1
  rw [show IntKind.u8.max = 255 from by decide] at h2
  exact ⟨h1, h2⟩
theorem okI_i64 {x : Int} (h : okI .i64 x) : -9223372036854775808 ≤ x ∧ x ≤ 9223372036854775807 := by
  have h' : (decide (IntKind.i64.min ≤ x) && decide (x ≤ IntKind.i64.max)) = true := h
  rw [Bool.and_eq_true] at h'
  have h1 := of_decide_eq_true h'.1
  have h2 := of_decide_eq_true h'.2
  rw [show IntKind.i64.min = -9223372036854775808 from by decide] at h1
  rw [show IntKind.i64.max = 9223372036854775807 from by decide] at h2
  exact ⟨h1, h2⟩
end

section
def okT108 (x : S108) : Prop := okI .i64 x.f0 ∧ okS x.f1 ∧ okS x.f2 ∧ okS x.f3
set_option maxRecDepth 100000 in
theorem opens108 : Opens Try.prog 108 k108 okT108 := by
  intro H enc W base spare held fuel cs y h
  obtain ⟨hl, fu, F⟩ := trod_fields Try.underlying108 h
  have hl' : cs.length = 4 := hl.trans (by kernel_rfl)
  obtain ⟨u0, u1, u2, u3, rfl⟩ : ∃ u0 u1 u2 u3, cs = [u0, u1, u2, u3] := by
    clear F h hl
    match cs, hl' with
    | [a0, a1, a2, a3], _ => exact ⟨a0, a1, a2, a3, rfl⟩
  obtain ⟨y0, z0⟩ := F 0 _ rfl
  obtain ⟨b0, e0, w0⟩ := Opens.int (k := .i64) Try.underlying2 H enc W base spare held fu _ _ z0
  obtain rfl : u0 = .int .i64 b0 := by have e := e0; exact (List.cons.inj (show [_] = [_] from e)).1
  obtain ⟨y1, z1⟩ := F 1 _ rfl
  obtain ⟨b1, e1, w1⟩ := Opens.string Try.underlying9 H enc W base spare held fu _ _ z1
  obtain rfl : u1 = .string b1 := by have e := e1; exact (List.cons.inj (show [_] = [_] from e)).1
  obtain ⟨y2, z2⟩ := F 2 _ rfl
  obtain ⟨b2, e2, w2⟩ := Opens.string Try.underlying9 H enc W base spare held fu _ _ z2
  obtain rfl : u2 = .string b2 := by have e := e2; exact (List.cons.inj (show [_] = [_] from e)).1
  obtain ⟨y3, z3⟩ := F 3 _ rfl
  obtain ⟨b3, e3, w3⟩ := Opens.string Try.underlying9 H enc W base spare held fu _ _ z3
  obtain rfl : u3 = .string b3 := by have e := e3; exact (List.cons.inj (show [_] = [_] from e)).1
  exact ⟨⟨b0, b1, b2, b3⟩, k108_mk W ⟨b0, b1, b2, b3⟩, w0, w1, w2, w3⟩
end

section
def okT106 (x : S106) : Prop := okS x.f0 ∧ okS x.f1
set_option maxRecDepth 100000 in
theorem opens106 : Opens Try.prog 106 k106 okT106 := by
  intro H enc W base spare held fuel cs y h
  obtain ⟨hl, fu, F⟩ := trod_fields Try.underlying106 h
  have hl' : cs.length = 2 := hl.trans (by kernel_rfl)
  obtain ⟨u0, u1, rfl⟩ : ∃ u0 u1, cs = [u0, u1] := by
    clear F h hl
    match cs, hl' with
    | [a0, a1], _ => exact ⟨a0, a1, rfl⟩
  obtain ⟨y0, z0⟩ := F 0 _ rfl
  obtain ⟨b0, e0, w0⟩ := Opens.string Try.underlying9 H enc W base spare held fu _ _ z0
  obtain rfl : u0 = .string b0 := by have e := e0; exact (List.cons.inj (show [_] = [_] from e)).1
  obtain ⟨y1, z1⟩ := F 1 _ rfl
  obtain ⟨b1, e1, w1⟩ := Opens.string Try.underlying9 H enc W base spare held fu _ _ z1
  obtain rfl : u1 = .string b1 := by have e := e1; exact (List.cons.inj (show [_] = [_] from e)).1
  exact ⟨⟨b0, b1⟩, k106_mk W ⟨b0, b1⟩, w0, w1⟩
end

section
theorem okF_sz {l : List S106} (o : okL okT106 l) : ∀ x ∈ l, x.f0.size ≤ 9223372036854775807 ∧ x.f1.size ≤ 9223372036854775807 := fun x hx => by
  have := o.2 x hx
  unfold okT106 okS maxLen at this
  exact this
theorem okO_sz {l : List S108} (o : okL okT108 l) : ∀ x ∈ l, x.f1.size ≤ 9223372036854775807 ∧ x.f2.size ≤ 9223372036854775807 ∧ x.f3.size ≤ 9223372036854775807 := fun x hx => by
  have := o.2 x hx
  unfold okT108 okS maxLen at this
  exact this.2
/-- A disk of the size that the laws speak of. -/
structure DiskSz (live safe : List S80) (ops : List S73) : Prop where
  n0 : live.length ≤ 1048576
  n1 : safe.length ≤ 1048576
  n2 : ops.length ≤ 1048576
  s0 : ∀ x ∈ live, x.f0.size ≤ 1048576 ∧ x.f1.size ≤ 1048576
  s1 : ∀ x ∈ safe, x.f0.size ≤ 1048576 ∧ x.f1.size ≤ 1048576
  s2 : ∀ x ∈ ops, x.f1.size ≤ 1048576 ∧ x.f2.size ≤ 1048576 ∧ x.f3.size ≤ 1048576
theorem laws_szDisk.sz (l0 l1 : List S106) (l2 : List S108) (a : Int) (h0 : 0 ≤ a) (h1 : a ≤ 1048576) (o0 : okL okT106 l0) (o1 : okL okT106 l1) (o2 : okL okT108 l2) :
    ∃ r, Ev (fun k => laws_szDisk.f k l0 l1 l2 a) r ∧ (r < 0 ∨ (0 ≤ r ∧ r ≤ a ∧ DiskSz (l0.map to_File) (l1.map to_File) (l2.map to_DOp))) := by
  unfold laws_szDisk.f
  obtain ⟨r, hr, h⟩ := laws_szFileS.sz l0 a h0 h1 o0.1 (okF_sz o0)
  rcases h with h | ⟨r0, r1, m0, z0⟩
  · exact ⟨-1, Ev.bind hr (Ev.pos h (Ev.ret _)), .inl (by omega)⟩
  obtain ⟨q, hq, h⟩ := laws_szFileS.sz l1 r r0 (by omega) o1.1 (okF_sz o1)
  rcases h with h | ⟨q0, q1, m1, z1⟩
  · exact ⟨-1, Ev.bind hr (Ev.neg (by omega) (Ev.bind hq (Ev.pos h (Ev.ret _)))), .inl (by omega)⟩
  obtain ⟨p, hp, h⟩ := laws_szDOpS.sz l2 q q0 (by omega) o2.1 (okO_sz o2)
  rcases h with h | ⟨p0, p1, m2, z2⟩
  · exact ⟨-1, Ev.bind hr (Ev.neg (by omega) (Ev.bind hq (Ev.neg (by omega) (Ev.bind hp (Ev.pos h (Ev.ret _)))))), .inl (by omega)⟩
  refine ⟨p, Ev.bind hr (Ev.neg (by omega) (Ev.bind hq (Ev.neg (by omega) (Ev.bind hp (Ev.neg (by omega) (Ev.ret _)))))), .inr ⟨p0, by omega, by simpa using m0, by simpa using m1, by simpa using m2, ?_, ?_, ?_⟩⟩
  · intro x hx
    obtain ⟨y, hy, rfl⟩ := List.mem_map.1 hx
    exact z0 y hy
  · intro x hx
    obtain ⟨y, hy, rfl⟩ := List.mem_map.1 hx
    exact z1 y hy
  · intro x hx
    obtain ⟨y, hy, rfl⟩ := List.mem_map.1 hx
    exact z2 y hy
theorem laws_toDisk.ev (l0 l1 : List S106) (l2 : List S108) (h : DiskSz (l0.map to_File) (l1.map to_File) (l2.map to_DOp)) : Ev (fun k => laws_toDisk.f k l0 l1 l2) (l0.map to_File, l1.map to_File, l2.map to_DOp) := by
  unfold laws_toDisk.f
  have n0 := h.n0
  have n1 := h.n1
  have n2 := h.n2
  rw [List.length_map] at n0 n1 n2
  exact Ev.bind (laws_toFileS.ev l0 n0) (Ev.bind (laws_toFileS.ev l1 n1) (Ev.bind (laws_toDOpS.ev l2 n2) (Ev.ret _)))
theorem laws_eqDisk.refl (l0 l1 : List S80) (l2 : List S73) (h0 : l0.length ≤ 1099511627776) (h1 : l1.length ≤ 1099511627776) (h2 : l2.length ≤ 1099511627776) : Ev (fun k => laws_eqDisk.f k l0 l1 l2 l0 l1 l2) true := by
  unfold laws_eqDisk.f
  exact Ev.bind (laws_eqFileS.refl l0 h0) (Ev.pos rfl (Ev.bind (laws_eqFileS.refl l1 h1) (Ev.pos rfl (Ev.bind (laws_eqDOpS.refl l2 h2) (Ev.pos rfl (Ev.ret _))))))
theorem DiskSz.smallF0 {live safe : List S80} {ops : List S73} (h : DiskSz live safe ops) : smallF live := fun x hx => by have := (h.s0 x hx).2; omega
theorem DiskSz.smallF1 {live safe : List S80} {ops : List S73} (h : DiskSz live safe ops) : smallF safe := fun x hx => by have := (h.s1 x hx).2; omega
theorem DiskSz.smallO {live safe : List S80} {ops : List S73} (h : DiskSz live safe ops) : ∀ x ∈ ops, x.f3.size ≤ 1099511627776 := fun x hx => by have := (h.s2 x hx).2.2; omega
end

section
theorem putS_true (n d : ByteArray) : ∀ l : List S80, putS n d true l = l.filter (fun x => !nameIs n x)
  | [] => rfl
  | x :: r => by
    rw [putS, List.filter_cons, Bool.true_or, putS_true n d r]
    cases nameIs n x <;> simp
theorem nameIs_iff (n : ByteArray) (x : S80) : nameIs n x = true ↔ x.f0 = n := by
  unfold nameIs
  rw [beq_iff_eq, bs_inj]
theorem nameCmp_neg (n : ByteArray) (x : S80) : nameCmp n x < 0 ↔ Op.bytesLess x.f0.toList n.toList = true := by
  unfold nameCmp
  rw [cmp_neg, bs_toList, bs_toList]
theorem nameCmp_zero (n : ByteArray) (x : S80) : nameCmp n x = 0 ↔ x.f0 = n := by
  unfold nameCmp
  rw [cmp_zero, ← bs_toList, ← bs_toList, bs_inj]
theorem cntLt_none {l : List S80} (n : ByteArray) (h : ∀ y ∈ l, Op.bytesLess y.f0.toList n.toList = false) : cntLt (nameCmp n) l = 0 := by
  unfold cntLt
  rw [List.countP_eq_zero]
  intro y hy
  have := h y hy
  simp only [decide_eq_true_eq, nameCmp_neg, this]
  simp
theorem filter_above {l : List S80} (n : ByteArray) (h : ∀ y ∈ l, Op.bytesLess n.toList y.f0.toList = true) : l.filter (fun x => !nameIs n x) = l := by
  rw [List.filter_eq_self]
  intro y hy
  have := h y hy
  rw [Bool.not_eq_true', Bool.eq_false_iff]
  intro he
  rw [nameIs_iff] at he
  rw [he, bless_irrefl] at this
  cases this
theorem putS_putF (n d : ByteArray) : ∀ l : List S80, risesF l → putS n d false l = putF l n d
  | [], _ => by
    unfold putF cntLt hitAt
    simp [putS]
  | x :: r, h => by
    have hr : risesF r := (List.pairwise_cons.1 h).2
    have hx := (List.pairwise_cons.1 h).1
    rw [putS]
    cases hl : Op.bytesLess x.f0.toList n.toList with
    | true =>
      have hni : nameIs n x = false := by
        rw [Bool.eq_false_iff]
        intro he
        rw [nameIs_iff] at he
        rw [he, bless_irrefl] at hl
        cases hl
      have hc : cntLt (nameCmp n) (x :: r) = cntLt (nameCmp n) r + 1 := by
        unfold cntLt
        exact List.countP_cons_of_pos (p := fun y => decide (nameCmp n y < 0)) (decide_eq_true ((nameCmp_neg n x).2 hl))
      have hh : hitAt z80 (nameCmp n) (x :: r) = hitAt z80 (nameCmp n) r := by
        unfold hitAt
        rw [hc, List.getD_cons_succ, List.length_cons]
        congr 1
        exact decide_eq_decide.2 (by omega)
      rw [hni, show (false || !true) = false from rfl, putS_putF n d r hr]
      unfold putF
      rw [hh, hc]
      cases hitAt z80 (nameCmp n) r <;> simp
    | false =>
      have hnone : ∀ y ∈ r, Op.bytesLess y.f0.toList n.toList = false := by
        intro y hy
        rw [Bool.eq_false_iff]
        intro hlt
        have := bless_trans (hx y hy) hlt
        rw [hl] at this
        cases this
      have hc : cntLt (nameCmp n) (x :: r) = 0 := cntLt_none n (fun y hy => by
        rcases List.mem_cons.1 hy with rfl | hy
        · exact hl
        · exact hnone y hy)
      have hh : hitAt z80 (nameCmp n) (x :: r) = nameIs n x := by
        unfold hitAt
        rw [hc, List.getD_cons_zero, decide_eq_true (by simp), Bool.true_and, Bool.eq_iff_iff, decide_eq_true_eq, nameCmp_zero, nameIs_iff]
      have hab : ∀ y ∈ r, Op.bytesLess n.toList y.f0.toList = true := by
        intro y hy
        rcases bless_tri x.f0.toList n.toList with h1 | h1 | h1
        · rw [hl] at h1; cases h1
        · rw [← h1]; exact hx y hy
        · exact bless_trans h1 (hx y hy)
      have hput : putS n d true r = r := by rw [putS_true, filter_above n hab]
      unfold putF
      rw [hh, hc]
      simp only [Bool.not_false, Bool.false_or, Bool.true_and, if_true, hput]
      cases nameIs n x <;> simp
theorem cut_filter (n : ByteArray) (l : List S80) (h : risesF l) (h0 : 0 ≤ idxP (nameIs n) l) : l.filter (fun x => !nameIs n x) = l.take (idxP (nameIs n) l).toNat ++ l.drop ((idxP (nameIs n) l).toNat + 1) := by
  have hlt : (idxP (nameIs n) l).toNat < l.length := by
    have := idxP_lt (nameIs n) l
    omega
  have hat := idxP_at (nameIs n) z80 l h0
  generalize (idxP (nameIs n) l).toNat = i at *
  rw [List.getD_eq_getElem?_getD, List.getElem?_eq_getElem hlt] at hat
  change nameIs n l[i] = true at hat
  rw [nameIs_iff] at hat
  have e : l = l.take i ++ (l[i] :: l.drop (i + 1)) := by rw [← List.drop_eq_getElem_cons hlt, List.take_append_drop]
  have hp : risesF (l.take i ++ (l[i] :: l.drop (i + 1))) := by rw [← e]; exact h
  obtain ⟨_, p2, p3⟩ := List.pairwise_append.1 hp
  have q := (List.pairwise_cons.1 p2).1
  conv => lhs; rw [e]
  rw [List.filter_append, List.filter_cons, show nameIs n l[i] = true from (nameIs_iff n _).2 hat]
  have e1 : (l.take i).filter (fun x => !nameIs n x) = l.take i := by
    rw [List.filter_eq_self]
    intro y hy
    have := p3 y hy l[i] List.mem_cons_self
    rw [Bool.not_eq_true', Bool.eq_false_iff]
    intro he
    rw [nameIs_iff] at he
    rw [he, hat, bless_irrefl] at this
    cases this
  have e2 : (l.drop (i + 1)).filter (fun x => !nameIs n x) = l.drop (i + 1) := filter_above n (fun y hy => by rw [← hat]; exact q y hy)
  rw [e1]
  simp only [Bool.not_true]
  rw [if_neg (by simp), e2]
/-- What l4Do does on files whose names rise. -/
def doS (l : List S80) (k : Int) (n t d : ByteArray) : List S80 × Bool :=
  if k = 1 then (putF l n (if 0 ≤ idxP (nameIs n) l then (rd_T80 l (idxP (nameIs n) l)).f1 ++ d else d), true)
  else if 0 ≤ idxP (nameIs n) l then
    if k = 2 then (putF (l.take (idxP (nameIs n) l).toNat ++ l.drop ((idxP (nameIs n) l).toNat + 1)) t (rd_T80 l (idxP (nameIs n) l)).f1, true)
    else (l.take (idxP (nameIs n) l).toNat ++ l.drop ((idxP (nameIs n) l).toNat + 1), true)
  else (l, false)
theorem doS_onF (l : List S80) (k : Int) (n t d : ByteArray) (h : formB k n t d = true) : doS l k n t d = onF l k n t d := by
  have hk : k = 1 ∨ k = 2 ∨ k = 3 := by
    unfold formB at h
    by_cases h1 : k = 1
    · exact .inl h1
    · by_cases h2 : k = 2
      · exact .inr (.inl h2)
      · by_cases h3 : k = 3
        · exact .inr (.inr h3)
        · rw [if_neg h1, if_neg h2, if_neg h3] at h
          cases h
  unfold doS onF
  rcases hk with rfl | rfl | rfl <;> simp
theorem doS_ok (l : List S80) (k : Int) (n t d : ByteArray) : (doS l k n t d).2 = (onF l k n t d).2 := by
  unfold doS onF
  by_cases h1 : k = 1
  · simp [h1]
  · by_cases h : 0 ≤ idxP (nameIs n) l
    · by_cases h2 : k = 2 <;> by_cases h3 : k = 3 <;> simp [h1, h, h2, h3]
    · simp [h1, h]
theorem spec_l4Do.ev (l : List S80) (k : Int) (n t d : ByteArray) (hr : risesF l) (hl : l.length ≤ 1099511627775) (hs : ∀ x ∈ l, x.f1.size ≤ 1099512000000) (hd : d.size ≤ 1099511627776) : Ev (fun q => spec_l4Do.f q l k n t d) (doS l k n t d) := by
  unfold spec_l4Do.f
  refine Ev.bind (spec_l4At.ev l n (by omega)) ?_
  unfold doS
  have hlt := idxP_lt (nameIs n) l
  by_cases h1 : k = 1
  · rw [if_pos h1]
    refine Ev.pos h1 ?_
    by_cases h0 : 0 ≤ idxP (nameIs n) l
    · rw [if_pos h0]
      have hsz := hs _ (getD_mem z80 l _ h0 hlt)
      change (rd_T80 l (idxP (nameIs n) l)).f1.size ≤ _ at hsz
      refine Ev.pos h0 (Ev.pos h0 (Ev.pos hlt (Ev.pos (by omega) (Ev.bind (spec_l4Put.ev l n _ (by omega)) (Ev.ret' ?_)))))
      rw [putS_putF n _ l hr]
    · rw [if_neg h0]
      refine Ev.neg h0 (Ev.bind (spec_l4Put.ev l n _ (by omega)) (Ev.ret' ?_))
      rw [putS_putF n _ l hr]
  · rw [if_neg h1]
    refine Ev.neg h1 ?_
    by_cases h0 : 0 ≤ idxP (nameIs n) l
    · rw [if_pos h0]
      refine Ev.neg (by omega) (Ev.bind (spec_l4Cut.ev l n (by omega)) ?_)
      rw [cut_filter n l hr h0]
      by_cases h2 : k = 2
      · rw [if_pos h2]
        refine Ev.pos h2 (Ev.pos h0 (Ev.pos hlt (Ev.bind (spec_l4Put.ev _ t _ ?_) (Ev.ret' ?_))))
        · rw [List.length_append, List.length_take, List.length_drop]; omega
        · rw [putS_putF t _ _ (risesF_cut hr _)]
      · rw [if_neg h2]
        exact Ev.neg h2 (Ev.ret _)
    · rw [if_neg h0]
      refine Ev.pos (by omega) (Ev.bindS rfl (Ev.pos (by simp; omega) (Ev.ret' ?_)))
      rw [List.nil_append]
theorem doS_small {now : List S80} (hn : ∀ x ∈ now, x.f1.size ≤ 200000) (k : Int) (n t d : ByteArray) (hf : formB k n t d = true) (hd : d.size ≤ 1099511627776) (ho : (doS now k n t d).2 = true) : ∀ x ∈ (doS now k n t d).1, x.f1.size ≤ 1099512000000 := by
  rw [doS_onF now k n t d hf] at ho ⊢
  exact onF_small hn k n t d hd ho
theorem spec_DiskOk.l0_ev (live : List S80) (safe : List S80) (ops : List S73) (ho : ∀ x ∈ ops, x.f3.size ≤ 1099511627776) (hl : ops.length ≤ 200) (d : Nat) : ∀ (i : Nat) (now : List S80), ops.length - i = d → i ≤ ops.length → filesB now = true →
    Ev (fun k => spec_DiskOk.l0 k now i live safe ops) (runB live now (ops.drop i)) := by
  induction d with
  | zero =>
    intro i now hd hi hf
    obtain ⟨_, h60, _⟩ := filesB_said hf
    refine Ev.step (fun k => by rw [spec_DiskOk.l0]) ?_
    refine Ev.neg (by omega) (Ev.bind (spec_l4Same.ev now live (by omega)) (Ev.ret' ?_))
    rw [List.drop_of_length_le (by omega), runB]
  | succ d ih =>
    intro i now hd hi hf
    obtain ⟨hris, h60, hsz⟩ := filesB_said hf
    have h1 : i < ops.length := by omega
    refine Ev.step (fun k => by rw [spec_DiskOk.l0]) ?_
    refine Ev.pos (by omega) (Ev.pos (by omega) ?_)
    rw [rdO_nat ops i h1, List.drop_eq_getElem_cons h1, runB]
    have hop := ho _ (List.getElem_mem h1)
    generalize ops[i] = op at *
    refine Ev.bind (spec_l4Do.ev now op.f0 op.f1 op.f2 op.f3 hris (by omega) (fun x hx => by have := hsz x hx; omega) hop) ?_
    cases hok : (onF now op.f0 op.f1 op.f2 op.f3).2 with
    | false =>
      rw [← doS_ok] at hok
      refine Ev.neg (by rw [hok]; simp) (Ev.ret' ?_)
      simp
    | true =>
      have hok' := hok
      rw [← doS_ok] at hok'
      refine Ev.pos hok' (Ev.bind (spec_l4Form.ev _ _ _ _) ?_)
      cases hfm : formB op.f0 op.f1 op.f2 op.f3 with
      | false => exact Ev.neg (by simp) (Ev.ret' (by simp))
      | true =>
        refine Ev.pos rfl (Ev.bind (spec_l4Files.ev' _ (doS_small hsz _ _ _ _ hfm hop hok')) ?_)
        rw [doS_onF now _ _ _ _ hfm]
        cases hfn : filesB (onF now op.f0 op.f1 op.f2 op.f3).1 with
        | false => exact Ev.neg (by simp) (Ev.ret' (by simp))
        | true =>
          refine Ev.pos rfl ?_
          rw [show wrap64 ((i : Int) + 1) = ((i + 1 : Nat) : Int) by rw [wrap_id (by omega) (by omega)]; omega]
          exact Ev.eq (ih (i + 1) _ (by omega) (by omega) hfn) (by simp)
theorem spec_DiskOk.ev (live safe : List S80) (ops : List S73) (h0 : smallF live) (h1 : smallF safe) (ho : ∀ x ∈ ops, x.f3.size ≤ 1099511627776) : Ev (fun k => spec_DiskOk.f k live safe ops) (diskB live safe ops) := by
  unfold spec_DiskOk.f diskB
  refine Ev.bind (spec_l4Files.ev' live (fun x hx => by have := h0 x hx; omega)) ?_
  have hj : Ev (fun k => spec_DiskOk.j0 k true live safe ops) false := Ev.step (fun k => by rw [spec_DiskOk.j0]) (Ev.pos rfl (Ev.ret _))
  cases hf0 : filesB live with
  | false => exact Ev.neg (by simp) (Ev.eq hj (by simp))
  | true =>
    refine Ev.pos rfl (Ev.bind (spec_l4Files.ev' safe (fun x hx => by have := h1 x hx; omega)) ?_)
    cases hf1 : filesB safe with
    | false => exact Ev.neg (by simp) (Ev.eq hj (by simp))
    | true =>
      refine Ev.pos rfl ?_
      by_cases hl : (ops.length : Int) > 200
      · rw [decide_eq_true hl]
        exact Ev.eq hj (by rw [decide_eq_false (by omega : ¬ ops.length ≤ 200)]; simp)
      · rw [decide_eq_false hl]
        refine Ev.step (fun k => by rw [spec_DiskOk.j0]) (Ev.neg (by simp) ?_)
        exact Ev.eq (spec_DiskOk.l0_ev live safe ops ho (by omega) _ 0 safe rfl (Nat.zero_le _) hf1) (by rw [decide_eq_true (by omega : ops.length ≤ 200)]; simp)
theorem impl_isDisk.eq (live safe : List S80) (ops : List S73) (h0 : smallF live) (h1 : smallF safe) (ho : ∀ x ∈ ops, x.f3.size ≤ 1099511627776) : impl_isDisk.f live safe ops = some (diskB live safe ops) := by
  unfold impl_isDisk.f
  rw [if_pos]
  rw [(smallFB_iff live).2 h0, (smallFB_iff safe).2 h1, Bool.true_and, Bool.true_and]
  unfold smallOB
  rw [List.all_eq_true]
  exact fun x hx => decide_eq_true (ho x hx)
end

section
theorem law_FnExactDiskOk.ev (l0 l1 : List S106) (l2 : List S108) (o0 : okL okT106 l0) (o1 : okL okT106 l1) (o2 : okL okT108 l2) : Ev (fun k => laws_FnExactDiskOk.f k l0 l1 l2) true := by
  unfold laws_FnExactDiskOk.f
  obtain ⟨r, hr, h⟩ := laws_szDisk.sz l0 l1 l2 1048576 (by omega) (by omega) o0 o1 o2
  refine Ev.bind hr ?_
  rcases h with h | ⟨r0, r1, hz⟩
  · exact Ev.pos h (Ev.ret _)
  refine Ev.neg (by omega) ?_
  have cv := laws_toDisk.ev l0 l1 l2 hz
  refine Ev.bind cv (Ev.bind (spec_DiskOk.ev _ _ _ hz.smallF0 hz.smallF1 hz.smallO) (Ev.bind cv ?_))
  refine Ev.bindS (show impl_DiskOk.f _ _ _ = some _ from by unfold impl_DiskOk.f; rw [impl_isDisk.eq _ _ _ hz.smallF0 hz.smallF1 hz.smallO]; rfl) ?_
  have eqx := laws_eqDisk.refl (l0.map to_File) (l1.map to_File) (l2.map to_DOp) (by have := hz.n0; omega) (by have := hz.n1; omega) (by have := hz.n2; omega)
  exact Ev.neg (by simp) (Ev.bind cv (Ev.bind eqx (Ev.pos rfl (Ev.ret _))))
end

end Go.Proofs.Ytfjoamlgbegpgaa.Q
