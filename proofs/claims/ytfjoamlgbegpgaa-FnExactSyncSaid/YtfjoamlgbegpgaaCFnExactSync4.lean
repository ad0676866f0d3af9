/- Part 4 of what the row of FnExactSync needs: functions of the program as plain Lean functions, their contracts, and lemmas; made by a program of this session out of its texts. -/
import Derived.Deep.Slices
import Derived.ChangeArms
import Derived.DataReads
import Derived.DataElems
import Derived.Test.YtfjoamlgbegpgaaCFnExactSync0
import Derived.Test.YtfjoamlgbegpgaaCFnExactSync1
import Derived.Test.YtfjoamlgbegpgaaCFnExactSync2
import Derived.Test.YtfjoamlgbegpgaaCFnExactSync3
namespace Go.Proofs.Ytfjoamlgbegpgaa.Q
open Go.RowKit Go.Proofs.YtfjoamlgbegpgaaW.PrintWords Go.Proofs.YtfjoamlgbegpgaaW.PrintLast Go.Proofs.YtfjoamlgbegpgaaW.PrintMore
attribute [local go_sem] max2_int min2_int max_two min_two max_three min_three max_four min_four   -- for this text's walks alone
set_option linter.unusedVariables false
set_option linter.unusedSimpArgs false
section
def laws_FnExactSync.j0 : Nat → Bool → List (S106) → List (S106) → List (S108) → List (S80) → List (S80) → List (S73) → List (S80) → List (S80) → List (S73) → Option (Bool)
 | 0, _, _, _, _, _, _, _, _, _, _ => none
 | k + 1, x42, x102000, x102001, x102002, x122000, x122001, x122002, x142000, x142001, x142002 => if x42 = true then (some false) else ((laws_markDisk.f k x142000 x142001 x142002 1).bind fun bt158 => ((laws_heldDisk.f k bt158.2.1 bt158.2.2.1 bt158.2.2.2 1).bind fun t162 => (if t162 < 0 then (some false) else (if t162 = bt158.1 then ((laws_toDisk.f k x102000 x102001 x102002).bind fun bt163 => ((impl_Sync.f bt163.1 bt163.2.1 bt163.2.2).bind fun bt172 => ((laws_eqDisk.f k bt172.1 bt172.2.1 bt172.2.2 x122000 x122001 x122002).bind fun t182 => (if t182 = true then ((laws_heldDisk.f k bt158.2.1 bt158.2.2.1 bt158.2.2.2 1).bind fun t183 => (if t183 < 0 then (some false) else (if t183 = bt158.1 then (some true) else (some false)))) else (some false))))) else (some false)))))
def laws_FnExactSync.f (k : Nat) (l0_0 : List (S106)) (l0_1 : List (S106)) (l0_2 : List (S108)) : Option (Bool) := (laws_szDisk.f k l0_0 l0_1 l0_2 1048576).bind fun t102 => (if t102 < 0 then (some true) else ((laws_toDisk.f k l0_0 l0_1 l0_2).bind fun bt103 => ((spec_Sync.f k bt103.1 bt103.2.1 bt103.2.2).bind fun bt112 => ((laws_toDisk.f k l0_0 l0_1 l0_2).bind fun bt122 => ((impl_Sync.f bt122.1 bt122.2.1 bt122.2.2).bind fun bt132 => ((laws_eqDisk.f k bt132.1 bt132.2.1 bt132.2.2 bt112.1 bt112.2.1 bt112.2.2).bind fun t142 => (if t142 = true then ((laws_toDisk.f k l0_0 l0_1 l0_2).bind fun bt143 => ((laws_eqDisk.f k bt122.1 bt122.2.1 bt122.2.2 bt143.1 bt143.2.1 bt143.2.2).bind fun t152 => (if t152 = true then ((laws_markDisk.f k bt122.1 bt122.2.1 bt122.2.2 1).bind fun bt153 => (if bt153.1 < 0 then (laws_FnExactSync.j0 k true l0_0 l0_1 l0_2 bt112.1 bt112.2.1 bt112.2.2 bt132.1 bt132.2.1 bt132.2.2) else ((laws_eqDisk.f k bt132.1 bt132.2.1 bt132.2.2 bt112.1 bt112.2.1 bt112.2.2).bind fun t157 => (laws_FnExactSync.j0 k (!t157) l0_0 l0_1 l0_2 bt112.1 bt112.2.1 bt112.2.2 bt132.1 bt132.2.1 bt132.2.2)))) else (some false)))) else (some false))))))))
theorem laws_FnExactSync.mono_l : ∀ k, (∀ y0 y1 y2 y3 y4 y5 y6 y7 y8 y9, LeO (laws_FnExactSync.j0 k y0 y1 y2 y3 y4 y5 y6 y7 y8 y9) (laws_FnExactSync.j0 (k + 1) y0 y1 y2 y3 y4 y5 y6 y7 y8 y9))
 | 0 => fun _ _ _ _ _ _ _ _ _ _ r h => by simp [laws_FnExactSync.j0] at h
 | k + 1 => by
   have ih0 := laws_FnExactSync.mono_l k
   · intro y0 y1 y2 y3 y4 y5 y6 y7 y8 y9
     unfold laws_FnExactSync.j0
     repeat' first
     | (with_reducible exact ih0 _ _ _ _ _ _ _ _ _ _)
     | (with_reducible exact laws_eqDisk.mono _ _ _ _ _ _ _)
     | (with_reducible exact laws_heldDisk.mono _ _ _ _ _)
     | (with_reducible exact laws_markDisk.mono _ _ _ _ _)
     | (with_reducible exact laws_szDisk.mono _ _ _ _ _)
     | (with_reducible exact laws_toDisk.mono _ _ _ _)
     | (with_reducible exact spec_Sync.mono _ _ _ _)
     | (with_reducible exact LeO.refl _)
     | (with_reducible exact LeO.none _)
     | (with_reducible refine LeO.ite ?_ ?_)
     | (with_reducible refine LeO.bind ?_ (fun _ => ?_))
     | exact ih0 _ _ _ _ _ _ _ _ _ _
     | exact laws_eqDisk.mono _ _ _ _ _ _ _
     | exact laws_heldDisk.mono _ _ _ _ _
     | exact laws_markDisk.mono _ _ _ _ _
     | exact laws_szDisk.mono _ _ _ _ _
     | exact laws_toDisk.mono _ _ _ _
     | exact spec_Sync.mono _ _ _ _
     | exact LeO.none _
     | refine LeO.ite ?_ ?_
     | refine LeO.bind ?_ (fun _ => ?_)
theorem laws_FnExactSync.mono : ∀ a0 a1 a2 k, LeO (laws_FnExactSync.f k a0 a1 a2) (laws_FnExactSync.f (k + 1) a0 a1 a2) := by
 intro a0 a1 a2 k
 have ih0 := laws_FnExactSync.mono_l k
 unfold laws_FnExactSync.f
 repeat' first
     | (with_reducible exact ih0 _ _ _ _ _ _ _ _ _ _)
     | (with_reducible exact laws_eqDisk.mono _ _ _ _ _ _ _)
     | (with_reducible exact laws_heldDisk.mono _ _ _ _ _)
     | (with_reducible exact laws_markDisk.mono _ _ _ _ _)
     | (with_reducible exact laws_szDisk.mono _ _ _ _ _)
     | (with_reducible exact laws_toDisk.mono _ _ _ _)
     | (with_reducible exact spec_Sync.mono _ _ _ _)
     | (with_reducible exact LeO.refl _)
     | (with_reducible exact LeO.none _)
     | (with_reducible refine LeO.ite ?_ ?_)
     | (with_reducible refine LeO.bind ?_ (fun _ => ?_))
     | exact ih0 _ _ _ _ _ _ _ _ _ _
     | exact laws_eqDisk.mono _ _ _ _ _ _ _
     | exact laws_heldDisk.mono _ _ _ _ _
     | exact laws_markDisk.mono _ _ _ _ _
     | exact laws_szDisk.mono _ _ _ _ _
     | exact laws_toDisk.mono _ _ _ _
     | exact spec_Sync.mono _ _ _ _
     | exact LeO.none _
     | refine LeO.ite ?_ ?_
     | refine LeO.bind ?_ (fun _ => ?_)
set_option maxHeartbeats 8000000 in
set_option maxRecDepth 100000 in
theorem laws_FnExactSync.calls (k : Nat) (A0_0 : Option Addr) (c0_0 : Nat) (l0_0 : List (S106)) (A0_1 : Option Addr) (c0_1 : Nat) (l0_1 : List (S106)) (A0_2 : Option Addr) (c0_2 : Nat) (l0_2 : List (S108)) (w : World) (hr0_0 : Kd.C k106 w A0_0 l0_0.length l0_0) (hc0_0 : l0_0.length ≤ c0_0) (hr0_1 : Kd.C k106 w A0_1 l0_1.length l0_1) (hc0_1 : l0_1.length ≤ c0_1) (hr0_2 : Kd.C k108 w A0_2 l0_2.length l0_2) (hc0_2 : l0_2.length ≤ c0_2) (h : laws_FnExactSync.f k l0_0 l0_1 l0_2 = some true) :
   Calls Try.prog 7 #[.agg #[.slice A0_0 l0_0.length c0_0, .slice A0_1 l0_1.length c0_1, .slice A0_2 l0_2.length c0_2]] w fun e w' => e = .returned (.bool true) ∧ Below w.heap.size w w' := by
 have hu25 := Try.underlying25
 have hu31 := Try.underlying31
 have HR0_0 := Aside0.mk hr0_0
 have HC0_0 := Aside0.mk hc0_0
 clear hr0_0 hc0_0
 have HR0_1 := Aside0.mk hr0_1
 have HC0_1 := Aside0.mk hc0_1
 clear hr0_1 hc0_1
 have HR0_2 := Aside0.mk hr0_2
 have HC0_2 := Aside0.mk hc0_2
 clear hr0_2 hc0_2
 have HB := Aside0.mk (Below.refl w.heap.size w)
 have H : ((laws_szDisk.f k l0_0 l0_1 l0_2 1048576).bind fun t102 => (if t102 < 0 then (some true) else ((laws_toDisk.f k l0_0 l0_1 l0_2).bind fun bt103 => ((spec_Sync.f k bt103.1 bt103.2.1 bt103.2.2).bind fun bt112 => ((laws_toDisk.f k l0_0 l0_1 l0_2).bind fun bt122 => ((impl_Sync.f bt122.1 bt122.2.1 bt122.2.2).bind fun bt132 => ((laws_eqDisk.f k bt132.1 bt132.2.1 bt132.2.2 bt112.1 bt112.2.1 bt112.2.2).bind fun t142 => (if t142 = true then ((laws_toDisk.f k l0_0 l0_1 l0_2).bind fun bt143 => ((laws_eqDisk.f k bt122.1 bt122.2.1 bt122.2.2 bt143.1 bt143.2.1 bt143.2.2).bind fun t152 => (if t152 = true then ((laws_markDisk.f k bt122.1 bt122.2.1 bt122.2.2 1).bind fun bt153 => (if bt153.1 < 0 then (laws_FnExactSync.j0 k true l0_0 l0_1 l0_2 bt112.1 bt112.2.1 bt112.2.2 bt132.1 bt132.2.1 bt132.2.2) else ((laws_eqDisk.f k bt132.1 bt132.2.1 bt132.2.2 bt112.1 bt112.2.1 bt112.2.2).bind fun t157 => (laws_FnExactSync.j0 k (!t157) l0_0 l0_1 l0_2 bt112.1 bt112.2.1 bt112.2.2 bt132.1 bt132.2.1 bt132.2.2)))) else (some false)))) else (some false))))))))) = some true := h
 clear h
 replace H := Option.bind_eq_some_iff.mp H
 obtain ⟨t102, A20, H⟩ := H
 replace H : (if t102 < 0 then (some true) else ((laws_toDisk.f k l0_0 l0_1 l0_2).bind fun bt103 => ((spec_Sync.f k bt103.1 bt103.2.1 bt103.2.2).bind fun bt112 => ((laws_toDisk.f k l0_0 l0_1 l0_2).bind fun bt122 => ((impl_Sync.f bt122.1 bt122.2.1 bt122.2.2).bind fun bt132 => ((laws_eqDisk.f k bt132.1 bt132.2.1 bt132.2.2 bt112.1 bt112.2.1 bt112.2.2).bind fun t142 => (if t142 = true then ((laws_toDisk.f k l0_0 l0_1 l0_2).bind fun bt143 => ((laws_eqDisk.f k bt122.1 bt122.2.1 bt122.2.2 bt143.1 bt143.2.1 bt143.2.2).bind fun t152 => (if t152 = true then ((laws_markDisk.f k bt122.1 bt122.2.1 bt122.2.2 1).bind fun bt153 => (if bt153.1 < 0 then (laws_FnExactSync.j0 k true l0_0 l0_1 l0_2 bt112.1 bt112.2.1 bt112.2.2 bt132.1 bt132.2.1 bt132.2.2) else ((laws_eqDisk.f k bt132.1 bt132.2.1 bt132.2.2 bt112.1 bt112.2.1 bt112.2.2).bind fun t157 => (laws_FnExactSync.j0 k (!t157) l0_0 l0_1 l0_2 bt112.1 bt112.2.1 bt112.2.2 bt132.1 bt132.2.1 bt132.2.2)))) else (some false)))) else (some false)))))))) = some true := H
 have A2 := Aside0.mk A20
 clear A20
 by_cases c3 : t102 < 0
 · rw [if_pos c3] at H
   have c3b0 : decide (t102 < 0) = true := decide_eq_true c3
   clear c3
   clear H
   go_enter Try.func7, Try.ntmps7
   go_wp2_with (first | ((with_reducible refine qas (N := 1) rfl ?_); refine qar ?hg (N := 1) ?hd (cs := #[.slice A0_0 l0_0.length c0_0, .slice A0_1 l0_1.length c0_1, .slice A0_2 l0_2.length c0_2]) (t := 25) ?hr ?_; (case hd => rfl); (case hg => rfl); (case hr => first | (go_simp; done) | (go_simp; rfl)); intro gb101 hg w4 hbox hb; have n0_ := Aside0.mk (qak (by repeat (first | (with_reducible first | exact HB.out | apply qab | apply qaa | apply qac) | exact HB.out)) hb); have n1_ := Aside0.mk (hbox); have n2_ := Aside0.mk ((by rw [hg]; exact (qaj (by repeat (first | (with_reducible first | exact HB.out | apply qab | apply qaa | apply qac) | exact HB.out))) : w.heap.size ≤ gb101)); have n3_ := Aside0.mk ((by rw [hg]; exact (qaj (by repeat (first | (with_reducible first | exact HB.out | apply qab | apply qaa | apply qac) | exact HB.out))) : w.heap.size ≤ gb101)); clear HB; have HB := n0_; have BK101 := n1_; have GW101 := n2_; have GE101 := n3_; clear n0_ n1_ n2_ n3_; clear hb hbox hg; have hcz5_0 : w4.cell? ⟨gb101, 0, none⟩ = some (.slice A0_0 l0_0.length c0_0) := (qaf BK101.out 0).trans rfl; have hcz5_1 : w4.cell? ⟨gb101, 1, none⟩ = some (.slice A0_1 l0_1.length c0_1) := (qaf BK101.out 1).trans rfl; have hcz5_2 : w4.cell? ⟨gb101, 2, none⟩ = some (.slice A0_2 l0_2.length c0_2) := (qaf BK101.out 2).trans rfl; have hfz5_0 := qad BK101.out 0; have hfz5_1 := qad BK101.out 1; have hfz5_2 := qad BK101.out 2) | ((with_reducible refine qaq (f := 12) rfl ?_); refine qav (some 13) rfl rfl Try.func12 (by kernel_rfl) rfl #[.agg #[.slice A0_0 l0_0.length c0_0, .slice A0_1 l0_1.length c0_1, .slice A0_2 l0_2.length c0_2], .int .i64 1048576] rfl (by (try simp only [List.map_toArray, List.map_cons, List.map_nil]); first | done | rfl | (simp only [List.length_drop, List.length_take]; rfl)) ?_; (with_reducible refine (laws_szDisk.calls k _ _ l0_0 _ _ l0_1 _ _ l0_2 1048576 t102 _ ?side1 ?side2 ?side3 ?side4 ?side5 ?side6 A2.out).mono ?_); (case side1 => repeat (first | exact (Kd.C_below HR0_0.out HB.out) | (with_reducible refine Kd.C_alloc ?_ _) | (with_reducible refine Kd.C_drewN ?_ _) | (with_reducible refine Kd.C_drew ?_))); (case side2 => exact HC0_0.out); (case side3 => repeat (first | exact (Kd.C_below HR0_1.out HB.out) | (with_reducible refine Kd.C_alloc ?_ _) | (with_reducible refine Kd.C_drewN ?_ _) | (with_reducible refine Kd.C_drew ?_))); (case side4 => exact HC0_1.out); (case side5 => repeat (first | exact (Kd.C_below HR0_2.out HB.out) | (with_reducible refine Kd.C_alloc ?_ _) | (with_reducible refine Kd.C_drewN ?_ _) | (with_reducible refine Kd.C_drew ?_))); (case side6 => exact HC0_2.out); rintro e w6 ⟨rfl, hb⟩; refine ⟨_, rfl, ?_⟩; have n0_ := Aside0.mk (qao (g := gb101) (o := .cells #[.slice A0_0 l0_0.length c0_0, .slice A0_1 l0_1.length c0_1, .slice A0_2 l0_2.length c0_2] 25 (0, 0)) (by (with_reducible repeat (first | refine qah ?_ _ | refine qai ?_ | refine qag ?_ _)); exact BK101.out) hb); have n1_ := Aside0.mk (qak (by repeat (first | (with_reducible first | exact HB.out | apply qab | apply qaa | apply qac | refine qae ?_ GE101.out) | exact HB.out)) hb); clear BK101; clear HB; have BK101 := n0_; have HB := n1_; clear n0_ n1_; (try clear hb); (try clear hb2); (try clear hk); (try clear hi)))
   go_ret
   exact ⟨by first | rfl | (simp [qal, qam] <;> rfl) | (simp [*, qal, qam] <;> rfl), by repeat (first | (with_reducible first | exact HB.out | apply qab | apply qaa | apply qac | refine qae ?_ GE101.out) | exact HB.out)⟩
 · rw [if_neg c3] at H
   have c3b0 : decide (t102 < 0) = false := decide_eq_false c3
   clear c3
   replace H := Option.bind_eq_some_iff.mp H
   obtain ⟨⟨t103, t106, t109⟩, A70, H⟩ := H
   replace H : ((spec_Sync.f k t103 t106 t109).bind fun bt112 => ((laws_toDisk.f k l0_0 l0_1 l0_2).bind fun bt122 => ((impl_Sync.f bt122.1 bt122.2.1 bt122.2.2).bind fun bt132 => ((laws_eqDisk.f k bt132.1 bt132.2.1 bt132.2.2 bt112.1 bt112.2.1 bt112.2.2).bind fun t142 => (if t142 = true then ((laws_toDisk.f k l0_0 l0_1 l0_2).bind fun bt143 => ((laws_eqDisk.f k bt122.1 bt122.2.1 bt122.2.2 bt143.1 bt143.2.1 bt143.2.2).bind fun t152 => (if t152 = true then ((laws_markDisk.f k bt122.1 bt122.2.1 bt122.2.2 1).bind fun bt153 => (if bt153.1 < 0 then (laws_FnExactSync.j0 k true l0_0 l0_1 l0_2 bt112.1 bt112.2.1 bt112.2.2 bt132.1 bt132.2.1 bt132.2.2) else ((laws_eqDisk.f k bt132.1 bt132.2.1 bt132.2.2 bt112.1 bt112.2.1 bt112.2.2).bind fun t157 => (laws_FnExactSync.j0 k (!t157) l0_0 l0_1 l0_2 bt112.1 bt112.2.1 bt112.2.2 bt132.1 bt132.2.1 bt132.2.2)))) else (some false)))) else (some false)))))) = some true := H
   have A7 := Aside0.mk A70
   clear A70
   replace H := Option.bind_eq_some_iff.mp H
   obtain ⟨⟨t112, t115, t118⟩, A80, H⟩ := H
   replace H : ((laws_toDisk.f k l0_0 l0_1 l0_2).bind fun bt122 => ((impl_Sync.f bt122.1 bt122.2.1 bt122.2.2).bind fun bt132 => ((laws_eqDisk.f k bt132.1 bt132.2.1 bt132.2.2 t112 t115 t118).bind fun t142 => (if t142 = true then ((laws_toDisk.f k l0_0 l0_1 l0_2).bind fun bt143 => ((laws_eqDisk.f k bt122.1 bt122.2.1 bt122.2.2 bt143.1 bt143.2.1 bt143.2.2).bind fun t152 => (if t152 = true then ((laws_markDisk.f k bt122.1 bt122.2.1 bt122.2.2 1).bind fun bt153 => (if bt153.1 < 0 then (laws_FnExactSync.j0 k true l0_0 l0_1 l0_2 t112 t115 t118 bt132.1 bt132.2.1 bt132.2.2) else ((laws_eqDisk.f k bt132.1 bt132.2.1 bt132.2.2 t112 t115 t118).bind fun t157 => (laws_FnExactSync.j0 k (!t157) l0_0 l0_1 l0_2 t112 t115 t118 bt132.1 bt132.2.1 bt132.2.2)))) else (some false)))) else (some false))))) = some true := H
   have A8 := Aside0.mk A80
   clear A80
   replace H := Option.bind_eq_some_iff.mp H
   obtain ⟨⟨t122, t125, t128⟩, A90, H⟩ := H
   replace H : ((impl_Sync.f t122 t125 t128).bind fun bt132 => ((laws_eqDisk.f k bt132.1 bt132.2.1 bt132.2.2 t112 t115 t118).bind fun t142 => (if t142 = true then ((laws_toDisk.f k l0_0 l0_1 l0_2).bind fun bt143 => ((laws_eqDisk.f k t122 t125 t128 bt143.1 bt143.2.1 bt143.2.2).bind fun t152 => (if t152 = true then ((laws_markDisk.f k t122 t125 t128 1).bind fun bt153 => (if bt153.1 < 0 then (laws_FnExactSync.j0 k true l0_0 l0_1 l0_2 t112 t115 t118 bt132.1 bt132.2.1 bt132.2.2) else ((laws_eqDisk.f k bt132.1 bt132.2.1 bt132.2.2 t112 t115 t118).bind fun t157 => (laws_FnExactSync.j0 k (!t157) l0_0 l0_1 l0_2 t112 t115 t118 bt132.1 bt132.2.1 bt132.2.2)))) else (some false)))) else (some false)))) = some true := H
   have A9 := Aside0.mk A90
   clear A90
   replace H := Option.bind_eq_some_iff.mp H
   obtain ⟨⟨t132, t135, t138⟩, A100, H⟩ := H
   replace H : ((laws_eqDisk.f k t132 t135 t138 t112 t115 t118).bind fun t142 => (if t142 = true then ((laws_toDisk.f k l0_0 l0_1 l0_2).bind fun bt143 => ((laws_eqDisk.f k t122 t125 t128 bt143.1 bt143.2.1 bt143.2.2).bind fun t152 => (if t152 = true then ((laws_markDisk.f k t122 t125 t128 1).bind fun bt153 => (if bt153.1 < 0 then (laws_FnExactSync.j0 k true l0_0 l0_1 l0_2 t112 t115 t118 t132 t135 t138) else ((laws_eqDisk.f k t132 t135 t138 t112 t115 t118).bind fun t157 => (laws_FnExactSync.j0 k (!t157) l0_0 l0_1 l0_2 t112 t115 t118 t132 t135 t138)))) else (some false)))) else (some false))) = some true := H
   have A10 := Aside0.mk A100
   clear A100
   replace H := Option.bind_eq_some_iff.mp H
   obtain ⟨t142, A110, H⟩ := H
   replace H : (if t142 = true then ((laws_toDisk.f k l0_0 l0_1 l0_2).bind fun bt143 => ((laws_eqDisk.f k t122 t125 t128 bt143.1 bt143.2.1 bt143.2.2).bind fun t152 => (if t152 = true then ((laws_markDisk.f k t122 t125 t128 1).bind fun bt153 => (if bt153.1 < 0 then (laws_FnExactSync.j0 k true l0_0 l0_1 l0_2 t112 t115 t118 t132 t135 t138) else ((laws_eqDisk.f k t132 t135 t138 t112 t115 t118).bind fun t157 => (laws_FnExactSync.j0 k (!t157) l0_0 l0_1 l0_2 t112 t115 t118 t132 t135 t138)))) else (some false)))) else (some false)) = some true := H
   have A11 := Aside0.mk A110
   clear A110
   by_cases c12 : t142 = true
   · subst c12
     have H1 : ((laws_toDisk.f k l0_0 l0_1 l0_2).bind fun bt143 => ((laws_eqDisk.f k t122 t125 t128 bt143.1 bt143.2.1 bt143.2.2).bind fun t152 => (if t152 = true then ((laws_markDisk.f k t122 t125 t128 1).bind fun bt153 => (if bt153.1 < 0 then (laws_FnExactSync.j0 k true l0_0 l0_1 l0_2 t112 t115 t118 t132 t135 t138) else ((laws_eqDisk.f k t132 t135 t138 t112 t115 t118).bind fun t157 => (laws_FnExactSync.j0 k (!t157) l0_0 l0_1 l0_2 t112 t115 t118 t132 t135 t138)))) else (some false)))) = some true := by first | (with_reducible rfl) | (rw [if_pos rfl] at H; exact H)
     clear H
     have H := H1
     clear H1
     replace H := Option.bind_eq_some_iff.mp H
     obtain ⟨⟨t143, t146, t149⟩, A130, H⟩ := H
     replace H : ((laws_eqDisk.f k t122 t125 t128 t143 t146 t149).bind fun t152 => (if t152 = true then ((laws_markDisk.f k t122 t125 t128 1).bind fun bt153 => (if bt153.1 < 0 then (laws_FnExactSync.j0 k true l0_0 l0_1 l0_2 t112 t115 t118 t132 t135 t138) else ((laws_eqDisk.f k t132 t135 t138 t112 t115 t118).bind fun t157 => (laws_FnExactSync.j0 k (!t157) l0_0 l0_1 l0_2 t112 t115 t118 t132 t135 t138)))) else (some false))) = some true := H
     have A13 := Aside0.mk A130
     clear A130
     replace H := Option.bind_eq_some_iff.mp H
     obtain ⟨t152, A140, H⟩ := H
     replace H : (if t152 = true then ((laws_markDisk.f k t122 t125 t128 1).bind fun bt153 => (if bt153.1 < 0 then (laws_FnExactSync.j0 k true l0_0 l0_1 l0_2 t112 t115 t118 t132 t135 t138) else ((laws_eqDisk.f k t132 t135 t138 t112 t115 t118).bind fun t157 => (laws_FnExactSync.j0 k (!t157) l0_0 l0_1 l0_2 t112 t115 t118 t132 t135 t138)))) else (some false)) = some true := H
     have A14 := Aside0.mk A140
     clear A140
     by_cases c15 : t152 = true
     · subst c15
       have H1 : ((laws_markDisk.f k t122 t125 t128 1).bind fun bt153 => (if bt153.1 < 0 then (laws_FnExactSync.j0 k true l0_0 l0_1 l0_2 t112 t115 t118 t132 t135 t138) else ((laws_eqDisk.f k t132 t135 t138 t112 t115 t118).bind fun t157 => (laws_FnExactSync.j0 k (!t157) l0_0 l0_1 l0_2 t112 t115 t118 t132 t135 t138)))) = some true := by first | (with_reducible rfl) | (rw [if_pos rfl] at H; exact H)
       clear H
       have H := H1
       clear H1
       replace H := Option.bind_eq_some_iff.mp H
       obtain ⟨⟨t153, t154, t155, t156⟩, A160, H⟩ := H
       replace H : (if t153 < 0 then (laws_FnExactSync.j0 k true l0_0 l0_1 l0_2 t112 t115 t118 t132 t135 t138) else ((laws_eqDisk.f k t132 t135 t138 t112 t115 t118).bind fun t157 => (laws_FnExactSync.j0 k (!t157) l0_0 l0_1 l0_2 t112 t115 t118 t132 t135 t138))) = some true := H
       have A16 := Aside0.mk A160
       clear A160
       have HC17 := Aside0.mk H
       clear H
       go_enter Try.func7, Try.ntmps7
       try go_wp2_with (first | ((with_reducible refine qas (N := 1) rfl ?_); refine qar ?hg (N := 1) ?hd (cs := #[.slice A0_0 l0_0.length c0_0, .slice A0_1 l0_1.length c0_1, .slice A0_2 l0_2.length c0_2]) (t := 25) ?hr ?_; (case hd => rfl); (case hg => rfl); (case hr => first | (go_simp; done) | (go_simp; rfl)); intro gb101 hg w18 hbox hb; have n0_ := Aside0.mk (qak (by repeat (first | (with_reducible first | exact HB.out | apply qab | apply qaa | apply qac) | exact HB.out)) hb); have n1_ := Aside0.mk (hbox); have n2_ := Aside0.mk ((by rw [hg]; exact (qaj (by repeat (first | (with_reducible first | exact HB.out | apply qab | apply qaa | apply qac) | exact HB.out))) : w.heap.size ≤ gb101)); have n3_ := Aside0.mk ((by rw [hg]; exact (qaj (by repeat (first | (with_reducible first | exact HB.out | apply qab | apply qaa | apply qac) | exact HB.out))) : w.heap.size ≤ gb101)); clear HB; have HB := n0_; have BK101 := n1_; have GW101 := n2_; have GE101 := n3_; clear n0_ n1_ n2_ n3_; clear hb hbox hg; have hcz19_0 : w18.cell? ⟨gb101, 0, none⟩ = some (.slice A0_0 l0_0.length c0_0) := (qaf BK101.out 0).trans rfl; have hcz19_1 : w18.cell? ⟨gb101, 1, none⟩ = some (.slice A0_1 l0_1.length c0_1) := (qaf BK101.out 1).trans rfl; have hcz19_2 : w18.cell? ⟨gb101, 2, none⟩ = some (.slice A0_2 l0_2.length c0_2) := (qaf BK101.out 2).trans rfl; have hfz19_0 := qad BK101.out 0; have hfz19_1 := qad BK101.out 1; have hfz19_2 := qad BK101.out 2) | ((with_reducible refine qaq (f := 12) rfl ?_); refine qav (some 13) rfl rfl Try.func12 (by kernel_rfl) rfl #[.agg #[.slice A0_0 l0_0.length c0_0, .slice A0_1 l0_1.length c0_1, .slice A0_2 l0_2.length c0_2], .int .i64 1048576] rfl (by (try simp only [List.map_toArray, List.map_cons, List.map_nil]); first | done | rfl | (simp only [List.length_drop, List.length_take]; rfl)) ?_; (with_reducible refine (laws_szDisk.calls k _ _ l0_0 _ _ l0_1 _ _ l0_2 1048576 t102 _ ?side1 ?side2 ?side3 ?side4 ?side5 ?side6 A2.out).mono ?_); (case side1 => repeat (first | exact (Kd.C_below HR0_0.out HB.out) | (with_reducible refine Kd.C_alloc ?_ _) | (with_reducible refine Kd.C_drewN ?_ _) | (with_reducible refine Kd.C_drew ?_))); (case side2 => exact HC0_0.out); (case side3 => repeat (first | exact (Kd.C_below HR0_1.out HB.out) | (with_reducible refine Kd.C_alloc ?_ _) | (with_reducible refine Kd.C_drewN ?_ _) | (with_reducible refine Kd.C_drew ?_))); (case side4 => exact HC0_1.out); (case side5 => repeat (first | exact (Kd.C_below HR0_2.out HB.out) | (with_reducible refine Kd.C_alloc ?_ _) | (with_reducible refine Kd.C_drewN ?_ _) | (with_reducible refine Kd.C_drew ?_))); (case side6 => exact HC0_2.out); rintro e w20 ⟨rfl, hb⟩; refine ⟨_, rfl, ?_⟩; have n0_ := Aside0.mk (qao (g := gb101) (o := .cells #[.slice A0_0 l0_0.length c0_0, .slice A0_1 l0_1.length c0_1, .slice A0_2 l0_2.length c0_2] 25 (0, 0)) (by (with_reducible repeat (first | refine qah ?_ _ | refine qai ?_ | refine qag ?_ _)); exact BK101.out) hb); have n1_ := Aside0.mk (qak (by repeat (first | (with_reducible first | exact HB.out | apply qab | apply qaa | apply qac | refine qae ?_ GE101.out) | exact HB.out)) hb); clear BK101; clear HB; have BK101 := n0_; have HB := n1_; clear n0_ n1_; (try clear hb); (try clear hb2); (try clear hk); (try clear hi); have hcz21_0 : w20.cell? ⟨gb101, 0, none⟩ = some (.slice A0_0 l0_0.length c0_0) := (qaf BK101.out 0).trans rfl; have hcz21_1 : w20.cell? ⟨gb101, 1, none⟩ = some (.slice A0_1 l0_1.length c0_1) := (qaf BK101.out 1).trans rfl; have hcz21_2 : w20.cell? ⟨gb101, 2, none⟩ = some (.slice A0_2 l0_2.length c0_2) := (qaf BK101.out 2).trans rfl; have hfz21_0 := qad BK101.out 0; have hfz21_1 := qad BK101.out 1; have hfz21_2 := qad BK101.out 2) | ((with_reducible refine qaq (f := 14) rfl ?_); refine qav (some 17) rfl rfl Try.func14 (by kernel_rfl) rfl #[.agg #[.slice A0_0 l0_0.length c0_0, .slice A0_1 l0_1.length c0_1, .slice A0_2 l0_2.length c0_2]] rfl (by (try simp only [List.map_toArray, List.map_cons, List.map_nil]); first | done | rfl | (simp only [List.length_drop, List.length_take]; rfl)) ?_; (with_reducible refine (laws_toDisk.calls k _ _ l0_0 _ _ l0_1 _ _ l0_2 t103 t106 t109 _ ?side1 ?side2 ?side3 ?side4 ?side5 ?side6 A7.out).mono ?_); (case side1 => repeat (first | exact (Kd.C_below HR0_0.out HB.out) | (with_reducible refine Kd.C_alloc ?_ _) | (with_reducible refine Kd.C_drewN ?_ _) | (with_reducible refine Kd.C_drew ?_))); (case side2 => exact HC0_0.out); (case side3 => repeat (first | exact (Kd.C_below HR0_1.out HB.out) | (with_reducible refine Kd.C_alloc ?_ _) | (with_reducible refine Kd.C_drewN ?_ _) | (with_reducible refine Kd.C_drew ?_))); (case side4 => exact HC0_1.out); (case side5 => repeat (first | exact (Kd.C_below HR0_2.out HB.out) | (with_reducible refine Kd.C_alloc ?_ _) | (with_reducible refine Kd.C_drewN ?_ _) | (with_reducible refine Kd.C_drew ?_))); (case side6 => exact HC0_2.out); rintro e w22 ⟨v104, v107, v110, rfl, ho0, ho1, ho2, hb⟩; refine ⟨_, rfl, ?_⟩; have n0_ := Aside0.mk (Kd.R_lower ho0 (qaj (by repeat (first | (with_reducible first | exact HB.out | apply qab | apply qaa | apply qac | refine qae ?_ GE101.out) | exact HB.out)))); have n1_ := Aside0.mk (Kd.R_lower ho1 (qaj (by repeat (first | (with_reducible first | exact HB.out | apply qab | apply qaa | apply qac | refine qae ?_ GE101.out) | exact HB.out)))); have n2_ := Aside0.mk (Kd.R_lower ho2 (qaj (by repeat (first | (with_reducible first | exact HB.out | apply qab | apply qaa | apply qac | refine qae ?_ GE101.out) | exact HB.out)))); have n3_ := Aside0.mk (qao (g := gb101) (o := .cells #[.slice A0_0 l0_0.length c0_0, .slice A0_1 l0_1.length c0_1, .slice A0_2 l0_2.length c0_2] 25 (0, 0)) (by (with_reducible repeat (first | refine qah ?_ _ | refine qai ?_ | refine qag ?_ _)); exact BK101.out) hb); have n4_ := Aside0.mk (qak (by repeat (first | (with_reducible first | exact HB.out | apply qab | apply qaa | apply qac | refine qae ?_ GE101.out) | exact HB.out)) hb); clear BK101; clear HB; have HO105 := n0_; have HO108 := n1_; have HO111 := n2_; have BK101 := n3_; have HB := n4_; clear n0_ n1_ n2_ n3_ n4_; (try clear hb); (try clear hb2); (try clear hk); (try clear hi); (try clear ho0); (try clear ho1); (try clear ho2); obtain ⟨Ao23, co23, eo23⟩ := Kd.R_slice HO105.out; subst eo23; obtain ⟨Ao24, co24, eo24⟩ := Kd.R_slice HO108.out; subst eo24; obtain ⟨Ao25, co25, eo25⟩ := Kd.R_slice HO111.out; subst eo25) | ((with_reducible refine qaq (f := 28) rfl ?_); refine qav (some 18) rfl rfl Try.func28 (by kernel_rfl) rfl #[.agg #[.slice Ao23 t103.length co23, .slice Ao24 t106.length co24, .slice Ao25 t109.length co25]] rfl (by (try simp only [List.map_toArray, List.map_cons, List.map_nil]); first | done | rfl | (simp only [List.length_drop, List.length_take]; rfl)) ?_; (with_reducible refine (spec_Sync.calls k _ _ t103 _ _ t106 _ _ t109 t112 t115 t118 _ ?side1 ?side2 ?side3 ?side4 ?side5 ?side6 A8.out).mono ?_); (case side1 => repeat (first | exact (Kd.R_reads' HO105.out).2.2 | (with_reducible refine Kd.C_alloc ?_ _) | (with_reducible refine Kd.C_drewN ?_ _) | (with_reducible refine Kd.C_drew ?_))); (case side2 => exact (Kd.R_reads' HO105.out).2.1); (case side3 => repeat (first | exact (Kd.R_reads' HO108.out).2.2 | (with_reducible refine Kd.C_alloc ?_ _) | (with_reducible refine Kd.C_drewN ?_ _) | (with_reducible refine Kd.C_drew ?_))); (case side4 => exact (Kd.R_reads' HO108.out).2.1); (case side5 => repeat (first | exact (Kd.R_reads' HO111.out).2.2 | (with_reducible refine Kd.C_alloc ?_ _) | (with_reducible refine Kd.C_drewN ?_ _) | (with_reducible refine Kd.C_drew ?_))); (case side6 => exact (Kd.R_reads' HO111.out).2.1); rintro e w26 ⟨v113, v116, v119, rfl, ho0, ho1, ho2, hb⟩; refine ⟨_, rfl, ?_⟩; have n0_ := Aside0.mk (Kd.R_mono (Kd.R_told (Kd.R_told (Kd.R_old (by (with_reducible repeat (first | apply Kd.R_alloc | apply Kd.R_drewN | apply Kd.R_drew)); exact HO105.out) hb) (Kd.R_base ho0)) (Kd.R_base ho1)) (fun _ h_ => h_.1)); have n1_ := Aside0.mk (Kd.R_mono (Kd.R_told (Kd.R_told (Kd.R_old (by (with_reducible repeat (first | apply Kd.R_alloc | apply Kd.R_drewN | apply Kd.R_drew)); exact HO108.out) hb) (Kd.R_base ho0)) (Kd.R_base ho1)) (fun _ h_ => h_.1)); have n2_ := Aside0.mk (Kd.R_elder' (by (with_reducible repeat (first | apply Kd.R_alloc | apply Kd.R_drewN | apply Kd.R_drew)); exact HO111.out) (Kd.R_base ho2) hb); have n3_ := Aside0.mk (Kd.R_lower (Kd.R_new' (Kd.R_new' ho0 (Kd.R_lt (by (with_reducible repeat (first | apply Kd.R_alloc | apply Kd.R_drewN | apply Kd.R_drew)); exact HO105.out))) (Kd.R_lt (by (with_reducible repeat (first | apply Kd.R_alloc | apply Kd.R_drewN | apply Kd.R_drew)); exact HO108.out))) (qaj (by repeat (first | (with_reducible first | exact HB.out | apply qab | apply qaa | apply qac | refine qae ?_ GE101.out) | exact HB.out)))); have n4_ := Aside0.mk (Kd.R_lower (Kd.R_new' (Kd.R_new' ho1 (Kd.R_lt (by (with_reducible repeat (first | apply Kd.R_alloc | apply Kd.R_drewN | apply Kd.R_drew)); exact HO105.out))) (Kd.R_lt (by (with_reducible repeat (first | apply Kd.R_alloc | apply Kd.R_drewN | apply Kd.R_drew)); exact HO108.out))) (qaj (by repeat (first | (with_reducible first | exact HB.out | apply qab | apply qaa | apply qac | refine qae ?_ GE101.out) | exact HB.out)))); have n5_ := Aside0.mk (Kd.R_lower (Kd.R_new' ho2 (Kd.R_lt (by (with_reducible repeat (first | apply Kd.R_alloc | apply Kd.R_drewN | apply Kd.R_drew)); exact HO111.out))) (qaj (by repeat (first | (with_reducible first | exact HB.out | apply qab | apply qaa | apply qac | refine qae ?_ GE101.out) | exact HB.out)))); have n6_ := Aside0.mk (qao (g := gb101) (o := .cells #[.slice A0_0 l0_0.length c0_0, .slice A0_1 l0_1.length c0_1, .slice A0_2 l0_2.length c0_2] 25 (0, 0)) (by (with_reducible repeat (first | refine qah ?_ _ | refine qai ?_ | refine qag ?_ _)); exact BK101.out) hb); have n7_ := Aside0.mk (qak (by repeat (first | (with_reducible first | exact HB.out | apply qab | apply qaa | apply qac | refine qae ?_ GE101.out) | exact HB.out)) hb); clear HO105; clear HO108; clear HO111; clear BK101; clear HB; have HO105 := n0_; have HO108 := n1_; have HO111 := n2_; have HO114 := n3_; have HO117 := n4_; have HO120 := n5_; have BK101 := n6_; have HB := n7_; clear n0_ n1_ n2_ n3_ n4_ n5_ n6_ n7_; (try clear hb); (try clear hb2); (try clear hk); (try clear hi); (try clear ho0); (try clear ho1); (try clear ho2)) | ((with_reducible refine qas (N := 4) rfl ?_); refine qar ?hg (N := 4) ?hd (cs := #[.slice none 0 0, .slice none 0 0, .slice none 0 0]) (t := 31) ?hr ?_; (case hd => rfl); (case hg => rfl); (case hr => first | (go_simp; done) | (go_simp; rfl)); intro gb121 hg w27 hbox hb; have n0_ := Aside0.mk (Kd.R_below (by (with_reducible repeat (first | apply Kd.R_alloc | apply Kd.R_drewN | apply Kd.R_drew)); exact HO105.out) hb); have n1_ := Aside0.mk (Kd.R_below (by (with_reducible repeat (first | apply Kd.R_alloc | apply Kd.R_drewN | apply Kd.R_drew)); exact HO108.out) hb); have n2_ := Aside0.mk (Kd.R_below (by (with_reducible repeat (first | apply Kd.R_alloc | apply Kd.R_drewN | apply Kd.R_drew)); exact HO111.out) hb); have n3_ := Aside0.mk (Kd.R_below (by (with_reducible repeat (first | apply Kd.R_alloc | apply Kd.R_drewN | apply Kd.R_drew)); exact HO114.out) hb); have n4_ := Aside0.mk (Kd.R_below (by (with_reducible repeat (first | apply Kd.R_alloc | apply Kd.R_drewN | apply Kd.R_drew)); exact HO117.out) hb); have n5_ := Aside0.mk (Kd.R_below (by (with_reducible repeat (first | apply Kd.R_alloc | apply Kd.R_drewN | apply Kd.R_drew)); exact HO120.out) hb); have n6_ := Aside0.mk (qao (g := gb101) (o := .cells #[.slice A0_0 l0_0.length c0_0, .slice A0_1 l0_1.length c0_1, .slice A0_2 l0_2.length c0_2] 25 (0, 0)) (by (with_reducible repeat (first | refine qah ?_ _ | refine qai ?_ | refine qag ?_ _)); exact BK101.out) hb); have n7_ := Aside0.mk (qak (by repeat (first | (with_reducible first | exact HB.out | apply qab | apply qaa | apply qac | refine qae ?_ GE101.out) | exact HB.out)) hb); have n8_ := Aside0.mk (hbox); have n9_ := Aside0.mk ((by rw [hg]; exact (qaj (by repeat (first | (with_reducible first | exact HB.out | apply qab | apply qaa | apply qac | refine qae ?_ GE101.out) | exact HB.out))) : w.heap.size ≤ gb121)); have n10_ := Aside0.mk ((by rw [hg]; exact (qaj (by repeat (first | (with_reducible first | exact HB.out | apply qab | apply qaa | apply qac | refine qae ?_ GE101.out) | exact HB.out))) : w.heap.size ≤ gb121)); have n11_ := Aside0.mk ((by rw [hg]; exact Nat.ne_of_lt (qaw (g := gb101) (o := .cells #[.slice A0_0 l0_0.length c0_0, .slice A0_1 l0_1.length c0_1, .slice A0_2 l0_2.length c0_2] 25 (0, 0)) (by (with_reducible repeat (first | refine qah ?_ _ | refine qai ?_ | refine qag ?_ _)); exact BK101.out)) : gb101 ≠ gb121)); have n12_ := Aside0.mk ((by rw [hg]; exact Nat.ne_of_gt (qaw (g := gb101) (o := .cells #[.slice A0_0 l0_0.length c0_0, .slice A0_1 l0_1.length c0_1, .slice A0_2 l0_2.length c0_2] 25 (0, 0)) (by (with_reducible repeat (first | refine qah ?_ _ | refine qai ?_ | refine qag ?_ _)); exact BK101.out)) : gb121 ≠ gb101)); clear HO105; clear HO108; clear HO111; clear HO114; clear HO117; clear HO120; clear BK101; clear HB; have HO105 := n0_; have HO108 := n1_; have HO111 := n2_; have HO114 := n3_; have HO117 := n4_; have HO120 := n5_; have BK101 := n6_; have HB := n7_; have BK121 := n8_; have GW121 := n9_; have GE121 := n10_; have NB101_121 := n11_; have NB121_101 := n12_; clear n0_ n1_ n2_ n3_ n4_ n5_ n6_ n7_ n8_ n9_ n10_ n11_ n12_; clear hb hbox hg; obtain ⟨Ao28, co28, eo28⟩ := Kd.R_slice HO114.out; subst eo28; have hnb29 := NB121_101.out; have hnc29 := NB101_121.out; have hcz30_0 : w27.cell? ⟨gb121, 0, none⟩ = some (.slice none 0 0) := (qaf BK121.out 0).trans rfl; have hcz30_1 : w27.cell? ⟨gb121, 1, none⟩ = some (.slice none 0 0) := (qaf BK121.out 1).trans rfl; have hcz30_2 : w27.cell? ⟨gb121, 2, none⟩ = some (.slice none 0 0) := (qaf BK121.out 2).trans rfl; have hfz30_0 := qad BK121.out 0; have hfz30_1 := qad BK121.out 1; have hfz30_2 := qad BK121.out 2; obtain ⟨Ao31, co31, eo31⟩ := Kd.R_slice HO117.out; subst eo31; obtain ⟨Ao32, co32, eo32⟩ := Kd.R_slice HO120.out; subst eo32; have hcz33_0 : w27.cell? ⟨gb101, 0, none⟩ = some (.slice A0_0 l0_0.length c0_0) := (qaf BK101.out 0).trans rfl; have hcz33_1 : w27.cell? ⟨gb101, 1, none⟩ = some (.slice A0_1 l0_1.length c0_1) := (qaf BK101.out 1).trans rfl; have hcz33_2 : w27.cell? ⟨gb101, 2, none⟩ = some (.slice A0_2 l0_2.length c0_2) := (qaf BK101.out 2).trans rfl; have hfz33_0 := qad BK101.out 0; have hfz33_1 := qad BK101.out 1; have hfz33_2 := qad BK101.out 2) | ((with_reducible refine qaq (f := 14) rfl ?_); refine qav (some 20) rfl rfl Try.func14 (by kernel_rfl) rfl #[.agg #[.slice A0_0 l0_0.length c0_0, .slice A0_1 l0_1.length c0_1, .slice A0_2 l0_2.length c0_2]] rfl (by (try simp only [List.map_toArray, List.map_cons, List.map_nil]); first | done | rfl | (simp only [List.length_drop, List.length_take]; rfl)) ?_; (with_reducible refine (laws_toDisk.calls k _ _ l0_0 _ _ l0_1 _ _ l0_2 t122 t125 t128 _ ?side1 ?side2 ?side3 ?side4 ?side5 ?side6 A9.out).mono ?_); (case side1 => exact Kd.C_below HR0_0.out (by repeat (first | (with_reducible first | exact HB.out | apply qab | apply qaa | apply qac | refine qae ?_ GE101.out | refine qae ?_ GE121.out) | exact HB.out))); (case side2 => exact HC0_0.out); (case side3 => exact Kd.C_below HR0_1.out (by repeat (first | (with_reducible first | exact HB.out | apply qab | apply qaa | apply qac | refine qae ?_ GE101.out | refine qae ?_ GE121.out) | exact HB.out))); (case side4 => exact HC0_1.out); (case side5 => exact Kd.C_below HR0_2.out (by repeat (first | (with_reducible first | exact HB.out | apply qab | apply qaa | apply qac | refine qae ?_ GE101.out | refine qae ?_ GE121.out) | exact HB.out))); (case side6 => exact HC0_2.out); rintro e w34 ⟨v123, v126, v129, rfl, ho0, ho1, ho2, hb⟩; refine ⟨_, rfl, ?_⟩; have n0_ := Aside0.mk (Kd.R_mono (Kd.R_told (Kd.R_told (Kd.R_old (by (with_reducible repeat (first | apply Kd.R_alloc | apply Kd.R_drewN | apply Kd.R_drew)); exact (Kd.R_mono (Kd.R_far (p := ⟨gb121, 2, none⟩) (Kd.R_far (p := ⟨gb121, 1, none⟩) (Kd.R_far (p := ⟨gb121, 0, none⟩) (Kd.R_types HO105.out BK121.out (by decide)) (fun _ hk => hk.2) (.slice Ao28 t112.length co28)) (fun _ hk => hk.2) (.slice Ao31 t115.length co31)) (fun _ hk => hk.2) (.slice Ao32 t118.length co32)) (fun _ h_ => h_.1))) hb) (Kd.R_base ho0)) (Kd.R_base ho1)) (fun _ h_ => h_.1)); have n1_ := Aside0.mk (Kd.R_mono (Kd.R_told (Kd.R_told (Kd.R_old (by (with_reducible repeat (first | apply Kd.R_alloc | apply Kd.R_drewN | apply Kd.R_drew)); exact (Kd.R_mono (Kd.R_far (p := ⟨gb121, 2, none⟩) (Kd.R_far (p := ⟨gb121, 1, none⟩) (Kd.R_far (p := ⟨gb121, 0, none⟩) (Kd.R_types HO108.out BK121.out (by decide)) (fun _ hk => hk.2) (.slice Ao28 t112.length co28)) (fun _ hk => hk.2) (.slice Ao31 t115.length co31)) (fun _ hk => hk.2) (.slice Ao32 t118.length co32)) (fun _ h_ => h_.1))) hb) (Kd.R_base ho0)) (Kd.R_base ho1)) (fun _ h_ => h_.1)); have n2_ := Aside0.mk (Kd.R_elder' (by (with_reducible repeat (first | apply Kd.R_alloc | apply Kd.R_drewN | apply Kd.R_drew)); exact (Kd.R_mono (Kd.R_far (p := ⟨gb121, 2, none⟩) (Kd.R_far (p := ⟨gb121, 1, none⟩) (Kd.R_far (p := ⟨gb121, 0, none⟩) (Kd.R_types HO111.out BK121.out (by decide)) (fun _ hk => hk.2) (.slice Ao28 t112.length co28)) (fun _ hk => hk.2) (.slice Ao31 t115.length co31)) (fun _ hk => hk.2) (.slice Ao32 t118.length co32)) (fun _ h_ => h_.1))) (Kd.R_base ho2) hb); have n3_ := Aside0.mk (Kd.R_mono (Kd.R_told (Kd.R_told (Kd.R_old (by (with_reducible repeat (first | apply Kd.R_alloc | apply Kd.R_drewN | apply Kd.R_drew)); exact (Kd.R_mono (Kd.R_far (p := ⟨gb121, 2, none⟩) (Kd.R_far (p := ⟨gb121, 1, none⟩) (Kd.R_far (p := ⟨gb121, 0, none⟩) (Kd.R_types HO114.out BK121.out (by decide)) (fun _ hk => hk.2) (.slice Ao28 t112.length co28)) (fun _ hk => hk.2) (.slice Ao31 t115.length co31)) (fun _ hk => hk.2) (.slice Ao32 t118.length co32)) (fun _ h_ => h_.1))) hb) (Kd.R_base ho0)) (Kd.R_base ho1)) (fun _ h_ => h_.1)); have n4_ := Aside0.mk (Kd.R_mono (Kd.R_told (Kd.R_told (Kd.R_old (by (with_reducible repeat (first | apply Kd.R_alloc | apply Kd.R_drewN | apply Kd.R_drew)); exact (Kd.R_mono (Kd.R_far (p := ⟨gb121, 2, none⟩) (Kd.R_far (p := ⟨gb121, 1, none⟩) (Kd.R_far (p := ⟨gb121, 0, none⟩) (Kd.R_types HO117.out BK121.out (by decide)) (fun _ hk => hk.2) (.slice Ao28 t112.length co28)) (fun _ hk => hk.2) (.slice Ao31 t115.length co31)) (fun _ hk => hk.2) (.slice Ao32 t118.length co32)) (fun _ h_ => h_.1))) hb) (Kd.R_base ho0)) (Kd.R_base ho1)) (fun _ h_ => h_.1)); have n5_ := Aside0.mk (Kd.R_elder' (by (with_reducible repeat (first | apply Kd.R_alloc | apply Kd.R_drewN | apply Kd.R_drew)); exact (Kd.R_mono (Kd.R_far (p := ⟨gb121, 2, none⟩) (Kd.R_far (p := ⟨gb121, 1, none⟩) (Kd.R_far (p := ⟨gb121, 0, none⟩) (Kd.R_types HO120.out BK121.out (by decide)) (fun _ hk => hk.2) (.slice Ao28 t112.length co28)) (fun _ hk => hk.2) (.slice Ao31 t115.length co31)) (fun _ hk => hk.2) (.slice Ao32 t118.length co32)) (fun _ h_ => h_.1))) (Kd.R_base ho2) hb); have n6_ := Aside0.mk (Kd.R_lower (Kd.R_new' (Kd.R_new' (Kd.R_new' (Kd.R_new' ho0 (Kd.R_lt (by (with_reducible repeat (first | apply Kd.R_alloc | apply Kd.R_drewN | apply Kd.R_drew)); exact (Kd.R_mono (Kd.R_far (p := ⟨gb121, 2, none⟩) (Kd.R_far (p := ⟨gb121, 1, none⟩) (Kd.R_far (p := ⟨gb121, 0, none⟩) (Kd.R_types HO105.out BK121.out (by decide)) (fun _ hk => hk.2) (.slice Ao28 t112.length co28)) (fun _ hk => hk.2) (.slice Ao31 t115.length co31)) (fun _ hk => hk.2) (.slice Ao32 t118.length co32)) (fun _ h_ => h_.1))))) (Kd.R_lt (by (with_reducible repeat (first | apply Kd.R_alloc | apply Kd.R_drewN | apply Kd.R_drew)); exact (Kd.R_mono (Kd.R_far (p := ⟨gb121, 2, none⟩) (Kd.R_far (p := ⟨gb121, 1, none⟩) (Kd.R_far (p := ⟨gb121, 0, none⟩) (Kd.R_types HO108.out BK121.out (by decide)) (fun _ hk => hk.2) (.slice Ao28 t112.length co28)) (fun _ hk => hk.2) (.slice Ao31 t115.length co31)) (fun _ hk => hk.2) (.slice Ao32 t118.length co32)) (fun _ h_ => h_.1))))) (Kd.R_lt (by (with_reducible repeat (first | apply Kd.R_alloc | apply Kd.R_drewN | apply Kd.R_drew)); exact (Kd.R_mono (Kd.R_far (p := ⟨gb121, 2, none⟩) (Kd.R_far (p := ⟨gb121, 1, none⟩) (Kd.R_far (p := ⟨gb121, 0, none⟩) (Kd.R_types HO114.out BK121.out (by decide)) (fun _ hk => hk.2) (.slice Ao28 t112.length co28)) (fun _ hk => hk.2) (.slice Ao31 t115.length co31)) (fun _ hk => hk.2) (.slice Ao32 t118.length co32)) (fun _ h_ => h_.1))))) (Kd.R_lt (by (with_reducible repeat (first | apply Kd.R_alloc | apply Kd.R_drewN | apply Kd.R_drew)); exact (Kd.R_mono (Kd.R_far (p := ⟨gb121, 2, none⟩) (Kd.R_far (p := ⟨gb121, 1, none⟩) (Kd.R_far (p := ⟨gb121, 0, none⟩) (Kd.R_types HO117.out BK121.out (by decide)) (fun _ hk => hk.2) (.slice Ao28 t112.length co28)) (fun _ hk => hk.2) (.slice Ao31 t115.length co31)) (fun _ hk => hk.2) (.slice Ao32 t118.length co32)) (fun _ h_ => h_.1))))) (qaj (by repeat (first | (with_reducible first | exact HB.out | apply qab | apply qaa | apply qac | refine qae ?_ GE101.out | refine qae ?_ GE121.out) | exact HB.out)))); have n7_ := Aside0.mk (Kd.R_lower (Kd.R_new' (Kd.R_new' (Kd.R_new' (Kd.R_new' ho1 (Kd.R_lt (by (with_reducible repeat (first | apply Kd.R_alloc | apply Kd.R_drewN | apply Kd.R_drew)); exact (Kd.R_mono (Kd.R_far (p := ⟨gb121, 2, none⟩) (Kd.R_far (p := ⟨gb121, 1, none⟩) (Kd.R_far (p := ⟨gb121, 0, none⟩) (Kd.R_types HO105.out BK121.out (by decide)) (fun _ hk => hk.2) (.slice Ao28 t112.length co28)) (fun _ hk => hk.2) (.slice Ao31 t115.length co31)) (fun _ hk => hk.2) (.slice Ao32 t118.length co32)) (fun _ h_ => h_.1))))) (Kd.R_lt (by (with_reducible repeat (first | apply Kd.R_alloc | apply Kd.R_drewN | apply Kd.R_drew)); exact (Kd.R_mono (Kd.R_far (p := ⟨gb121, 2, none⟩) (Kd.R_far (p := ⟨gb121, 1, none⟩) (Kd.R_far (p := ⟨gb121, 0, none⟩) (Kd.R_types HO108.out BK121.out (by decide)) (fun _ hk => hk.2) (.slice Ao28 t112.length co28)) (fun _ hk => hk.2) (.slice Ao31 t115.length co31)) (fun _ hk => hk.2) (.slice Ao32 t118.length co32)) (fun _ h_ => h_.1))))) (Kd.R_lt (by (with_reducible repeat (first | apply Kd.R_alloc | apply Kd.R_drewN | apply Kd.R_drew)); exact (Kd.R_mono (Kd.R_far (p := ⟨gb121, 2, none⟩) (Kd.R_far (p := ⟨gb121, 1, none⟩) (Kd.R_far (p := ⟨gb121, 0, none⟩) (Kd.R_types HO114.out BK121.out (by decide)) (fun _ hk => hk.2) (.slice Ao28 t112.length co28)) (fun _ hk => hk.2) (.slice Ao31 t115.length co31)) (fun _ hk => hk.2) (.slice Ao32 t118.length co32)) (fun _ h_ => h_.1))))) (Kd.R_lt (by (with_reducible repeat (first | apply Kd.R_alloc | apply Kd.R_drewN | apply Kd.R_drew)); exact (Kd.R_mono (Kd.R_far (p := ⟨gb121, 2, none⟩) (Kd.R_far (p := ⟨gb121, 1, none⟩) (Kd.R_far (p := ⟨gb121, 0, none⟩) (Kd.R_types HO117.out BK121.out (by decide)) (fun _ hk => hk.2) (.slice Ao28 t112.length co28)) (fun _ hk => hk.2) (.slice Ao31 t115.length co31)) (fun _ hk => hk.2) (.slice Ao32 t118.length co32)) (fun _ h_ => h_.1))))) (qaj (by repeat (first | (with_reducible first | exact HB.out | apply qab | apply qaa | apply qac | refine qae ?_ GE101.out | refine qae ?_ GE121.out) | exact HB.out)))); have n8_ := Aside0.mk (Kd.R_lower (Kd.R_new' (Kd.R_new' ho2 (Kd.R_lt (by (with_reducible repeat (first | apply Kd.R_alloc | apply Kd.R_drewN | apply Kd.R_drew)); exact (Kd.R_mono (Kd.R_far (p := ⟨gb121, 2, none⟩) (Kd.R_far (p := ⟨gb121, 1, none⟩) (Kd.R_far (p := ⟨gb121, 0, none⟩) (Kd.R_types HO111.out BK121.out (by decide)) (fun _ hk => hk.2) (.slice Ao28 t112.length co28)) (fun _ hk => hk.2) (.slice Ao31 t115.length co31)) (fun _ hk => hk.2) (.slice Ao32 t118.length co32)) (fun _ h_ => h_.1))))) (Kd.R_lt (by (with_reducible repeat (first | apply Kd.R_alloc | apply Kd.R_drewN | apply Kd.R_drew)); exact (Kd.R_mono (Kd.R_far (p := ⟨gb121, 2, none⟩) (Kd.R_far (p := ⟨gb121, 1, none⟩) (Kd.R_far (p := ⟨gb121, 0, none⟩) (Kd.R_types HO120.out BK121.out (by decide)) (fun _ hk => hk.2) (.slice Ao28 t112.length co28)) (fun _ hk => hk.2) (.slice Ao31 t115.length co31)) (fun _ hk => hk.2) (.slice Ao32 t118.length co32)) (fun _ h_ => h_.1))))) (qaj (by repeat (first | (with_reducible first | exact HB.out | apply qab | apply qaa | apply qac | refine qae ?_ GE101.out | refine qae ?_ GE121.out) | exact HB.out)))); have n9_ := Aside0.mk (qao (g := gb101) (o := .cells #[.slice A0_0 l0_0.length c0_0, .slice A0_1 l0_1.length c0_1, .slice A0_2 l0_2.length c0_2] 25 (0, 0)) (by (with_reducible repeat (first | refine qah ?_ _ | refine qai ?_ | refine qag ?_ _)); refine qbd ?_ NB101_121.out _; (with_reducible repeat (first | refine qah ?_ _ | refine qai ?_ | refine qag ?_ _)); refine qbd ?_ NB101_121.out _; (with_reducible repeat (first | refine qah ?_ _ | refine qai ?_ | refine qag ?_ _)); refine qbd ?_ NB101_121.out _; (with_reducible repeat (first | refine qah ?_ _ | refine qai ?_ | refine qag ?_ _)); exact BK101.out) hb); have n10_ := Aside0.mk (qao (g := gb121) (o := .cells #[.slice Ao28 t112.length co28, .slice Ao31 t115.length co31, .slice Ao32 t118.length co32] 31 (0, 0)) (by (with_reducible repeat (first | refine qah ?_ _ | refine qai ?_ | refine qag ?_ _)); refine qbg (cs := #[.slice Ao28 t112.length co28, .slice Ao31 t115.length co31, .slice none 0 0]) ?_ 2 _ rfl; (with_reducible repeat (first | refine qah ?_ _ | refine qai ?_ | refine qag ?_ _)); refine qbg (cs := #[.slice Ao28 t112.length co28, .slice none 0 0, .slice none 0 0]) ?_ 1 _ rfl; (with_reducible repeat (first | refine qah ?_ _ | refine qai ?_ | refine qag ?_ _)); refine qbg (cs := #[.slice none 0 0, .slice none 0 0, .slice none 0 0]) ?_ 0 _ rfl; (with_reducible repeat (first | refine qah ?_ _ | refine qai ?_ | refine qag ?_ _)); exact BK121.out) hb); have n11_ := Aside0.mk (qak (by repeat (first | (with_reducible first | exact HB.out | apply qab | apply qaa | apply qac | refine qae ?_ GE101.out | refine qae ?_ GE121.out) | exact HB.out)) hb); clear HO105; clear HO108; clear HO111; clear HO114; clear HO117; clear HO120; clear BK101; clear BK121; clear HB; have HO105 := n0_; have HO108 := n1_; have HO111 := n2_; have HO114 := n3_; have HO117 := n4_; have HO120 := n5_; have HO124 := n6_; have HO127 := n7_; have HO130 := n8_; have BK101 := n9_; have BK121 := n10_; have HB := n11_; clear n0_ n1_ n2_ n3_ n4_ n5_ n6_ n7_ n8_ n9_ n10_ n11_; (try clear hb); (try clear hb2); (try clear hk); (try clear hi); (try clear ho0); (try clear ho1); (try clear ho2)) | ((with_reducible refine qas (N := 5) rfl ?_); refine qar ?hg (N := 5) ?hd (cs := #[.slice none 0 0, .slice none 0 0, .slice none 0 0]) (t := 31) ?hr ?_; (case hd => rfl); (case hg => rfl); (case hr => first | (go_simp; done) | (go_simp; rfl)); intro gb131 hg w35 hbox hb; have n0_ := Aside0.mk (Kd.R_below (by (with_reducible repeat (first | apply Kd.R_alloc | apply Kd.R_drewN | apply Kd.R_drew)); exact HO105.out) hb); have n1_ := Aside0.mk (Kd.R_below (by (with_reducible repeat (first | apply Kd.R_alloc | apply Kd.R_drewN | apply Kd.R_drew)); exact HO108.out) hb); have n2_ := Aside0.mk (Kd.R_below (by (with_reducible repeat (first | apply Kd.R_alloc | apply Kd.R_drewN | apply Kd.R_drew)); exact HO111.out) hb); have n3_ := Aside0.mk (Kd.R_below (by (with_reducible repeat (first | apply Kd.R_alloc | apply Kd.R_drewN | apply Kd.R_drew)); exact HO114.out) hb); have n4_ := Aside0.mk (Kd.R_below (by (with_reducible repeat (first | apply Kd.R_alloc | apply Kd.R_drewN | apply Kd.R_drew)); exact HO117.out) hb); have n5_ := Aside0.mk (Kd.R_below (by (with_reducible repeat (first | apply Kd.R_alloc | apply Kd.R_drewN | apply Kd.R_drew)); exact HO120.out) hb); have n6_ := Aside0.mk (Kd.R_below (by (with_reducible repeat (first | apply Kd.R_alloc | apply Kd.R_drewN | apply Kd.R_drew)); exact HO124.out) hb); have n7_ := Aside0.mk (Kd.R_below (by (with_reducible repeat (first | apply Kd.R_alloc | apply Kd.R_drewN | apply Kd.R_drew)); exact HO127.out) hb); have n8_ := Aside0.mk (Kd.R_below (by (with_reducible repeat (first | apply Kd.R_alloc | apply Kd.R_drewN | apply Kd.R_drew)); exact HO130.out) hb); have n9_ := Aside0.mk (qao (g := gb101) (o := .cells #[.slice A0_0 l0_0.length c0_0, .slice A0_1 l0_1.length c0_1, .slice A0_2 l0_2.length c0_2] 25 (0, 0)) (by (with_reducible repeat (first | refine qah ?_ _ | refine qai ?_ | refine qag ?_ _)); exact BK101.out) hb); have n10_ := Aside0.mk (qao (g := gb121) (o := .cells #[.slice Ao28 t112.length co28, .slice Ao31 t115.length co31, .slice Ao32 t118.length co32] 31 (0, 0)) (by (with_reducible repeat (first | refine qah ?_ _ | refine qai ?_ | refine qag ?_ _)); exact BK121.out) hb); have n11_ := Aside0.mk (qak (by repeat (first | (with_reducible first | exact HB.out | apply qab | apply qaa | apply qac | refine qae ?_ GE101.out | refine qae ?_ GE121.out) | exact HB.out)) hb); have n12_ := Aside0.mk (hbox); have n13_ := Aside0.mk ((by rw [hg]; exact (qaj (by repeat (first | (with_reducible first | exact HB.out | apply qab | apply qaa | apply qac | refine qae ?_ GE101.out | refine qae ?_ GE121.out) | exact HB.out))) : w.heap.size ≤ gb131)); have n14_ := Aside0.mk ((by rw [hg]; exact (qaj (by repeat (first | (with_reducible first | exact HB.out | apply qab | apply qaa | apply qac | refine qae ?_ GE101.out | refine qae ?_ GE121.out) | exact HB.out))) : w.heap.size ≤ gb131)); have n15_ := Aside0.mk ((by rw [hg]; exact Nat.ne_of_lt (qaw (g := gb101) (o := .cells #[.slice A0_0 l0_0.length c0_0, .slice A0_1 l0_1.length c0_1, .slice A0_2 l0_2.length c0_2] 25 (0, 0)) (by (with_reducible repeat (first | refine qah ?_ _ | refine qai ?_ | refine qag ?_ _)); exact BK101.out)) : gb101 ≠ gb131)); have n16_ := Aside0.mk ((by rw [hg]; exact Nat.ne_of_gt (qaw (g := gb101) (o := .cells #[.slice A0_0 l0_0.length c0_0, .slice A0_1 l0_1.length c0_1, .slice A0_2 l0_2.length c0_2] 25 (0, 0)) (by (with_reducible repeat (first | refine qah ?_ _ | refine qai ?_ | refine qag ?_ _)); exact BK101.out)) : gb131 ≠ gb101)); have n17_ := Aside0.mk ((by rw [hg]; exact Nat.ne_of_lt (qaw (g := gb121) (o := .cells #[.slice Ao28 t112.length co28, .slice Ao31 t115.length co31, .slice Ao32 t118.length co32] 31 (0, 0)) (by (with_reducible repeat (first | refine qah ?_ _ | refine qai ?_ | refine qag ?_ _)); exact BK121.out)) : gb121 ≠ gb131)); have n18_ := Aside0.mk ((by rw [hg]; exact Nat.ne_of_gt (qaw (g := gb121) (o := .cells #[.slice Ao28 t112.length co28, .slice Ao31 t115.length co31, .slice Ao32 t118.length co32] 31 (0, 0)) (by (with_reducible repeat (first | refine qah ?_ _ | refine qai ?_ | refine qag ?_ _)); exact BK121.out)) : gb131 ≠ gb121)); clear HO105; clear HO108; clear HO111; clear HO114; clear HO117; clear HO120; clear HO124; clear HO127; clear HO130; clear BK101; clear BK121; clear HB; have HO105 := n0_; have HO108 := n1_; have HO111 := n2_; have HO114 := n3_; have HO117 := n4_; have HO120 := n5_; have HO124 := n6_; have HO127 := n7_; have HO130 := n8_; have BK101 := n9_; have BK121 := n10_; have HB := n11_; have BK131 := n12_; have GW131 := n13_; have GE131 := n14_; have NB101_131 := n15_; have NB131_101 := n16_; have NB121_131 := n17_; have NB131_121 := n18_; clear n0_ n1_ n2_ n3_ n4_ n5_ n6_ n7_ n8_ n9_ n10_ n11_ n12_ n13_ n14_ n15_ n16_ n17_ n18_; clear hb hbox hg; obtain ⟨Ao36, co36, eo36⟩ := Kd.R_slice HO124.out; subst eo36; have hnb37 := NB131_101.out; have hnc37 := NB101_131.out; have hnb38 := NB131_121.out; have hnc38 := NB121_131.out; have hcz39_0 : w35.cell? ⟨gb131, 0, none⟩ = some (.slice none 0 0) := (qaf BK131.out 0).trans rfl; have hcz39_1 : w35.cell? ⟨gb131, 1, none⟩ = some (.slice none 0 0) := (qaf BK131.out 1).trans rfl; have hcz39_2 : w35.cell? ⟨gb131, 2, none⟩ = some (.slice none 0 0) := (qaf BK131.out 2).trans rfl; have hfz39_0 := qad BK131.out 0; have hfz39_1 := qad BK131.out 1; have hfz39_2 := qad BK131.out 2; obtain ⟨Ao40, co40, eo40⟩ := Kd.R_slice HO127.out; subst eo40; obtain ⟨Ao41, co41, eo41⟩ := Kd.R_slice HO130.out; subst eo41) | ((with_reducible refine qaq (f := 24) rfl ?_); refine qav (some 22) rfl rfl Try.func24 (by kernel_rfl) rfl #[.agg #[.slice Ao36 t122.length co36, .slice Ao40 t125.length co40, .slice Ao41 t128.length co41]] rfl (by (try simp only [List.map_toArray, List.map_cons, List.map_nil]); first | done | rfl | (simp only [List.length_drop, List.length_take]; rfl)) ?_; (with_reducible refine (impl_Sync.calls _ _ t122 _ _ t125 _ _ t128 t132 t135 t138 _ ?side1 ?side2 ?side3 ?side4 ?side5 ?side6 A10.out).mono ?_); (case side1 => refine (Kd.R_reads' (e := 80) (base := w.heap.size) (ok := fun k_ => ((((some k_ ≠ (.slice Ao40 t125.length co40 : Value).ownBlock ∧ some k_ ≠ (.slice Ao23 t103.length co23 : Value).ownBlock) ∧ some k_ ≠ (.slice Ao24 t106.length co24 : Value).ownBlock) ∧ some k_ ≠ (.slice Ao28 t112.length co28 : Value).ownBlock) ∧ some k_ ≠ (.slice Ao31 t115.length co31 : Value).ownBlock)) (n := t122.length) (c := co36) ?_).2.2; exact (by (with_reducible repeat (first | apply Kd.R_alloc | apply Kd.R_drewN | apply Kd.R_drew)); exact (Kd.R_mono (Kd.R_far (p := ⟨gb131, 2, none⟩) (Kd.R_far (p := ⟨gb131, 1, none⟩) (Kd.R_far (p := ⟨gb131, 0, none⟩) (Kd.R_types HO124.out BK131.out (by decide)) (fun _ hk => hk.2) (.slice Ao36 t122.length co36)) (fun _ hk => hk.2) (.slice Ao40 t125.length co40)) (fun _ hk => hk.2) (.slice Ao41 t128.length co41)) (fun _ h_ => h_.1)))); (case side2 => exact (Kd.R_reads' HO124.out).2.1); (case side3 => refine (Kd.R_reads' (e := 80) (base := w.heap.size) (ok := fun k_ => ((((some k_ ≠ (.slice Ao36 t122.length co36 : Value).ownBlock ∧ some k_ ≠ (.slice Ao23 t103.length co23 : Value).ownBlock) ∧ some k_ ≠ (.slice Ao24 t106.length co24 : Value).ownBlock) ∧ some k_ ≠ (.slice Ao28 t112.length co28 : Value).ownBlock) ∧ some k_ ≠ (.slice Ao31 t115.length co31 : Value).ownBlock)) (n := t125.length) (c := co40) ?_).2.2; exact (by (with_reducible repeat (first | apply Kd.R_alloc | apply Kd.R_drewN | apply Kd.R_drew)); exact (Kd.R_mono (Kd.R_far (p := ⟨gb131, 2, none⟩) (Kd.R_far (p := ⟨gb131, 1, none⟩) (Kd.R_far (p := ⟨gb131, 0, none⟩) (Kd.R_types HO127.out BK131.out (by decide)) (fun _ hk => hk.2) (.slice Ao36 t122.length co36)) (fun _ hk => hk.2) (.slice Ao40 t125.length co40)) (fun _ hk => hk.2) (.slice Ao41 t128.length co41)) (fun _ h_ => h_.1)))); (case side4 => exact (Kd.R_reads' HO127.out).2.1); (case side5 => refine (Kd.R_reads' (e := 73) (base := w.heap.size) (ok := fun k_ => ((True ∧ some k_ ≠ (.slice Ao25 t109.length co25 : Value).ownBlock) ∧ some k_ ≠ (.slice Ao32 t118.length co32 : Value).ownBlock)) (n := t128.length) (c := co41) ?_).2.2; exact (by (with_reducible repeat (first | apply Kd.R_alloc | apply Kd.R_drewN | apply Kd.R_drew)); exact (Kd.R_mono (Kd.R_far (p := ⟨gb131, 2, none⟩) (Kd.R_far (p := ⟨gb131, 1, none⟩) (Kd.R_far (p := ⟨gb131, 0, none⟩) (Kd.R_types HO130.out BK131.out (by decide)) (fun _ hk => hk.2) (.slice Ao36 t122.length co36)) (fun _ hk => hk.2) (.slice Ao40 t125.length co40)) (fun _ hk => hk.2) (.slice Ao41 t128.length co41)) (fun _ h_ => h_.1)))); (case side6 => exact (Kd.R_reads' HO130.out).2.1); rintro e w42 ⟨v133, v136, v139, rfl, ho0, ho1, ho2, hb⟩; refine ⟨_, rfl, ?_⟩; have n0_ := Aside0.mk (Kd.R_mono (Kd.R_told (Kd.R_told (Kd.R_old (by (with_reducible repeat (first | apply Kd.R_alloc | apply Kd.R_drewN | apply Kd.R_drew)); exact (Kd.R_mono (Kd.R_far (p := ⟨gb131, 2, none⟩) (Kd.R_far (p := ⟨gb131, 1, none⟩) (Kd.R_far (p := ⟨gb131, 0, none⟩) (Kd.R_types HO105.out BK131.out (by decide)) (fun _ hk => hk.2) (.slice Ao36 t122.length co36)) (fun _ hk => hk.2) (.slice Ao40 t125.length co40)) (fun _ hk => hk.2) (.slice Ao41 t128.length co41)) (fun _ h_ => h_.1))) hb) (Kd.R_base ho0)) (Kd.R_base ho1)) (fun _ h_ => h_.1)); have n1_ := Aside0.mk (Kd.R_mono (Kd.R_told (Kd.R_told (Kd.R_old (by (with_reducible repeat (first | apply Kd.R_alloc | apply Kd.R_drewN | apply Kd.R_drew)); exact (Kd.R_mono (Kd.R_far (p := ⟨gb131, 2, none⟩) (Kd.R_far (p := ⟨gb131, 1, none⟩) (Kd.R_far (p := ⟨gb131, 0, none⟩) (Kd.R_types HO108.out BK131.out (by decide)) (fun _ hk => hk.2) (.slice Ao36 t122.length co36)) (fun _ hk => hk.2) (.slice Ao40 t125.length co40)) (fun _ hk => hk.2) (.slice Ao41 t128.length co41)) (fun _ h_ => h_.1))) hb) (Kd.R_base ho0)) (Kd.R_base ho1)) (fun _ h_ => h_.1)); have n2_ := Aside0.mk (Kd.R_elder' (by (with_reducible repeat (first | apply Kd.R_alloc | apply Kd.R_drewN | apply Kd.R_drew)); exact (Kd.R_mono (Kd.R_far (p := ⟨gb131, 2, none⟩) (Kd.R_far (p := ⟨gb131, 1, none⟩) (Kd.R_far (p := ⟨gb131, 0, none⟩) (Kd.R_types HO111.out BK131.out (by decide)) (fun _ hk => hk.2) (.slice Ao36 t122.length co36)) (fun _ hk => hk.2) (.slice Ao40 t125.length co40)) (fun _ hk => hk.2) (.slice Ao41 t128.length co41)) (fun _ h_ => h_.1))) (Kd.R_base ho2) hb); have n3_ := Aside0.mk (Kd.R_mono (Kd.R_told (Kd.R_told (Kd.R_old (by (with_reducible repeat (first | apply Kd.R_alloc | apply Kd.R_drewN | apply Kd.R_drew)); exact (Kd.R_mono (Kd.R_far (p := ⟨gb131, 2, none⟩) (Kd.R_far (p := ⟨gb131, 1, none⟩) (Kd.R_far (p := ⟨gb131, 0, none⟩) (Kd.R_types HO114.out BK131.out (by decide)) (fun _ hk => hk.2) (.slice Ao36 t122.length co36)) (fun _ hk => hk.2) (.slice Ao40 t125.length co40)) (fun _ hk => hk.2) (.slice Ao41 t128.length co41)) (fun _ h_ => h_.1))) hb) (Kd.R_base ho0)) (Kd.R_base ho1)) (fun _ h_ => h_.1)); have n4_ := Aside0.mk (Kd.R_mono (Kd.R_told (Kd.R_told (Kd.R_old (by (with_reducible repeat (first | apply Kd.R_alloc | apply Kd.R_drewN | apply Kd.R_drew)); exact (Kd.R_mono (Kd.R_far (p := ⟨gb131, 2, none⟩) (Kd.R_far (p := ⟨gb131, 1, none⟩) (Kd.R_far (p := ⟨gb131, 0, none⟩) (Kd.R_types HO117.out BK131.out (by decide)) (fun _ hk => hk.2) (.slice Ao36 t122.length co36)) (fun _ hk => hk.2) (.slice Ao40 t125.length co40)) (fun _ hk => hk.2) (.slice Ao41 t128.length co41)) (fun _ h_ => h_.1))) hb) (Kd.R_base ho0)) (Kd.R_base ho1)) (fun _ h_ => h_.1)); have n5_ := Aside0.mk (Kd.R_elder' (by (with_reducible repeat (first | apply Kd.R_alloc | apply Kd.R_drewN | apply Kd.R_drew)); exact (Kd.R_mono (Kd.R_far (p := ⟨gb131, 2, none⟩) (Kd.R_far (p := ⟨gb131, 1, none⟩) (Kd.R_far (p := ⟨gb131, 0, none⟩) (Kd.R_types HO120.out BK131.out (by decide)) (fun _ hk => hk.2) (.slice Ao36 t122.length co36)) (fun _ hk => hk.2) (.slice Ao40 t125.length co40)) (fun _ hk => hk.2) (.slice Ao41 t128.length co41)) (fun _ h_ => h_.1))) (Kd.R_base ho2) hb); have n6_ := Aside0.mk (Kd.R_mono (Kd.R_told (Kd.R_told (Kd.R_old (by (with_reducible repeat (first | apply Kd.R_alloc | apply Kd.R_drewN | apply Kd.R_drew)); exact (Kd.R_mono (Kd.R_far (p := ⟨gb131, 2, none⟩) (Kd.R_far (p := ⟨gb131, 1, none⟩) (Kd.R_far (p := ⟨gb131, 0, none⟩) (Kd.R_types HO124.out BK131.out (by decide)) (fun _ hk => hk.2) (.slice Ao36 t122.length co36)) (fun _ hk => hk.2) (.slice Ao40 t125.length co40)) (fun _ hk => hk.2) (.slice Ao41 t128.length co41)) (fun _ h_ => h_.1))) hb) (Kd.R_base ho0)) (Kd.R_base ho1)) (fun _ h_ => h_.1)); have n7_ := Aside0.mk (Kd.R_mono (Kd.R_told (Kd.R_told (Kd.R_old (by (with_reducible repeat (first | apply Kd.R_alloc | apply Kd.R_drewN | apply Kd.R_drew)); exact (Kd.R_mono (Kd.R_far (p := ⟨gb131, 2, none⟩) (Kd.R_far (p := ⟨gb131, 1, none⟩) (Kd.R_far (p := ⟨gb131, 0, none⟩) (Kd.R_types HO127.out BK131.out (by decide)) (fun _ hk => hk.2) (.slice Ao36 t122.length co36)) (fun _ hk => hk.2) (.slice Ao40 t125.length co40)) (fun _ hk => hk.2) (.slice Ao41 t128.length co41)) (fun _ h_ => h_.1))) hb) (Kd.R_base ho0)) (Kd.R_base ho1)) (fun _ h_ => h_.1)); have n8_ := Aside0.mk (Kd.R_elder' (by (with_reducible repeat (first | apply Kd.R_alloc | apply Kd.R_drewN | apply Kd.R_drew)); exact (Kd.R_mono (Kd.R_far (p := ⟨gb131, 2, none⟩) (Kd.R_far (p := ⟨gb131, 1, none⟩) (Kd.R_far (p := ⟨gb131, 0, none⟩) (Kd.R_types HO130.out BK131.out (by decide)) (fun _ hk => hk.2) (.slice Ao36 t122.length co36)) (fun _ hk => hk.2) (.slice Ao40 t125.length co40)) (fun _ hk => hk.2) (.slice Ao41 t128.length co41)) (fun _ h_ => h_.1))) (Kd.R_base ho2) hb); have n9_ := Aside0.mk (Kd.R_lower (Kd.R_new' (Kd.R_new' (Kd.R_new' (Kd.R_new' (Kd.R_new' (Kd.R_new' ho0 (Kd.R_lt (by (with_reducible repeat (first | apply Kd.R_alloc | apply Kd.R_drewN | apply Kd.R_drew)); exact (Kd.R_mono (Kd.R_far (p := ⟨gb131, 2, none⟩) (Kd.R_far (p := ⟨gb131, 1, none⟩) (Kd.R_far (p := ⟨gb131, 0, none⟩) (Kd.R_types HO105.out BK131.out (by decide)) (fun _ hk => hk.2) (.slice Ao36 t122.length co36)) (fun _ hk => hk.2) (.slice Ao40 t125.length co40)) (fun _ hk => hk.2) (.slice Ao41 t128.length co41)) (fun _ h_ => h_.1))))) (Kd.R_lt (by (with_reducible repeat (first | apply Kd.R_alloc | apply Kd.R_drewN | apply Kd.R_drew)); exact (Kd.R_mono (Kd.R_far (p := ⟨gb131, 2, none⟩) (Kd.R_far (p := ⟨gb131, 1, none⟩) (Kd.R_far (p := ⟨gb131, 0, none⟩) (Kd.R_types HO108.out BK131.out (by decide)) (fun _ hk => hk.2) (.slice Ao36 t122.length co36)) (fun _ hk => hk.2) (.slice Ao40 t125.length co40)) (fun _ hk => hk.2) (.slice Ao41 t128.length co41)) (fun _ h_ => h_.1))))) (Kd.R_lt (by (with_reducible repeat (first | apply Kd.R_alloc | apply Kd.R_drewN | apply Kd.R_drew)); exact (Kd.R_mono (Kd.R_far (p := ⟨gb131, 2, none⟩) (Kd.R_far (p := ⟨gb131, 1, none⟩) (Kd.R_far (p := ⟨gb131, 0, none⟩) (Kd.R_types HO114.out BK131.out (by decide)) (fun _ hk => hk.2) (.slice Ao36 t122.length co36)) (fun _ hk => hk.2) (.slice Ao40 t125.length co40)) (fun _ hk => hk.2) (.slice Ao41 t128.length co41)) (fun _ h_ => h_.1))))) (Kd.R_lt (by (with_reducible repeat (first | apply Kd.R_alloc | apply Kd.R_drewN | apply Kd.R_drew)); exact (Kd.R_mono (Kd.R_far (p := ⟨gb131, 2, none⟩) (Kd.R_far (p := ⟨gb131, 1, none⟩) (Kd.R_far (p := ⟨gb131, 0, none⟩) (Kd.R_types HO117.out BK131.out (by decide)) (fun _ hk => hk.2) (.slice Ao36 t122.length co36)) (fun _ hk => hk.2) (.slice Ao40 t125.length co40)) (fun _ hk => hk.2) (.slice Ao41 t128.length co41)) (fun _ h_ => h_.1))))) (Kd.R_lt (by (with_reducible repeat (first | apply Kd.R_alloc | apply Kd.R_drewN | apply Kd.R_drew)); exact (Kd.R_mono (Kd.R_far (p := ⟨gb131, 2, none⟩) (Kd.R_far (p := ⟨gb131, 1, none⟩) (Kd.R_far (p := ⟨gb131, 0, none⟩) (Kd.R_types HO124.out BK131.out (by decide)) (fun _ hk => hk.2) (.slice Ao36 t122.length co36)) (fun _ hk => hk.2) (.slice Ao40 t125.length co40)) (fun _ hk => hk.2) (.slice Ao41 t128.length co41)) (fun _ h_ => h_.1))))) (Kd.R_lt (by (with_reducible repeat (first | apply Kd.R_alloc | apply Kd.R_drewN | apply Kd.R_drew)); exact (Kd.R_mono (Kd.R_far (p := ⟨gb131, 2, none⟩) (Kd.R_far (p := ⟨gb131, 1, none⟩) (Kd.R_far (p := ⟨gb131, 0, none⟩) (Kd.R_types HO127.out BK131.out (by decide)) (fun _ hk => hk.2) (.slice Ao36 t122.length co36)) (fun _ hk => hk.2) (.slice Ao40 t125.length co40)) (fun _ hk => hk.2) (.slice Ao41 t128.length co41)) (fun _ h_ => h_.1))))) (qaj (by repeat (first | (with_reducible first | exact HB.out | apply qab | apply qaa | apply qac | refine qae ?_ GE101.out | refine qae ?_ GE121.out | refine qae ?_ GE131.out) | exact HB.out)))); have n10_ := Aside0.mk (Kd.R_lower (Kd.R_new' (Kd.R_new' (Kd.R_new' (Kd.R_new' (Kd.R_new' (Kd.R_new' ho1 (Kd.R_lt (by (with_reducible repeat (first | apply Kd.R_alloc | apply Kd.R_drewN | apply Kd.R_drew)); exact (Kd.R_mono (Kd.R_far (p := ⟨gb131, 2, none⟩) (Kd.R_far (p := ⟨gb131, 1, none⟩) (Kd.R_far (p := ⟨gb131, 0, none⟩) (Kd.R_types HO105.out BK131.out (by decide)) (fun _ hk => hk.2) (.slice Ao36 t122.length co36)) (fun _ hk => hk.2) (.slice Ao40 t125.length co40)) (fun _ hk => hk.2) (.slice Ao41 t128.length co41)) (fun _ h_ => h_.1))))) (Kd.R_lt (by (with_reducible repeat (first | apply Kd.R_alloc | apply Kd.R_drewN | apply Kd.R_drew)); exact (Kd.R_mono (Kd.R_far (p := ⟨gb131, 2, none⟩) (Kd.R_far (p := ⟨gb131, 1, none⟩) (Kd.R_far (p := ⟨gb131, 0, none⟩) (Kd.R_types HO108.out BK131.out (by decide)) (fun _ hk => hk.2) (.slice Ao36 t122.length co36)) (fun _ hk => hk.2) (.slice Ao40 t125.length co40)) (fun _ hk => hk.2) (.slice Ao41 t128.length co41)) (fun _ h_ => h_.1))))) (Kd.R_lt (by (with_reducible repeat (first | apply Kd.R_alloc | apply Kd.R_drewN | apply Kd.R_drew)); exact (Kd.R_mono (Kd.R_far (p := ⟨gb131, 2, none⟩) (Kd.R_far (p := ⟨gb131, 1, none⟩) (Kd.R_far (p := ⟨gb131, 0, none⟩) (Kd.R_types HO114.out BK131.out (by decide)) (fun _ hk => hk.2) (.slice Ao36 t122.length co36)) (fun _ hk => hk.2) (.slice Ao40 t125.length co40)) (fun _ hk => hk.2) (.slice Ao41 t128.length co41)) (fun _ h_ => h_.1))))) (Kd.R_lt (by (with_reducible repeat (first | apply Kd.R_alloc | apply Kd.R_drewN | apply Kd.R_drew)); exact (Kd.R_mono (Kd.R_far (p := ⟨gb131, 2, none⟩) (Kd.R_far (p := ⟨gb131, 1, none⟩) (Kd.R_far (p := ⟨gb131, 0, none⟩) (Kd.R_types HO117.out BK131.out (by decide)) (fun _ hk => hk.2) (.slice Ao36 t122.length co36)) (fun _ hk => hk.2) (.slice Ao40 t125.length co40)) (fun _ hk => hk.2) (.slice Ao41 t128.length co41)) (fun _ h_ => h_.1))))) (Kd.R_lt (by (with_reducible repeat (first | apply Kd.R_alloc | apply Kd.R_drewN | apply Kd.R_drew)); exact (Kd.R_mono (Kd.R_far (p := ⟨gb131, 2, none⟩) (Kd.R_far (p := ⟨gb131, 1, none⟩) (Kd.R_far (p := ⟨gb131, 0, none⟩) (Kd.R_types HO124.out BK131.out (by decide)) (fun _ hk => hk.2) (.slice Ao36 t122.length co36)) (fun _ hk => hk.2) (.slice Ao40 t125.length co40)) (fun _ hk => hk.2) (.slice Ao41 t128.length co41)) (fun _ h_ => h_.1))))) (Kd.R_lt (by (with_reducible repeat (first | apply Kd.R_alloc | apply Kd.R_drewN | apply Kd.R_drew)); exact (Kd.R_mono (Kd.R_far (p := ⟨gb131, 2, none⟩) (Kd.R_far (p := ⟨gb131, 1, none⟩) (Kd.R_far (p := ⟨gb131, 0, none⟩) (Kd.R_types HO127.out BK131.out (by decide)) (fun _ hk => hk.2) (.slice Ao36 t122.length co36)) (fun _ hk => hk.2) (.slice Ao40 t125.length co40)) (fun _ hk => hk.2) (.slice Ao41 t128.length co41)) (fun _ h_ => h_.1))))) (qaj (by repeat (first | (with_reducible first | exact HB.out | apply qab | apply qaa | apply qac | refine qae ?_ GE101.out | refine qae ?_ GE121.out | refine qae ?_ GE131.out) | exact HB.out)))); have n11_ := Aside0.mk (Kd.R_lower (Kd.R_new' (Kd.R_new' (Kd.R_new' ho2 (Kd.R_lt (by (with_reducible repeat (first | apply Kd.R_alloc | apply Kd.R_drewN | apply Kd.R_drew)); exact (Kd.R_mono (Kd.R_far (p := ⟨gb131, 2, none⟩) (Kd.R_far (p := ⟨gb131, 1, none⟩) (Kd.R_far (p := ⟨gb131, 0, none⟩) (Kd.R_types HO111.out BK131.out (by decide)) (fun _ hk => hk.2) (.slice Ao36 t122.length co36)) (fun _ hk => hk.2) (.slice Ao40 t125.length co40)) (fun _ hk => hk.2) (.slice Ao41 t128.length co41)) (fun _ h_ => h_.1))))) (Kd.R_lt (by (with_reducible repeat (first | apply Kd.R_alloc | apply Kd.R_drewN | apply Kd.R_drew)); exact (Kd.R_mono (Kd.R_far (p := ⟨gb131, 2, none⟩) (Kd.R_far (p := ⟨gb131, 1, none⟩) (Kd.R_far (p := ⟨gb131, 0, none⟩) (Kd.R_types HO120.out BK131.out (by decide)) (fun _ hk => hk.2) (.slice Ao36 t122.length co36)) (fun _ hk => hk.2) (.slice Ao40 t125.length co40)) (fun _ hk => hk.2) (.slice Ao41 t128.length co41)) (fun _ h_ => h_.1))))) (Kd.R_lt (by (with_reducible repeat (first | apply Kd.R_alloc | apply Kd.R_drewN | apply Kd.R_drew)); exact (Kd.R_mono (Kd.R_far (p := ⟨gb131, 2, none⟩) (Kd.R_far (p := ⟨gb131, 1, none⟩) (Kd.R_far (p := ⟨gb131, 0, none⟩) (Kd.R_types HO130.out BK131.out (by decide)) (fun _ hk => hk.2) (.slice Ao36 t122.length co36)) (fun _ hk => hk.2) (.slice Ao40 t125.length co40)) (fun _ hk => hk.2) (.slice Ao41 t128.length co41)) (fun _ h_ => h_.1))))) (qaj (by repeat (first | (with_reducible first | exact HB.out | apply qab | apply qaa | apply qac | refine qae ?_ GE101.out | refine qae ?_ GE121.out | refine qae ?_ GE131.out) | exact HB.out)))); have n12_ := Aside0.mk (qao (g := gb101) (o := .cells #[.slice A0_0 l0_0.length c0_0, .slice A0_1 l0_1.length c0_1, .slice A0_2 l0_2.length c0_2] 25 (0, 0)) (by (with_reducible repeat (first | refine qah ?_ _ | refine qai ?_ | refine qag ?_ _)); refine qbd ?_ NB101_131.out _; (with_reducible repeat (first | refine qah ?_ _ | refine qai ?_ | refine qag ?_ _)); refine qbd ?_ NB101_131.out _; (with_reducible repeat (first | refine qah ?_ _ | refine qai ?_ | refine qag ?_ _)); refine qbd ?_ NB101_131.out _; (with_reducible repeat (first | refine qah ?_ _ | refine qai ?_ | refine qag ?_ _)); exact BK101.out) hb); have n13_ := Aside0.mk (qao (g := gb121) (o := .cells #[.slice Ao28 t112.length co28, .slice Ao31 t115.length co31, .slice Ao32 t118.length co32] 31 (0, 0)) (by (with_reducible repeat (first | refine qah ?_ _ | refine qai ?_ | refine qag ?_ _)); refine qbd ?_ NB121_131.out _; (with_reducible repeat (first | refine qah ?_ _ | refine qai ?_ | refine qag ?_ _)); refine qbd ?_ NB121_131.out _; (with_reducible repeat (first | refine qah ?_ _ | refine qai ?_ | refine qag ?_ _)); refine qbd ?_ NB121_131.out _; (with_reducible repeat (first | refine qah ?_ _ | refine qai ?_ | refine qag ?_ _)); exact BK121.out) hb); have n14_ := Aside0.mk (qao (g := gb131) (o := .cells #[.slice Ao36 t122.length co36, .slice Ao40 t125.length co40, .slice Ao41 t128.length co41] 31 (0, 0)) (by (with_reducible repeat (first | refine qah ?_ _ | refine qai ?_ | refine qag ?_ _)); refine qbg (cs := #[.slice Ao36 t122.length co36, .slice Ao40 t125.length co40, .slice none 0 0]) ?_ 2 _ rfl; (with_reducible repeat (first | refine qah ?_ _ | refine qai ?_ | refine qag ?_ _)); refine qbg (cs := #[.slice Ao36 t122.length co36, .slice none 0 0, .slice none 0 0]) ?_ 1 _ rfl; (with_reducible repeat (first | refine qah ?_ _ | refine qai ?_ | refine qag ?_ _)); refine qbg (cs := #[.slice none 0 0, .slice none 0 0, .slice none 0 0]) ?_ 0 _ rfl; (with_reducible repeat (first | refine qah ?_ _ | refine qai ?_ | refine qag ?_ _)); exact BK131.out) hb); have n15_ := Aside0.mk (qak (by repeat (first | (with_reducible first | exact HB.out | apply qab | apply qaa | apply qac | refine qae ?_ GE101.out | refine qae ?_ GE121.out | refine qae ?_ GE131.out) | exact HB.out)) hb); clear HO105; clear HO108; clear HO111; clear HO114; clear HO117; clear HO120; clear HO124; clear HO127; clear HO130; clear BK101; clear BK121; clear BK131; clear HB; have HO105 := n0_; have HO108 := n1_; have HO111 := n2_; have HO114 := n3_; have HO117 := n4_; have HO120 := n5_; have HO124 := n6_; have HO127 := n7_; have HO130 := n8_; have HO134 := n9_; have HO137 := n10_; have HO140 := n11_; have BK101 := n12_; have BK121 := n13_; have BK131 := n14_; have HB := n15_; clear n0_ n1_ n2_ n3_ n4_ n5_ n6_ n7_ n8_ n9_ n10_ n11_ n12_ n13_ n14_ n15_; (try clear hb); (try clear hb2); (try clear hk); (try clear hi); (try clear ho0); (try clear ho1); (try clear ho2)) | ((with_reducible refine qas (N := 6) rfl ?_); refine qar ?hg (N := 6) ?hd (cs := #[.slice none 0 0, .slice none 0 0, .slice none 0 0]) (t := 31) ?hr ?_; (case hd => rfl); (case hg => rfl); (case hr => first | (go_simp; done) | (go_simp; rfl)); intro gb141 hg w43 hbox hb; have n0_ := Aside0.mk (Kd.R_below (by (with_reducible repeat (first | apply Kd.R_alloc | apply Kd.R_drewN | apply Kd.R_drew)); exact HO105.out) hb); have n1_ := Aside0.mk (Kd.R_below (by (with_reducible repeat (first | apply Kd.R_alloc | apply Kd.R_drewN | apply Kd.R_drew)); exact HO108.out) hb); have n2_ := Aside0.mk (Kd.R_below (by (with_reducible repeat (first | apply Kd.R_alloc | apply Kd.R_drewN | apply Kd.R_drew)); exact HO111.out) hb); have n3_ := Aside0.mk (Kd.R_below (by (with_reducible repeat (first | apply Kd.R_alloc | apply Kd.R_drewN | apply Kd.R_drew)); exact HO114.out) hb); have n4_ := Aside0.mk (Kd.R_below (by (with_reducible repeat (first | apply Kd.R_alloc | apply Kd.R_drewN | apply Kd.R_drew)); exact HO117.out) hb); have n5_ := Aside0.mk (Kd.R_below (by (with_reducible repeat (first | apply Kd.R_alloc | apply Kd.R_drewN | apply Kd.R_drew)); exact HO120.out) hb); have n6_ := Aside0.mk (Kd.R_below (by (with_reducible repeat (first | apply Kd.R_alloc | apply Kd.R_drewN | apply Kd.R_drew)); exact HO124.out) hb); have n7_ := Aside0.mk (Kd.R_below (by (with_reducible repeat (first | apply Kd.R_alloc | apply Kd.R_drewN | apply Kd.R_drew)); exact HO127.out) hb); have n8_ := Aside0.mk (Kd.R_below (by (with_reducible repeat (first | apply Kd.R_alloc | apply Kd.R_drewN | apply Kd.R_drew)); exact HO130.out) hb); have n9_ := Aside0.mk (Kd.R_below (by (with_reducible repeat (first | apply Kd.R_alloc | apply Kd.R_drewN | apply Kd.R_drew)); exact HO134.out) hb); have n10_ := Aside0.mk (Kd.R_below (by (with_reducible repeat (first | apply Kd.R_alloc | apply Kd.R_drewN | apply Kd.R_drew)); exact HO137.out) hb); have n11_ := Aside0.mk (Kd.R_below (by (with_reducible repeat (first | apply Kd.R_alloc | apply Kd.R_drewN | apply Kd.R_drew)); exact HO140.out) hb); have n12_ := Aside0.mk (qao (g := gb101) (o := .cells #[.slice A0_0 l0_0.length c0_0, .slice A0_1 l0_1.length c0_1, .slice A0_2 l0_2.length c0_2] 25 (0, 0)) (by (with_reducible repeat (first | refine qah ?_ _ | refine qai ?_ | refine qag ?_ _)); exact BK101.out) hb); have n13_ := Aside0.mk (qao (g := gb121) (o := .cells #[.slice Ao28 t112.length co28, .slice Ao31 t115.length co31, .slice Ao32 t118.length co32] 31 (0, 0)) (by (with_reducible repeat (first | refine qah ?_ _ | refine qai ?_ | refine qag ?_ _)); exact BK121.out) hb); have n14_ := Aside0.mk (qao (g := gb131) (o := .cells #[.slice Ao36 t122.length co36, .slice Ao40 t125.length co40, .slice Ao41 t128.length co41] 31 (0, 0)) (by (with_reducible repeat (first | refine qah ?_ _ | refine qai ?_ | refine qag ?_ _)); exact BK131.out) hb); have n15_ := Aside0.mk (qak (by repeat (first | (with_reducible first | exact HB.out | apply qab | apply qaa | apply qac | refine qae ?_ GE101.out | refine qae ?_ GE121.out | refine qae ?_ GE131.out) | exact HB.out)) hb); have n16_ := Aside0.mk (hbox); have n17_ := Aside0.mk ((by rw [hg]; exact (qaj (by repeat (first | (with_reducible first | exact HB.out | apply qab | apply qaa | apply qac | refine qae ?_ GE101.out | refine qae ?_ GE121.out | refine qae ?_ GE131.out) | exact HB.out))) : w.heap.size ≤ gb141)); have n18_ := Aside0.mk ((by rw [hg]; exact (qaj (by repeat (first | (with_reducible first | exact HB.out | apply qab | apply qaa | apply qac | refine qae ?_ GE101.out | refine qae ?_ GE121.out | refine qae ?_ GE131.out) | exact HB.out))) : w.heap.size ≤ gb141)); have n19_ := Aside0.mk ((by rw [hg]; exact Nat.ne_of_lt (qaw (g := gb101) (o := .cells #[.slice A0_0 l0_0.length c0_0, .slice A0_1 l0_1.length c0_1, .slice A0_2 l0_2.length c0_2] 25 (0, 0)) (by (with_reducible repeat (first | refine qah ?_ _ | refine qai ?_ | refine qag ?_ _)); exact BK101.out)) : gb101 ≠ gb141)); have n20_ := Aside0.mk ((by rw [hg]; exact Nat.ne_of_gt (qaw (g := gb101) (o := .cells #[.slice A0_0 l0_0.length c0_0, .slice A0_1 l0_1.length c0_1, .slice A0_2 l0_2.length c0_2] 25 (0, 0)) (by (with_reducible repeat (first | refine qah ?_ _ | refine qai ?_ | refine qag ?_ _)); exact BK101.out)) : gb141 ≠ gb101)); have n21_ := Aside0.mk ((by rw [hg]; exact Nat.ne_of_lt (qaw (g := gb121) (o := .cells #[.slice Ao28 t112.length co28, .slice Ao31 t115.length co31, .slice Ao32 t118.length co32] 31 (0, 0)) (by (with_reducible repeat (first | refine qah ?_ _ | refine qai ?_ | refine qag ?_ _)); exact BK121.out)) : gb121 ≠ gb141)); have n22_ := Aside0.mk ((by rw [hg]; exact Nat.ne_of_gt (qaw (g := gb121) (o := .cells #[.slice Ao28 t112.length co28, .slice Ao31 t115.length co31, .slice Ao32 t118.length co32] 31 (0, 0)) (by (with_reducible repeat (first | refine qah ?_ _ | refine qai ?_ | refine qag ?_ _)); exact BK121.out)) : gb141 ≠ gb121)); have n23_ := Aside0.mk ((by rw [hg]; exact Nat.ne_of_lt (qaw (g := gb131) (o := .cells #[.slice Ao36 t122.length co36, .slice Ao40 t125.length co40, .slice Ao41 t128.length co41] 31 (0, 0)) (by (with_reducible repeat (first | refine qah ?_ _ | refine qai ?_ | refine qag ?_ _)); exact BK131.out)) : gb131 ≠ gb141)); have n24_ := Aside0.mk ((by rw [hg]; exact Nat.ne_of_gt (qaw (g := gb131) (o := .cells #[.slice Ao36 t122.length co36, .slice Ao40 t125.length co40, .slice Ao41 t128.length co41] 31 (0, 0)) (by (with_reducible repeat (first | refine qah ?_ _ | refine qai ?_ | refine qag ?_ _)); exact BK131.out)) : gb141 ≠ gb131)); clear HO105; clear HO108; clear HO111; clear HO114; clear HO117; clear HO120; clear HO124; clear HO127; clear HO130; clear HO134; clear HO137; clear HO140; clear BK101; clear BK121; clear BK131; clear HB; have HO105 := n0_; have HO108 := n1_; have HO111 := n2_; have HO114 := n3_; have HO117 := n4_; have HO120 := n5_; have HO124 := n6_; have HO127 := n7_; have HO130 := n8_; have HO134 := n9_; have HO137 := n10_; have HO140 := n11_; have BK101 := n12_; have BK121 := n13_; have BK131 := n14_; have HB := n15_; have BK141 := n16_; have GW141 := n17_; have GE141 := n18_; have NB101_141 := n19_; have NB141_101 := n20_; have NB121_141 := n21_; have NB141_121 := n22_; have NB131_141 := n23_; have NB141_131 := n24_; clear n0_ n1_ n2_ n3_ n4_ n5_ n6_ n7_ n8_ n9_ n10_ n11_ n12_ n13_ n14_ n15_ n16_ n17_ n18_ n19_ n20_ n21_ n22_ n23_ n24_; clear hb hbox hg; obtain ⟨Ao44, co44, eo44⟩ := Kd.R_slice HO134.out; subst eo44; have hnb45 := NB141_101.out; have hnc45 := NB101_141.out; have hnb46 := NB141_121.out; have hnc46 := NB121_141.out; have hnb47 := NB141_131.out; have hnc47 := NB131_141.out; have hcz48_0 : w43.cell? ⟨gb141, 0, none⟩ = some (.slice none 0 0) := (qaf BK141.out 0).trans rfl; have hcz48_1 : w43.cell? ⟨gb141, 1, none⟩ = some (.slice none 0 0) := (qaf BK141.out 1).trans rfl; have hcz48_2 : w43.cell? ⟨gb141, 2, none⟩ = some (.slice none 0 0) := (qaf BK141.out 2).trans rfl; have hfz48_0 := qad BK141.out 0; have hfz48_1 := qad BK141.out 1; have hfz48_2 := qad BK141.out 2; obtain ⟨Ao49, co49, eo49⟩ := Kd.R_slice HO137.out; subst eo49; obtain ⟨Ao50, co50, eo50⟩ := Kd.R_slice HO140.out; subst eo50; have hcz51_0 : w43.cell? ⟨gb121, 0, none⟩ = some (.slice Ao28 t112.length co28) := (qaf BK121.out 0).trans rfl; have hcz51_1 : w43.cell? ⟨gb121, 1, none⟩ = some (.slice Ao31 t115.length co31) := (qaf BK121.out 1).trans rfl; have hcz51_2 : w43.cell? ⟨gb121, 2, none⟩ = some (.slice Ao32 t118.length co32) := (qaf BK121.out 2).trans rfl; have hfz51_0 := qad BK121.out 0; have hfz51_1 := qad BK121.out 1; have hfz51_2 := qad BK121.out 2) | ((with_reducible refine qaq (f := 16) rfl ?_); refine qav (some 25) rfl rfl Try.func16 (by kernel_rfl) rfl #[.agg #[.slice Ao44 t132.length co44, .slice Ao49 t135.length co49, .slice Ao50 t138.length co50], .agg #[.slice Ao28 t112.length co28, .slice Ao31 t115.length co31, .slice Ao32 t118.length co32]] rfl (by (try simp only [List.map_toArray, List.map_cons, List.map_nil]); first | done | rfl | (simp only [List.length_drop, List.length_take]; rfl)) ?_; (with_reducible refine (laws_eqDisk.calls k _ _ t132 _ _ t135 _ _ t138 _ _ t112 _ _ t115 _ _ t118 true _ ?side1 ?side2 ?side3 ?side4 ?side5 ?side6 ?side7 ?side8 ?side9 ?side10 ?side11 ?side12 A11.out).mono ?_); (case side1 => refine (Kd.R_reads' (e := 80) (base := w.heap.size) (ok := fun k_ => ((((((some k_ ≠ (.slice Ao49 t135.length co49 : Value).ownBlock ∧ some k_ ≠ (.slice Ao23 t103.length co23 : Value).ownBlock) ∧ some k_ ≠ (.slice Ao24 t106.length co24 : Value).ownBlock) ∧ some k_ ≠ (.slice Ao28 t112.length co28 : Value).ownBlock) ∧ some k_ ≠ (.slice Ao31 t115.length co31 : Value).ownBlock) ∧ some k_ ≠ (.slice Ao36 t122.length co36 : Value).ownBlock) ∧ some k_ ≠ (.slice Ao40 t125.length co40 : Value).ownBlock)) (n := t132.length) (c := co44) ?_).2.2; exact (by (with_reducible repeat (first | apply Kd.R_alloc | apply Kd.R_drewN | apply Kd.R_drew)); exact (Kd.R_mono (Kd.R_far (p := ⟨gb141, 2, none⟩) (Kd.R_far (p := ⟨gb141, 1, none⟩) (Kd.R_far (p := ⟨gb141, 0, none⟩) (Kd.R_types HO134.out BK141.out (by decide)) (fun _ hk => hk.2) (.slice Ao44 t132.length co44)) (fun _ hk => hk.2) (.slice Ao49 t135.length co49)) (fun _ hk => hk.2) (.slice Ao50 t138.length co50)) (fun _ h_ => h_.1)))); (case side2 => exact (Kd.R_reads' HO134.out).2.1); (case side3 => refine (Kd.R_reads' (e := 80) (base := w.heap.size) (ok := fun k_ => ((((((some k_ ≠ (.slice Ao44 t132.length co44 : Value).ownBlock ∧ some k_ ≠ (.slice Ao23 t103.length co23 : Value).ownBlock) ∧ some k_ ≠ (.slice Ao24 t106.length co24 : Value).ownBlock) ∧ some k_ ≠ (.slice Ao28 t112.length co28 : Value).ownBlock) ∧ some k_ ≠ (.slice Ao31 t115.length co31 : Value).ownBlock) ∧ some k_ ≠ (.slice Ao36 t122.length co36 : Value).ownBlock) ∧ some k_ ≠ (.slice Ao40 t125.length co40 : Value).ownBlock)) (n := t135.length) (c := co49) ?_).2.2; exact (by (with_reducible repeat (first | apply Kd.R_alloc | apply Kd.R_drewN | apply Kd.R_drew)); exact (Kd.R_mono (Kd.R_far (p := ⟨gb141, 2, none⟩) (Kd.R_far (p := ⟨gb141, 1, none⟩) (Kd.R_far (p := ⟨gb141, 0, none⟩) (Kd.R_types HO137.out BK141.out (by decide)) (fun _ hk => hk.2) (.slice Ao44 t132.length co44)) (fun _ hk => hk.2) (.slice Ao49 t135.length co49)) (fun _ hk => hk.2) (.slice Ao50 t138.length co50)) (fun _ h_ => h_.1)))); (case side4 => exact (Kd.R_reads' HO137.out).2.1); (case side5 => refine (Kd.R_reads' (e := 73) (base := w.heap.size) (ok := fun k_ => (((True ∧ some k_ ≠ (.slice Ao25 t109.length co25 : Value).ownBlock) ∧ some k_ ≠ (.slice Ao32 t118.length co32 : Value).ownBlock) ∧ some k_ ≠ (.slice Ao41 t128.length co41 : Value).ownBlock)) (n := t138.length) (c := co50) ?_).2.2; exact (by (with_reducible repeat (first | apply Kd.R_alloc | apply Kd.R_drewN | apply Kd.R_drew)); exact (Kd.R_mono (Kd.R_far (p := ⟨gb141, 2, none⟩) (Kd.R_far (p := ⟨gb141, 1, none⟩) (Kd.R_far (p := ⟨gb141, 0, none⟩) (Kd.R_types HO140.out BK141.out (by decide)) (fun _ hk => hk.2) (.slice Ao44 t132.length co44)) (fun _ hk => hk.2) (.slice Ao49 t135.length co49)) (fun _ hk => hk.2) (.slice Ao50 t138.length co50)) (fun _ h_ => h_.1)))); (case side6 => exact (Kd.R_reads' HO140.out).2.1); (case side7 => refine (Kd.R_reads' (e := 80) (base := w.heap.size) (ok := fun k_ => ((((((some k_ ≠ (.slice Ao31 t115.length co31 : Value).ownBlock ∧ some k_ ≠ (.slice Ao23 t103.length co23 : Value).ownBlock) ∧ some k_ ≠ (.slice Ao24 t106.length co24 : Value).ownBlock) ∧ some k_ ≠ (.slice Ao36 t122.length co36 : Value).ownBlock) ∧ some k_ ≠ (.slice Ao40 t125.length co40 : Value).ownBlock) ∧ some k_ ≠ (.slice Ao44 t132.length co44 : Value).ownBlock) ∧ some k_ ≠ (.slice Ao49 t135.length co49 : Value).ownBlock)) (n := t112.length) (c := co28) ?_).2.2; exact (by (with_reducible repeat (first | apply Kd.R_alloc | apply Kd.R_drewN | apply Kd.R_drew)); exact (Kd.R_mono (Kd.R_far (p := ⟨gb141, 2, none⟩) (Kd.R_far (p := ⟨gb141, 1, none⟩) (Kd.R_far (p := ⟨gb141, 0, none⟩) (Kd.R_types HO114.out BK141.out (by decide)) (fun _ hk => hk.2) (.slice Ao44 t132.length co44)) (fun _ hk => hk.2) (.slice Ao49 t135.length co49)) (fun _ hk => hk.2) (.slice Ao50 t138.length co50)) (fun _ h_ => h_.1)))); (case side8 => exact (Kd.R_reads' HO114.out).2.1); (case side9 => refine (Kd.R_reads' (e := 80) (base := w.heap.size) (ok := fun k_ => ((((((some k_ ≠ (.slice Ao28 t112.length co28 : Value).ownBlock ∧ some k_ ≠ (.slice Ao23 t103.length co23 : Value).ownBlock) ∧ some k_ ≠ (.slice Ao24 t106.length co24 : Value).ownBlock) ∧ some k_ ≠ (.slice Ao36 t122.length co36 : Value).ownBlock) ∧ some k_ ≠ (.slice Ao40 t125.length co40 : Value).ownBlock) ∧ some k_ ≠ (.slice Ao44 t132.length co44 : Value).ownBlock) ∧ some k_ ≠ (.slice Ao49 t135.length co49 : Value).ownBlock)) (n := t115.length) (c := co31) ?_).2.2; exact (by (with_reducible repeat (first | apply Kd.R_alloc | apply Kd.R_drewN | apply Kd.R_drew)); exact (Kd.R_mono (Kd.R_far (p := ⟨gb141, 2, none⟩) (Kd.R_far (p := ⟨gb141, 1, none⟩) (Kd.R_far (p := ⟨gb141, 0, none⟩) (Kd.R_types HO117.out BK141.out (by decide)) (fun _ hk => hk.2) (.slice Ao44 t132.length co44)) (fun _ hk => hk.2) (.slice Ao49 t135.length co49)) (fun _ hk => hk.2) (.slice Ao50 t138.length co50)) (fun _ h_ => h_.1)))); (case side10 => exact (Kd.R_reads' HO117.out).2.1); (case side11 => refine (Kd.R_reads' (e := 73) (base := w.heap.size) (ok := fun k_ => (((True ∧ some k_ ≠ (.slice Ao25 t109.length co25 : Value).ownBlock) ∧ some k_ ≠ (.slice Ao41 t128.length co41 : Value).ownBlock) ∧ some k_ ≠ (.slice Ao50 t138.length co50 : Value).ownBlock)) (n := t118.length) (c := co32) ?_).2.2; exact (by (with_reducible repeat (first | apply Kd.R_alloc | apply Kd.R_drewN | apply Kd.R_drew)); exact (Kd.R_mono (Kd.R_far (p := ⟨gb141, 2, none⟩) (Kd.R_far (p := ⟨gb141, 1, none⟩) (Kd.R_far (p := ⟨gb141, 0, none⟩) (Kd.R_types HO120.out BK141.out (by decide)) (fun _ hk => hk.2) (.slice Ao44 t132.length co44)) (fun _ hk => hk.2) (.slice Ao49 t135.length co49)) (fun _ hk => hk.2) (.slice Ao50 t138.length co50)) (fun _ h_ => h_.1)))); (case side12 => exact (Kd.R_reads' HO120.out).2.1); rintro e w52 ⟨rfl, hb⟩; refine ⟨_, rfl, ?_⟩; have n0_ := Aside0.mk (Kd.R_below (by (with_reducible repeat (first | apply Kd.R_alloc | apply Kd.R_drewN | apply Kd.R_drew)); exact (Kd.R_mono (Kd.R_far (p := ⟨gb141, 2, none⟩) (Kd.R_far (p := ⟨gb141, 1, none⟩) (Kd.R_far (p := ⟨gb141, 0, none⟩) (Kd.R_types HO105.out BK141.out (by decide)) (fun _ hk => hk.2) (.slice Ao44 t132.length co44)) (fun _ hk => hk.2) (.slice Ao49 t135.length co49)) (fun _ hk => hk.2) (.slice Ao50 t138.length co50)) (fun _ h_ => h_.1))) hb); have n1_ := Aside0.mk (Kd.R_below (by (with_reducible repeat (first | apply Kd.R_alloc | apply Kd.R_drewN | apply Kd.R_drew)); exact (Kd.R_mono (Kd.R_far (p := ⟨gb141, 2, none⟩) (Kd.R_far (p := ⟨gb141, 1, none⟩) (Kd.R_far (p := ⟨gb141, 0, none⟩) (Kd.R_types HO108.out BK141.out (by decide)) (fun _ hk => hk.2) (.slice Ao44 t132.length co44)) (fun _ hk => hk.2) (.slice Ao49 t135.length co49)) (fun _ hk => hk.2) (.slice Ao50 t138.length co50)) (fun _ h_ => h_.1))) hb); have n2_ := Aside0.mk (Kd.R_below (by (with_reducible repeat (first | apply Kd.R_alloc | apply Kd.R_drewN | apply Kd.R_drew)); exact (Kd.R_mono (Kd.R_far (p := ⟨gb141, 2, none⟩) (Kd.R_far (p := ⟨gb141, 1, none⟩) (Kd.R_far (p := ⟨gb141, 0, none⟩) (Kd.R_types HO111.out BK141.out (by decide)) (fun _ hk => hk.2) (.slice Ao44 t132.length co44)) (fun _ hk => hk.2) (.slice Ao49 t135.length co49)) (fun _ hk => hk.2) (.slice Ao50 t138.length co50)) (fun _ h_ => h_.1))) hb); have n3_ := Aside0.mk (Kd.R_below (by (with_reducible repeat (first | apply Kd.R_alloc | apply Kd.R_drewN | apply Kd.R_drew)); exact (Kd.R_mono (Kd.R_far (p := ⟨gb141, 2, none⟩) (Kd.R_far (p := ⟨gb141, 1, none⟩) (Kd.R_far (p := ⟨gb141, 0, none⟩) (Kd.R_types HO114.out BK141.out (by decide)) (fun _ hk => hk.2) (.slice Ao44 t132.length co44)) (fun _ hk => hk.2) (.slice Ao49 t135.length co49)) (fun _ hk => hk.2) (.slice Ao50 t138.length co50)) (fun _ h_ => h_.1))) hb); have n4_ := Aside0.mk (Kd.R_below (by (with_reducible repeat (first | apply Kd.R_alloc | apply Kd.R_drewN | apply Kd.R_drew)); exact (Kd.R_mono (Kd.R_far (p := ⟨gb141, 2, none⟩) (Kd.R_far (p := ⟨gb141, 1, none⟩) (Kd.R_far (p := ⟨gb141, 0, none⟩) (Kd.R_types HO117.out BK141.out (by decide)) (fun _ hk => hk.2) (.slice Ao44 t132.length co44)) (fun _ hk => hk.2) (.slice Ao49 t135.length co49)) (fun _ hk => hk.2) (.slice Ao50 t138.length co50)) (fun _ h_ => h_.1))) hb); have n5_ := Aside0.mk (Kd.R_below (by (with_reducible repeat (first | apply Kd.R_alloc | apply Kd.R_drewN | apply Kd.R_drew)); exact (Kd.R_mono (Kd.R_far (p := ⟨gb141, 2, none⟩) (Kd.R_far (p := ⟨gb141, 1, none⟩) (Kd.R_far (p := ⟨gb141, 0, none⟩) (Kd.R_types HO120.out BK141.out (by decide)) (fun _ hk => hk.2) (.slice Ao44 t132.length co44)) (fun _ hk => hk.2) (.slice Ao49 t135.length co49)) (fun _ hk => hk.2) (.slice Ao50 t138.length co50)) (fun _ h_ => h_.1))) hb); have n6_ := Aside0.mk (Kd.R_below (by (with_reducible repeat (first | apply Kd.R_alloc | apply Kd.R_drewN | apply Kd.R_drew)); exact (Kd.R_mono (Kd.R_far (p := ⟨gb141, 2, none⟩) (Kd.R_far (p := ⟨gb141, 1, none⟩) (Kd.R_far (p := ⟨gb141, 0, none⟩) (Kd.R_types HO124.out BK141.out (by decide)) (fun _ hk => hk.2) (.slice Ao44 t132.length co44)) (fun _ hk => hk.2) (.slice Ao49 t135.length co49)) (fun _ hk => hk.2) (.slice Ao50 t138.length co50)) (fun _ h_ => h_.1))) hb); have n7_ := Aside0.mk (Kd.R_below (by (with_reducible repeat (first | apply Kd.R_alloc | apply Kd.R_drewN | apply Kd.R_drew)); exact (Kd.R_mono (Kd.R_far (p := ⟨gb141, 2, none⟩) (Kd.R_far (p := ⟨gb141, 1, none⟩) (Kd.R_far (p := ⟨gb141, 0, none⟩) (Kd.R_types HO127.out BK141.out (by decide)) (fun _ hk => hk.2) (.slice Ao44 t132.length co44)) (fun _ hk => hk.2) (.slice Ao49 t135.length co49)) (fun _ hk => hk.2) (.slice Ao50 t138.length co50)) (fun _ h_ => h_.1))) hb); have n8_ := Aside0.mk (Kd.R_below (by (with_reducible repeat (first | apply Kd.R_alloc | apply Kd.R_drewN | apply Kd.R_drew)); exact (Kd.R_mono (Kd.R_far (p := ⟨gb141, 2, none⟩) (Kd.R_far (p := ⟨gb141, 1, none⟩) (Kd.R_far (p := ⟨gb141, 0, none⟩) (Kd.R_types HO130.out BK141.out (by decide)) (fun _ hk => hk.2) (.slice Ao44 t132.length co44)) (fun _ hk => hk.2) (.slice Ao49 t135.length co49)) (fun _ hk => hk.2) (.slice Ao50 t138.length co50)) (fun _ h_ => h_.1))) hb); have n9_ := Aside0.mk (Kd.R_below (by (with_reducible repeat (first | apply Kd.R_alloc | apply Kd.R_drewN | apply Kd.R_drew)); exact (Kd.R_mono (Kd.R_far (p := ⟨gb141, 2, none⟩) (Kd.R_far (p := ⟨gb141, 1, none⟩) (Kd.R_far (p := ⟨gb141, 0, none⟩) (Kd.R_types HO134.out BK141.out (by decide)) (fun _ hk => hk.2) (.slice Ao44 t132.length co44)) (fun _ hk => hk.2) (.slice Ao49 t135.length co49)) (fun _ hk => hk.2) (.slice Ao50 t138.length co50)) (fun _ h_ => h_.1))) hb); have n10_ := Aside0.mk (Kd.R_below (by (with_reducible repeat (first | apply Kd.R_alloc | apply Kd.R_drewN | apply Kd.R_drew)); exact (Kd.R_mono (Kd.R_far (p := ⟨gb141, 2, none⟩) (Kd.R_far (p := ⟨gb141, 1, none⟩) (Kd.R_far (p := ⟨gb141, 0, none⟩) (Kd.R_types HO137.out BK141.out (by decide)) (fun _ hk => hk.2) (.slice Ao44 t132.length co44)) (fun _ hk => hk.2) (.slice Ao49 t135.length co49)) (fun _ hk => hk.2) (.slice Ao50 t138.length co50)) (fun _ h_ => h_.1))) hb); have n11_ := Aside0.mk (Kd.R_below (by (with_reducible repeat (first | apply Kd.R_alloc | apply Kd.R_drewN | apply Kd.R_drew)); exact (Kd.R_mono (Kd.R_far (p := ⟨gb141, 2, none⟩) (Kd.R_far (p := ⟨gb141, 1, none⟩) (Kd.R_far (p := ⟨gb141, 0, none⟩) (Kd.R_types HO140.out BK141.out (by decide)) (fun _ hk => hk.2) (.slice Ao44 t132.length co44)) (fun _ hk => hk.2) (.slice Ao49 t135.length co49)) (fun _ hk => hk.2) (.slice Ao50 t138.length co50)) (fun _ h_ => h_.1))) hb); have n12_ := Aside0.mk (qao (g := gb101) (o := .cells #[.slice A0_0 l0_0.length c0_0, .slice A0_1 l0_1.length c0_1, .slice A0_2 l0_2.length c0_2] 25 (0, 0)) (by (with_reducible repeat (first | refine qah ?_ _ | refine qai ?_ | refine qag ?_ _)); refine qbd ?_ NB101_141.out _; (with_reducible repeat (first | refine qah ?_ _ | refine qai ?_ | refine qag ?_ _)); refine qbd ?_ NB101_141.out _; (with_reducible repeat (first | refine qah ?_ _ | refine qai ?_ | refine qag ?_ _)); refine qbd ?_ NB101_141.out _; (with_reducible repeat (first | refine qah ?_ _ | refine qai ?_ | refine qag ?_ _)); exact BK101.out) hb); have n13_ := Aside0.mk (qao (g := gb121) (o := .cells #[.slice Ao28 t112.length co28, .slice Ao31 t115.length co31, .slice Ao32 t118.length co32] 31 (0, 0)) (by (with_reducible repeat (first | refine qah ?_ _ | refine qai ?_ | refine qag ?_ _)); refine qbd ?_ NB121_141.out _; (with_reducible repeat (first | refine qah ?_ _ | refine qai ?_ | refine qag ?_ _)); refine qbd ?_ NB121_141.out _; (with_reducible repeat (first | refine qah ?_ _ | refine qai ?_ | refine qag ?_ _)); refine qbd ?_ NB121_141.out _; (with_reducible repeat (first | refine qah ?_ _ | refine qai ?_ | refine qag ?_ _)); exact BK121.out) hb); have n14_ := Aside0.mk (qao (g := gb131) (o := .cells #[.slice Ao36 t122.length co36, .slice Ao40 t125.length co40, .slice Ao41 t128.length co41] 31 (0, 0)) (by (with_reducible repeat (first | refine qah ?_ _ | refine qai ?_ | refine qag ?_ _)); refine qbd ?_ NB131_141.out _; (with_reducible repeat (first | refine qah ?_ _ | refine qai ?_ | refine qag ?_ _)); refine qbd ?_ NB131_141.out _; (with_reducible repeat (first | refine qah ?_ _ | refine qai ?_ | refine qag ?_ _)); refine qbd ?_ NB131_141.out _; (with_reducible repeat (first | refine qah ?_ _ | refine qai ?_ | refine qag ?_ _)); exact BK131.out) hb); have n15_ := Aside0.mk (qao (g := gb141) (o := .cells #[.slice Ao44 t132.length co44, .slice Ao49 t135.length co49, .slice Ao50 t138.length co50] 31 (0, 0)) (by (with_reducible repeat (first | refine qah ?_ _ | refine qai ?_ | refine qag ?_ _)); refine qbg (cs := #[.slice Ao44 t132.length co44, .slice Ao49 t135.length co49, .slice none 0 0]) ?_ 2 _ rfl; (with_reducible repeat (first | refine qah ?_ _ | refine qai ?_ | refine qag ?_ _)); refine qbg (cs := #[.slice Ao44 t132.length co44, .slice none 0 0, .slice none 0 0]) ?_ 1 _ rfl; (with_reducible repeat (first | refine qah ?_ _ | refine qai ?_ | refine qag ?_ _)); refine qbg (cs := #[.slice none 0 0, .slice none 0 0, .slice none 0 0]) ?_ 0 _ rfl; (with_reducible repeat (first | refine qah ?_ _ | refine qai ?_ | refine qag ?_ _)); exact BK141.out) hb); have n16_ := Aside0.mk (qak (by repeat (first | (with_reducible first | exact HB.out | apply qab | apply qaa | apply qac | refine qae ?_ GE101.out | refine qae ?_ GE121.out | refine qae ?_ GE131.out | refine qae ?_ GE141.out) | exact HB.out)) hb); clear HO105; clear HO108; clear HO111; clear HO114; clear HO117; clear HO120; clear HO124; clear HO127; clear HO130; clear HO134; clear HO137; clear HO140; clear BK101; clear BK121; clear BK131; clear BK141; clear HB; have HO105 := n0_; have HO108 := n1_; have HO111 := n2_; have HO114 := n3_; have HO117 := n4_; have HO120 := n5_; have HO124 := n6_; have HO127 := n7_; have HO130 := n8_; have HO134 := n9_; have HO137 := n10_; have HO140 := n11_; have BK101 := n12_; have BK121 := n13_; have BK131 := n14_; have BK141 := n15_; have HB := n16_; clear n0_ n1_ n2_ n3_ n4_ n5_ n6_ n7_ n8_ n9_ n10_ n11_ n12_ n13_ n14_ n15_ n16_; (try clear hb); (try clear hb2); (try clear hk); (try clear hi)))
       have n0_ := Aside0.mk (Kd.R_drew HO105.out)
       have n1_ := Aside0.mk (Kd.R_drew HO108.out)
       have n2_ := Aside0.mk (Kd.R_drew HO111.out)
       have n3_ := Aside0.mk (Kd.R_drew HO114.out)
       have n4_ := Aside0.mk (Kd.R_drew HO117.out)
       have n5_ := Aside0.mk (Kd.R_drew HO120.out)
       have n6_ := Aside0.mk (Kd.R_drew HO124.out)
       have n7_ := Aside0.mk (Kd.R_drew HO127.out)
       have n8_ := Aside0.mk (Kd.R_drew HO130.out)
       have n9_ := Aside0.mk (Kd.R_drew HO134.out)
       have n10_ := Aside0.mk (Kd.R_drew HO137.out)
       have n11_ := Aside0.mk (Kd.R_drew HO140.out)
       have n12_ := Aside0.mk (qai BK101.out)
       have n13_ := Aside0.mk (qai BK121.out)
       have n14_ := Aside0.mk (qai BK131.out)
       have n15_ := Aside0.mk (qai BK141.out)
       have n16_ := Aside0.mk (qac HB.out)
       clear HO105
       clear HO108
       clear HO111
       clear HO114
       clear HO117
       clear HO120
       clear HO124
       clear HO127
       clear HO130
       clear HO134
       clear HO137
       clear HO140
       clear BK101
       clear BK121
       clear BK131
       clear BK141
       clear HB
       have HO105 := n0_
       have HO108 := n1_
       have HO111 := n2_
       have HO114 := n3_
       have HO117 := n4_
       have HO120 := n5_
       have HO124 := n6_
       have HO127 := n7_
       have HO130 := n8_
       have HO134 := n9_
       have HO137 := n10_
       have HO140 := n11_
       have BK101 := n12_
       have BK121 := n13_
       have BK131 := n14_
       have BK141 := n15_
       have HB := n16_
       clear n0_ n1_ n2_ n3_ n4_ n5_ n6_ n7_ n8_ n9_ n10_ n11_ n12_ n13_ n14_ n15_ n16_
       refine qbv (n := 5) (S := fun w' => w'.cell? ⟨gb131, 0, none⟩ = some (.slice Ao36 t122.length co36) ∧ w'.cell? ⟨gb131, 1, none⟩ = some (.slice Ao40 t125.length co40) ∧ w'.cell? ⟨gb131, 2, none⟩ = some (.slice Ao41 t128.length co41) ∧ w'.cell? ⟨gb101, 0, none⟩ = some (.slice A0_0 l0_0.length c0_0) ∧ w'.cell? ⟨gb101, 1, none⟩ = some (.slice A0_1 l0_1.length c0_1) ∧ w'.cell? ⟨gb101, 2, none⟩ = some (.slice A0_2 l0_2.length c0_2)) (ds := []) #[false, false, false, false, false] (by kernel_rfl) rfl rfl ⟨(qaf BK131.out 0).trans rfl, (qaf BK131.out 1).trans rfl, (qaf BK131.out 2).trans rfl, (qaf BK101.out 0).trans rfl, (qaf BK101.out 1).trans rfl, (qaf BK101.out 2).trans rfl⟩ (fun hHeld => ?_)
       generalize w52.drew = w53 at HO105 HO108 HO111 HO114 HO117 HO120 HO124 HO127 HO130 HO134 HO137 HO140 BK101 BK121 BK131 BK141 HB hHeld ⊢
       refine take_ (i := 0) (N := some 27) (v := ?_) (a' := ?_) #[true, false, false, false, false] rfl rfl (by kernel_rfl) (fun _ _ _ h => h) (Or.inl ⟨by rfl, ?_⟩) hHeld ?_ ?_
       rotate_left
       · rintro w' ⟨s0, s1, s2, s3, s4, s5⟩
         go_simp
         with_reducible rfl
       rotate_left
       · simp only [Act.put, List.setIfInBounds_toArray, List.set_cons_zero, List.set_cons_succ, i64_w, i32_w]
         rfl
       refine take_ (i := 1) (N := some 28) (v := ?_) (a' := ?_) #[true, true, false, false, false] rfl rfl (by kernel_rfl) (fun _ _ _ h => h) (Or.inl ⟨by rfl, ?_⟩) hHeld ?_ ?_
       rotate_left
       · rintro w' ⟨s0, s1, s2, s3, s4, s5⟩
         go_simp
         with_reducible rfl
       rotate_left
       · simp only [Act.put, List.setIfInBounds_toArray, List.set_cons_zero, List.set_cons_succ, i64_w, i32_w]
         rfl
       refine one_ (i := 2) (N := some 29) #[true, true, true, false, false] rfl rfl (by kernel_rfl) (by decide) (fun K hK => ?_)
       refine goes_ Try.func14 (by kernel_rfl) rfl #[.agg #[.slice A0_0 l0_0.length c0_0, .slice A0_1 l0_1.length c0_1, .slice A0_2 l0_2.length c0_2]] (by rfl) rfl rfl (by (try simp only [List.map_toArray, List.map_cons, List.map_nil]); first | done | rfl | (simp only [List.length_drop, List.length_take]; rfl)) ?_
       with_reducible refine (laws_toDisk.calls k _ _ l0_0 _ _ l0_1 _ _ l0_2 t143 t146 t149 _ ?side1 ?side2 ?side3 ?side4 ?side5 ?side6 A13.out).mono ?_
       (case side1 => repeat (first | exact (Kd.C_below HR0_0.out HB.out) | (with_reducible refine Kd.C_alloc ?_ _) | (with_reducible refine Kd.C_drewN ?_ _) | (with_reducible refine Kd.C_drew ?_)))
       (case side2 => exact HC0_0.out)
       (case side3 => repeat (first | exact (Kd.C_below HR0_1.out HB.out) | (with_reducible refine Kd.C_alloc ?_ _) | (with_reducible refine Kd.C_drewN ?_ _) | (with_reducible refine Kd.C_drew ?_)))
       (case side4 => exact HC0_1.out)
       (case side5 => repeat (first | exact (Kd.C_below HR0_2.out HB.out) | (with_reducible refine Kd.C_alloc ?_ _) | (with_reducible refine Kd.C_drewN ?_ _) | (with_reducible refine Kd.C_drew ?_)))
       (case side6 => exact HC0_2.out)
       rintro e w54 ⟨v144, v147, v150, rfl, ho0, ho1, ho2, hb⟩
       refine ⟨_, rfl, ?_⟩
       have n0_ := Aside0.mk (Kd.R_mono (Kd.R_told (Kd.R_told (Kd.R_old (by (with_reducible repeat (first | apply Kd.R_alloc | apply Kd.R_drewN | apply Kd.R_drew)); exact HO105.out) hb) (Kd.R_base ho0)) (Kd.R_base ho1)) (fun _ h_ => h_.1))
       have n1_ := Aside0.mk (Kd.R_mono (Kd.R_told (Kd.R_told (Kd.R_old (by (with_reducible repeat (first | apply Kd.R_alloc | apply Kd.R_drewN | apply Kd.R_drew)); exact HO108.out) hb) (Kd.R_base ho0)) (Kd.R_base ho1)) (fun _ h_ => h_.1))
       have n2_ := Aside0.mk (Kd.R_elder' (by (with_reducible repeat (first | apply Kd.R_alloc | apply Kd.R_drewN | apply Kd.R_drew)); exact HO111.out) (Kd.R_base ho2) hb)
       have n3_ := Aside0.mk (Kd.R_mono (Kd.R_told (Kd.R_told (Kd.R_old (by (with_reducible repeat (first | apply Kd.R_alloc | apply Kd.R_drewN | apply Kd.R_drew)); exact HO114.out) hb) (Kd.R_base ho0)) (Kd.R_base ho1)) (fun _ h_ => h_.1))
       have n4_ := Aside0.mk (Kd.R_mono (Kd.R_told (Kd.R_told (Kd.R_old (by (with_reducible repeat (first | apply Kd.R_alloc | apply Kd.R_drewN | apply Kd.R_drew)); exact HO117.out) hb) (Kd.R_base ho0)) (Kd.R_base ho1)) (fun _ h_ => h_.1))
       have n5_ := Aside0.mk (Kd.R_elder' (by (with_reducible repeat (first | apply Kd.R_alloc | apply Kd.R_drewN | apply Kd.R_drew)); exact HO120.out) (Kd.R_base ho2) hb)
       have n6_ := Aside0.mk (Kd.R_mono (Kd.R_told (Kd.R_told (Kd.R_old (by (with_reducible repeat (first | apply Kd.R_alloc | apply Kd.R_drewN | apply Kd.R_drew)); exact HO124.out) hb) (Kd.R_base ho0)) (Kd.R_base ho1)) (fun _ h_ => h_.1))
       have n7_ := Aside0.mk (Kd.R_mono (Kd.R_told (Kd.R_told (Kd.R_old (by (with_reducible repeat (first | apply Kd.R_alloc | apply Kd.R_drewN | apply Kd.R_drew)); exact HO127.out) hb) (Kd.R_base ho0)) (Kd.R_base ho1)) (fun _ h_ => h_.1))
       have n8_ := Aside0.mk (Kd.R_elder' (by (with_reducible repeat (first | apply Kd.R_alloc | apply Kd.R_drewN | apply Kd.R_drew)); exact HO130.out) (Kd.R_base ho2) hb)
       have n9_ := Aside0.mk (Kd.R_mono (Kd.R_told (Kd.R_told (Kd.R_old (by (with_reducible repeat (first | apply Kd.R_alloc | apply Kd.R_drewN | apply Kd.R_drew)); exact HO134.out) hb) (Kd.R_base ho0)) (Kd.R_base ho1)) (fun _ h_ => h_.1))
       have n10_ := Aside0.mk (Kd.R_mono (Kd.R_told (Kd.R_told (Kd.R_old (by (with_reducible repeat (first | apply Kd.R_alloc | apply Kd.R_drewN | apply Kd.R_drew)); exact HO137.out) hb) (Kd.R_base ho0)) (Kd.R_base ho1)) (fun _ h_ => h_.1))
       have n11_ := Aside0.mk (Kd.R_elder' (by (with_reducible repeat (first | apply Kd.R_alloc | apply Kd.R_drewN | apply Kd.R_drew)); exact HO140.out) (Kd.R_base ho2) hb)
       have n12_ := Aside0.mk (Kd.R_lower (Kd.R_new' (Kd.R_new' (Kd.R_new' (Kd.R_new' (Kd.R_new' (Kd.R_new' (Kd.R_new' (Kd.R_new' ho0 (Kd.R_lt (by (with_reducible repeat (first | apply Kd.R_alloc | apply Kd.R_drewN | apply Kd.R_drew)); exact HO105.out))) (Kd.R_lt (by (with_reducible repeat (first | apply Kd.R_alloc | apply Kd.R_drewN | apply Kd.R_drew)); exact HO108.out))) (Kd.R_lt (by (with_reducible repeat (first | apply Kd.R_alloc | apply Kd.R_drewN | apply Kd.R_drew)); exact HO114.out))) (Kd.R_lt (by (with_reducible repeat (first | apply Kd.R_alloc | apply Kd.R_drewN | apply Kd.R_drew)); exact HO117.out))) (Kd.R_lt (by (with_reducible repeat (first | apply Kd.R_alloc | apply Kd.R_drewN | apply Kd.R_drew)); exact HO124.out))) (Kd.R_lt (by (with_reducible repeat (first | apply Kd.R_alloc | apply Kd.R_drewN | apply Kd.R_drew)); exact HO127.out))) (Kd.R_lt (by (with_reducible repeat (first | apply Kd.R_alloc | apply Kd.R_drewN | apply Kd.R_drew)); exact HO134.out))) (Kd.R_lt (by (with_reducible repeat (first | apply Kd.R_alloc | apply Kd.R_drewN | apply Kd.R_drew)); exact HO137.out))) (qaj (by repeat (first | (with_reducible first | exact HB.out | apply qab | apply qaa | apply qac | refine qae ?_ GE101.out | refine qae ?_ GE121.out | refine qae ?_ GE131.out | refine qae ?_ GE141.out) | exact HB.out))))
       have n13_ := Aside0.mk (Kd.R_lower (Kd.R_new' (Kd.R_new' (Kd.R_new' (Kd.R_new' (Kd.R_new' (Kd.R_new' (Kd.R_new' (Kd.R_new' ho1 (Kd.R_lt (by (with_reducible repeat (first | apply Kd.R_alloc | apply Kd.R_drewN | apply Kd.R_drew)); exact HO105.out))) (Kd.R_lt (by (with_reducible repeat (first | apply Kd.R_alloc | apply Kd.R_drewN | apply Kd.R_drew)); exact HO108.out))) (Kd.R_lt (by (with_reducible repeat (first | apply Kd.R_alloc | apply Kd.R_drewN | apply Kd.R_drew)); exact HO114.out))) (Kd.R_lt (by (with_reducible repeat (first | apply Kd.R_alloc | apply Kd.R_drewN | apply Kd.R_drew)); exact HO117.out))) (Kd.R_lt (by (with_reducible repeat (first | apply Kd.R_alloc | apply Kd.R_drewN | apply Kd.R_drew)); exact HO124.out))) (Kd.R_lt (by (with_reducible repeat (first | apply Kd.R_alloc | apply Kd.R_drewN | apply Kd.R_drew)); exact HO127.out))) (Kd.R_lt (by (with_reducible repeat (first | apply Kd.R_alloc | apply Kd.R_drewN | apply Kd.R_drew)); exact HO134.out))) (Kd.R_lt (by (with_reducible repeat (first | apply Kd.R_alloc | apply Kd.R_drewN | apply Kd.R_drew)); exact HO137.out))) (qaj (by repeat (first | (with_reducible first | exact HB.out | apply qab | apply qaa | apply qac | refine qae ?_ GE101.out | refine qae ?_ GE121.out | refine qae ?_ GE131.out | refine qae ?_ GE141.out) | exact HB.out))))
       have n14_ := Aside0.mk (Kd.R_lower (Kd.R_new' (Kd.R_new' (Kd.R_new' (Kd.R_new' ho2 (Kd.R_lt (by (with_reducible repeat (first | apply Kd.R_alloc | apply Kd.R_drewN | apply Kd.R_drew)); exact HO111.out))) (Kd.R_lt (by (with_reducible repeat (first | apply Kd.R_alloc | apply Kd.R_drewN | apply Kd.R_drew)); exact HO120.out))) (Kd.R_lt (by (with_reducible repeat (first | apply Kd.R_alloc | apply Kd.R_drewN | apply Kd.R_drew)); exact HO130.out))) (Kd.R_lt (by (with_reducible repeat (first | apply Kd.R_alloc | apply Kd.R_drewN | apply Kd.R_drew)); exact HO140.out))) (qaj (by repeat (first | (with_reducible first | exact HB.out | apply qab | apply qaa | apply qac | refine qae ?_ GE101.out | refine qae ?_ GE121.out | refine qae ?_ GE131.out | refine qae ?_ GE141.out) | exact HB.out))))
       have n15_ := Aside0.mk (qao (g := gb101) (o := .cells #[.slice A0_0 l0_0.length c0_0, .slice A0_1 l0_1.length c0_1, .slice A0_2 l0_2.length c0_2] 25 (0, 0)) (by (with_reducible repeat (first | refine qah ?_ _ | refine qai ?_ | refine qag ?_ _)); exact BK101.out) hb)
       have n16_ := Aside0.mk (qao (g := gb121) (o := .cells #[.slice Ao28 t112.length co28, .slice Ao31 t115.length co31, .slice Ao32 t118.length co32] 31 (0, 0)) (by (with_reducible repeat (first | refine qah ?_ _ | refine qai ?_ | refine qag ?_ _)); exact BK121.out) hb)
       have n17_ := Aside0.mk (qao (g := gb131) (o := .cells #[.slice Ao36 t122.length co36, .slice Ao40 t125.length co40, .slice Ao41 t128.length co41] 31 (0, 0)) (by (with_reducible repeat (first | refine qah ?_ _ | refine qai ?_ | refine qag ?_ _)); exact BK131.out) hb)
       have n18_ := Aside0.mk (qao (g := gb141) (o := .cells #[.slice Ao44 t132.length co44, .slice Ao49 t135.length co49, .slice Ao50 t138.length co50] 31 (0, 0)) (by (with_reducible repeat (first | refine qah ?_ _ | refine qai ?_ | refine qag ?_ _)); exact BK141.out) hb)
       have n19_ := Aside0.mk (qak (by repeat (first | (with_reducible first | exact HB.out | apply qab | apply qaa | apply qac | refine qae ?_ GE101.out | refine qae ?_ GE121.out | refine qae ?_ GE131.out | refine qae ?_ GE141.out) | exact HB.out)) hb)
       clear HO105
       clear HO108
       clear HO111
       clear HO114
       clear HO117
       clear HO120
       clear HO124
       clear HO127
       clear HO130
       clear HO134
       clear HO137
       clear HO140
       clear BK101
       clear BK121
       clear BK131
       clear BK141
       clear HB
       have HO105 := n0_
       have HO108 := n1_
       have HO111 := n2_
       have HO114 := n3_
       have HO117 := n4_
       have HO120 := n5_
       have HO124 := n6_
       have HO127 := n7_
       have HO130 := n8_
       have HO134 := n9_
       have HO137 := n10_
       have HO140 := n11_
       have HO145 := n12_
       have HO148 := n13_
       have HO151 := n14_
       have BK101 := n15_
       have BK121 := n16_
       have BK131 := n17_
       have BK141 := n18_
       have HB := n19_
       clear n0_ n1_ n2_ n3_ n4_ n5_ n6_ n7_ n8_ n9_ n10_ n11_ n12_ n13_ n14_ n15_ n16_ n17_ n18_ n19_
       (try clear hb)
       (try clear hb2)
       (try clear hk)
       (try clear hi)
       (try clear ho0)
       (try clear ho1)
       (try clear ho2)
       obtain ⟨Ao55, co55, eo55⟩ := Kd.R_slice HO145.out
       (first | subst eo55 | (injection eo55 with f1_ f2_ f3_; have f4_ := f1_.symm; have f5_ := f3_.symm; clear f1_ f2_ f3_; subst f4_; subst f5_))
       obtain ⟨Ao56, co56, eo56⟩ := Kd.R_slice HO148.out
       (first | subst eo56 | (injection eo56 with f1_ f2_ f3_; have f4_ := f1_.symm; have f5_ := f3_.symm; clear f1_ f2_ f3_; subst f4_; subst f5_))
       obtain ⟨Ao57, co57, eo57⟩ := Kd.R_slice HO151.out
       (first | subst eo57 | (injection eo57 with f1_ f2_ f3_; have f4_ := f1_.symm; have f5_ := f3_.symm; clear f1_ f2_ f3_; subst f4_; subst f5_))
       refine hK.out _ _ ⟨(qaf BK131.out 0).trans rfl, (qaf BK131.out 1).trans rfl, (qaf BK131.out 2).trans rfl, (qaf BK101.out 0).trans rfl, (qaf BK101.out 1).trans rfl, (qaf BK101.out 2).trans rfl⟩ (fun hHeld => ?_)
       clear hK K
       refine norm_ (a' := ?_) ?_ ?_
       rotate_left
       · show Act.put _ (some 29) _ = _
         simp only [Act.put, List.setIfInBounds_toArray, List.set_cons_zero, List.set_cons_succ, i64_w, i32_w]
         rfl
       refine one_ (i := 3) (N := some 30) #[true, true, true, true, false] rfl rfl (by kernel_rfl) (by decide) (fun K hK => ?_)
       refine goes_ Try.func16 (by kernel_rfl) rfl #[.agg #[.slice Ao36 t122.length co36, .slice Ao40 t125.length co40, .slice Ao41 t128.length co41], .agg #[.slice Ao55 t143.length co55, .slice Ao56 t146.length co56, .slice Ao57 t149.length co57]] (by rfl) rfl rfl (by (try simp only [List.map_toArray, List.map_cons, List.map_nil]); first | done | rfl | (simp only [List.length_drop, List.length_take]; rfl)) ?_
       with_reducible refine (laws_eqDisk.calls k _ _ t122 _ _ t125 _ _ t128 _ _ t143 _ _ t146 _ _ t149 true _ ?side1 ?side2 ?side3 ?side4 ?side5 ?side6 ?side7 ?side8 ?side9 ?side10 ?side11 ?side12 A14.out).mono ?_
       (case side1 => repeat (first | exact (Kd.R_reads' HO124.out).2.2 | (with_reducible refine Kd.C_alloc ?_ _) | (with_reducible refine Kd.C_drewN ?_ _) | (with_reducible refine Kd.C_drew ?_)))
       (case side2 => exact (Kd.R_reads' HO124.out).2.1)
       (case side3 => repeat (first | exact (Kd.R_reads' HO127.out).2.2 | (with_reducible refine Kd.C_alloc ?_ _) | (with_reducible refine Kd.C_drewN ?_ _) | (with_reducible refine Kd.C_drew ?_)))
       (case side4 => exact (Kd.R_reads' HO127.out).2.1)
       (case side5 => repeat (first | exact (Kd.R_reads' HO130.out).2.2 | (with_reducible refine Kd.C_alloc ?_ _) | (with_reducible refine Kd.C_drewN ?_ _) | (with_reducible refine Kd.C_drew ?_)))
       (case side6 => exact (Kd.R_reads' HO130.out).2.1)
       (case side7 => repeat (first | exact (Kd.R_reads' HO145.out).2.2 | (with_reducible refine Kd.C_alloc ?_ _) | (with_reducible refine Kd.C_drewN ?_ _) | (with_reducible refine Kd.C_drew ?_)))
       (case side8 => exact (Kd.R_reads' HO145.out).2.1)
       (case side9 => repeat (first | exact (Kd.R_reads' HO148.out).2.2 | (with_reducible refine Kd.C_alloc ?_ _) | (with_reducible refine Kd.C_drewN ?_ _) | (with_reducible refine Kd.C_drew ?_)))
       (case side10 => exact (Kd.R_reads' HO148.out).2.1)
       (case side11 => repeat (first | exact (Kd.R_reads' HO151.out).2.2 | (with_reducible refine Kd.C_alloc ?_ _) | (with_reducible refine Kd.C_drewN ?_ _) | (with_reducible refine Kd.C_drew ?_)))
       (case side12 => exact (Kd.R_reads' HO151.out).2.1)
       rintro e w58 ⟨rfl, hb⟩
       refine ⟨_, rfl, ?_⟩
       have n0_ := Aside0.mk (Kd.R_below (by (with_reducible repeat (first | apply Kd.R_alloc | apply Kd.R_drewN | apply Kd.R_drew)); exact HO105.out) hb)
       have n1_ := Aside0.mk (Kd.R_below (by (with_reducible repeat (first | apply Kd.R_alloc | apply Kd.R_drewN | apply Kd.R_drew)); exact HO108.out) hb)
       have n2_ := Aside0.mk (Kd.R_below (by (with_reducible repeat (first | apply Kd.R_alloc | apply Kd.R_drewN | apply Kd.R_drew)); exact HO111.out) hb)
       have n3_ := Aside0.mk (Kd.R_below (by (with_reducible repeat (first | apply Kd.R_alloc | apply Kd.R_drewN | apply Kd.R_drew)); exact HO114.out) hb)
       have n4_ := Aside0.mk (Kd.R_below (by (with_reducible repeat (first | apply Kd.R_alloc | apply Kd.R_drewN | apply Kd.R_drew)); exact HO117.out) hb)
       have n5_ := Aside0.mk (Kd.R_below (by (with_reducible repeat (first | apply Kd.R_alloc | apply Kd.R_drewN | apply Kd.R_drew)); exact HO120.out) hb)
       have n6_ := Aside0.mk (Kd.R_below (by (with_reducible repeat (first | apply Kd.R_alloc | apply Kd.R_drewN | apply Kd.R_drew)); exact HO124.out) hb)
       have n7_ := Aside0.mk (Kd.R_below (by (with_reducible repeat (first | apply Kd.R_alloc | apply Kd.R_drewN | apply Kd.R_drew)); exact HO127.out) hb)
       have n8_ := Aside0.mk (Kd.R_below (by (with_reducible repeat (first | apply Kd.R_alloc | apply Kd.R_drewN | apply Kd.R_drew)); exact HO130.out) hb)
       have n9_ := Aside0.mk (Kd.R_below (by (with_reducible repeat (first | apply Kd.R_alloc | apply Kd.R_drewN | apply Kd.R_drew)); exact HO134.out) hb)
       have n10_ := Aside0.mk (Kd.R_below (by (with_reducible repeat (first | apply Kd.R_alloc | apply Kd.R_drewN | apply Kd.R_drew)); exact HO137.out) hb)
       have n11_ := Aside0.mk (Kd.R_below (by (with_reducible repeat (first | apply Kd.R_alloc | apply Kd.R_drewN | apply Kd.R_drew)); exact HO140.out) hb)
       have n12_ := Aside0.mk (Kd.R_below (by (with_reducible repeat (first | apply Kd.R_alloc | apply Kd.R_drewN | apply Kd.R_drew)); exact HO145.out) hb)
       have n13_ := Aside0.mk (Kd.R_below (by (with_reducible repeat (first | apply Kd.R_alloc | apply Kd.R_drewN | apply Kd.R_drew)); exact HO148.out) hb)
       have n14_ := Aside0.mk (Kd.R_below (by (with_reducible repeat (first | apply Kd.R_alloc | apply Kd.R_drewN | apply Kd.R_drew)); exact HO151.out) hb)
       have n15_ := Aside0.mk (qao (g := gb101) (o := .cells #[.slice A0_0 l0_0.length c0_0, .slice A0_1 l0_1.length c0_1, .slice A0_2 l0_2.length c0_2] 25 (0, 0)) (by (with_reducible repeat (first | refine qah ?_ _ | refine qai ?_ | refine qag ?_ _)); exact BK101.out) hb)
       have n16_ := Aside0.mk (qao (g := gb121) (o := .cells #[.slice Ao28 t112.length co28, .slice Ao31 t115.length co31, .slice Ao32 t118.length co32] 31 (0, 0)) (by (with_reducible repeat (first | refine qah ?_ _ | refine qai ?_ | refine qag ?_ _)); exact BK121.out) hb)
       have n17_ := Aside0.mk (qao (g := gb131) (o := .cells #[.slice Ao36 t122.length co36, .slice Ao40 t125.length co40, .slice Ao41 t128.length co41] 31 (0, 0)) (by (with_reducible repeat (first | refine qah ?_ _ | refine qai ?_ | refine qag ?_ _)); exact BK131.out) hb)
       have n18_ := Aside0.mk (qao (g := gb141) (o := .cells #[.slice Ao44 t132.length co44, .slice Ao49 t135.length co49, .slice Ao50 t138.length co50] 31 (0, 0)) (by (with_reducible repeat (first | refine qah ?_ _ | refine qai ?_ | refine qag ?_ _)); exact BK141.out) hb)
       have n19_ := Aside0.mk (qak (by repeat (first | (with_reducible first | exact HB.out | apply qab | apply qaa | apply qac | refine qae ?_ GE101.out | refine qae ?_ GE121.out | refine qae ?_ GE131.out | refine qae ?_ GE141.out) | exact HB.out)) hb)
       clear HO105
       clear HO108
       clear HO111
       clear HO114
       clear HO117
       clear HO120
       clear HO124
       clear HO127
       clear HO130
       clear HO134
       clear HO137
       clear HO140
       clear HO145
       clear HO148
       clear HO151
       clear BK101
       clear BK121
       clear BK131
       clear BK141
       clear HB
       have HO105 := n0_
       have HO108 := n1_
       have HO111 := n2_
       have HO114 := n3_
       have HO117 := n4_
       have HO120 := n5_
       have HO124 := n6_
       have HO127 := n7_
       have HO130 := n8_
       have HO134 := n9_
       have HO137 := n10_
       have HO140 := n11_
       have HO145 := n12_
       have HO148 := n13_
       have HO151 := n14_
       have BK101 := n15_
       have BK121 := n16_
       have BK131 := n17_
       have BK141 := n18_
       have HB := n19_
       clear n0_ n1_ n2_ n3_ n4_ n5_ n6_ n7_ n8_ n9_ n10_ n11_ n12_ n13_ n14_ n15_ n16_ n17_ n18_ n19_
       (try clear hb)
       (try clear hb2)
       (try clear hk)
       (try clear hi)
       refine hK.out _ _ ⟨(qaf BK131.out 0).trans rfl, (qaf BK131.out 1).trans rfl, (qaf BK131.out 2).trans rfl, (qaf BK101.out 0).trans rfl, (qaf BK101.out 1).trans rfl, (qaf BK101.out 2).trans rfl⟩ (fun hHeld => ?_)
       clear hK K
       refine norm_ (a' := ?_) ?_ ?_
       rotate_left
       · show Act.put _ (some 30) _ = _
         simp only [Act.put, List.setIfInBounds_toArray, List.set_cons_zero, List.set_cons_succ, i64_w, i32_w]
         rfl
       refine pure_ (i := 4) (N := some 31) (v := ?_) (a' := ?_) #[true, true, true, true, true] rfl rfl (by kernel_rfl) (fun _ _ _ h => h) (Or.inl ⟨by rfl, ?_⟩) ?_ ?_
       rotate_left
       · intro w'
         go_simp
         with_reducible rfl
       rotate_left
       · simp only [Act.put, List.setIfInBounds_toArray, List.set_cons_zero, List.set_cons_succ, i64_w, i32_w]
         rfl
       refine done_ (by kernel_rfl) ?_
       have hcz59_0 : w58.cell? ⟨gb131, 0, none⟩ = some (.slice Ao36 t122.length co36) := (qaf BK131.out 0).trans rfl
       have hcz59_1 : w58.cell? ⟨gb131, 1, none⟩ = some (.slice Ao40 t125.length co40) := (qaf BK131.out 1).trans rfl
       have hcz59_2 : w58.cell? ⟨gb131, 2, none⟩ = some (.slice Ao41 t128.length co41) := (qaf BK131.out 2).trans rfl
       have hfz59_0 := qad BK131.out 0
       have hfz59_1 := qad BK131.out 1
       have hfz59_2 := qad BK131.out 2
       go_upto_region 14 with (first | ((with_reducible refine qaq (f := 29) rfl ?_); refine qav (some 34) rfl rfl Try.func29 (by kernel_rfl) rfl #[.agg #[.slice Ao36 t122.length co36, .slice Ao40 t125.length co40, .slice Ao41 t128.length co41], .int .i64 1] rfl (by (try simp only [List.map_toArray, List.map_cons, List.map_nil]); first | done | rfl | (simp only [List.length_drop, List.length_take]; rfl)) ?_; (with_reducible refine (laws_markDisk.calls k (fun k_ => some k_ = (.slice Ao36 t122.length co36 : Value).ownBlock) (.slice Ao36 t122.length co36) t122 (fun k_ => some k_ = (.slice Ao40 t125.length co40 : Value).ownBlock) (.slice Ao40 t125.length co40) t125 (fun k_ => some k_ = (.slice Ao41 t128.length co41 : Value).ownBlock) (.slice Ao41 t128.length co41) t128 1 t153 t154 t155 t156 w _ ?side1 ?side2 ?side3 ?side4 ?side5 ?side6 A16.out).mono ?_); (case side1 => repeat (first | (with_reducible first | exact HB.out | apply qab | apply qaa | apply qac | refine qae ?_ GE101.out | refine qae ?_ GE121.out | refine qae ?_ GE131.out | refine qae ?_ GE141.out) | exact HB.out)); (case side2 => exact Kd.R_tight rfl HO124.out); (case side3 => exact fun k_ e_ => (HO124.out.1 k_ e_.symm).1.1.1.1.1.1.1.1); (case side4 => exact Kd.R_tight rfl HO127.out); (case side5 => exact fun k_ e_ => (HO127.out.1 k_ e_.symm).1.1.1.1.1.1.1.1); (case side6 => exact Kd.R_tight rfl HO130.out); rintro e w60 ⟨rfl, hy0, hy1, hy2, hb, hkp⟩; refine ⟨_, rfl, ?_⟩; have n0_ := Aside0.mk (qcd (by (with_reducible repeat (first | refine qah ?_ _ | refine qai ?_ | refine qag ?_ _)); exact BK101.out) hkp (fun hs_ => Or.elim hs_ (fun e_ => (fun e_ => (Kd.R_ne HO124.out BK101.out (by decide)) e_) e_) (fun e_ => Or.elim e_ (fun e_ => (fun e_ => (Kd.R_ne HO127.out BK101.out (by decide)) e_) e_) (fun e_ => (fun e_ => (Kd.R_ne HO130.out BK101.out (by decide)) e_) e_)))); have n1_ := Aside0.mk (Kd.R_mono (ok' := fun k_ => some k_ ≠ (.slice Ao24 t106.length co24 : Value).ownBlock ∧ some k_ ≠ (.slice Ao28 t112.length co28 : Value).ownBlock ∧ some k_ ≠ (.slice Ao31 t115.length co31 : Value).ownBlock ∧ some k_ ≠ (.slice Ao36 t122.length co36 : Value).ownBlock ∧ some k_ ≠ (.slice Ao40 t125.length co40 : Value).ownBlock ∧ some k_ ≠ (.slice Ao44 t132.length co44 : Value).ownBlock ∧ some k_ ≠ (.slice Ao49 t135.length co49 : Value).ownBlock ∧ some k_ ≠ (.slice Ao55 t143.length co55 : Value).ownBlock ∧ some k_ ≠ (.slice Ao56 t146.length co56 : Value).ownBlock) (Kd.R_keptB ((Kd.R_apart' HO105.out (Kd.R_typed HO130.out) (by decide))) hkp (fun k_ hk_ hs_ => Or.elim hs_ (fun e_ => (hk_.1.1.1.1.1.1.2) e_) (fun e_ => Or.elim e_ (fun e_ => (hk_.1.1.1.1.1.2) e_) (fun e_ => (hk_.2) e_)))) (fun k_ hk_ => ⟨hk_.1.1.1.1.1.1.1.1.1.1, hk_.1.1.1.1.1.1.1.1.1.2, hk_.1.1.1.1.1.1.1.1.2, hk_.1.1.1.1.1.1.1.2, hk_.1.1.1.1.1.1.2, hk_.1.1.1.1.1.2, hk_.1.1.1.1.2, hk_.1.1.1.2, hk_.1.1.2⟩)); have n2_ := Aside0.mk (Kd.R_mono (ok' := fun k_ => some k_ ≠ (.slice Ao23 t103.length co23 : Value).ownBlock ∧ some k_ ≠ (.slice Ao28 t112.length co28 : Value).ownBlock ∧ some k_ ≠ (.slice Ao31 t115.length co31 : Value).ownBlock ∧ some k_ ≠ (.slice Ao36 t122.length co36 : Value).ownBlock ∧ some k_ ≠ (.slice Ao40 t125.length co40 : Value).ownBlock ∧ some k_ ≠ (.slice Ao44 t132.length co44 : Value).ownBlock ∧ some k_ ≠ (.slice Ao49 t135.length co49 : Value).ownBlock ∧ some k_ ≠ (.slice Ao55 t143.length co55 : Value).ownBlock ∧ some k_ ≠ (.slice Ao56 t146.length co56 : Value).ownBlock) (Kd.R_keptB ((Kd.R_apart' HO108.out (Kd.R_typed HO130.out) (by decide))) hkp (fun k_ hk_ hs_ => Or.elim hs_ (fun e_ => (hk_.1.1.1.1.1.1.2) e_) (fun e_ => Or.elim e_ (fun e_ => (hk_.1.1.1.1.1.2) e_) (fun e_ => (hk_.2) e_)))) (fun k_ hk_ => ⟨hk_.1.1.1.1.1.1.1.1.1.1, hk_.1.1.1.1.1.1.1.1.1.2, hk_.1.1.1.1.1.1.1.1.2, hk_.1.1.1.1.1.1.1.2, hk_.1.1.1.1.1.1.2, hk_.1.1.1.1.1.2, hk_.1.1.1.1.2, hk_.1.1.1.2, hk_.1.1.2⟩)); have n3_ := Aside0.mk (Kd.R_mono (ok' := fun k_ => some k_ ≠ (.slice Ao32 t118.length co32 : Value).ownBlock ∧ some k_ ≠ (.slice Ao41 t128.length co41 : Value).ownBlock ∧ some k_ ≠ (.slice Ao50 t138.length co50 : Value).ownBlock ∧ some k_ ≠ (.slice Ao57 t149.length co57 : Value).ownBlock) (Kd.R_keptB ((Kd.R_apart' (Kd.R_apart' HO111.out (Kd.R_typed HO124.out) (by decide)) (Kd.R_typed HO127.out) (by decide))) hkp (fun k_ hk_ hs_ => Or.elim hs_ (fun e_ => (hk_.1.2) e_) (fun e_ => Or.elim e_ (fun e_ => (hk_.2) e_) (fun e_ => (hk_.1.1.1.1.2) e_)))) (fun k_ hk_ => ⟨hk_.1.1.1.1.1.1.2, hk_.1.1.1.1.1.2, hk_.1.1.1.1.2, hk_.1.1.1.2⟩)); have n4_ := Aside0.mk (Kd.R_mono (ok' := fun k_ => some k_ ≠ (.slice Ao23 t103.length co23 : Value).ownBlock ∧ some k_ ≠ (.slice Ao24 t106.length co24 : Value).ownBlock ∧ some k_ ≠ (.slice Ao31 t115.length co31 : Value).ownBlock ∧ some k_ ≠ (.slice Ao36 t122.length co36 : Value).ownBlock ∧ some k_ ≠ (.slice Ao40 t125.length co40 : Value).ownBlock ∧ some k_ ≠ (.slice Ao44 t132.length co44 : Value).ownBlock ∧ some k_ ≠ (.slice Ao49 t135.length co49 : Value).ownBlock ∧ some k_ ≠ (.slice Ao55 t143.length co55 : Value).ownBlock ∧ some k_ ≠ (.slice Ao56 t146.length co56 : Value).ownBlock) (Kd.R_keptB ((Kd.R_apart' HO114.out (Kd.R_typed HO130.out) (by decide))) hkp (fun k_ hk_ hs_ => Or.elim hs_ (fun e_ => (hk_.1.1.1.1.1.1.2) e_) (fun e_ => Or.elim e_ (fun e_ => (hk_.1.1.1.1.1.2) e_) (fun e_ => (hk_.2) e_)))) (fun k_ hk_ => ⟨hk_.1.1.1.1.1.1.1.1.1.2, hk_.1.1.1.1.1.1.1.1.2, hk_.1.1.1.1.1.1.1.1.1.1, hk_.1.1.1.1.1.1.1.2, hk_.1.1.1.1.1.1.2, hk_.1.1.1.1.1.2, hk_.1.1.1.1.2, hk_.1.1.1.2, hk_.1.1.2⟩)); have n5_ := Aside0.mk (Kd.R_mono (ok' := fun k_ => some k_ ≠ (.slice Ao23 t103.length co23 : Value).ownBlock ∧ some k_ ≠ (.slice Ao24 t106.length co24 : Value).ownBlock ∧ some k_ ≠ (.slice Ao28 t112.length co28 : Value).ownBlock ∧ some k_ ≠ (.slice Ao36 t122.length co36 : Value).ownBlock ∧ some k_ ≠ (.slice Ao40 t125.length co40 : Value).ownBlock ∧ some k_ ≠ (.slice Ao44 t132.length co44 : Value).ownBlock ∧ some k_ ≠ (.slice Ao49 t135.length co49 : Value).ownBlock ∧ some k_ ≠ (.slice Ao55 t143.length co55 : Value).ownBlock ∧ some k_ ≠ (.slice Ao56 t146.length co56 : Value).ownBlock) (Kd.R_keptB ((Kd.R_apart' HO117.out (Kd.R_typed HO130.out) (by decide))) hkp (fun k_ hk_ hs_ => Or.elim hs_ (fun e_ => (hk_.1.1.1.1.1.1.2) e_) (fun e_ => Or.elim e_ (fun e_ => (hk_.1.1.1.1.1.2) e_) (fun e_ => (hk_.2) e_)))) (fun k_ hk_ => ⟨hk_.1.1.1.1.1.1.1.1.1.2, hk_.1.1.1.1.1.1.1.1.2, hk_.1.1.1.1.1.1.1.1.1.1, hk_.1.1.1.1.1.1.1.2, hk_.1.1.1.1.1.1.2, hk_.1.1.1.1.1.2, hk_.1.1.1.1.2, hk_.1.1.1.2, hk_.1.1.2⟩)); have n6_ := Aside0.mk (Kd.R_mono (ok' := fun k_ => some k_ ≠ (.slice Ao25 t109.length co25 : Value).ownBlock ∧ some k_ ≠ (.slice Ao41 t128.length co41 : Value).ownBlock ∧ some k_ ≠ (.slice Ao50 t138.length co50 : Value).ownBlock ∧ some k_ ≠ (.slice Ao57 t149.length co57 : Value).ownBlock) (Kd.R_keptB ((Kd.R_apart' (Kd.R_apart' HO120.out (Kd.R_typed HO124.out) (by decide)) (Kd.R_typed HO127.out) (by decide))) hkp (fun k_ hk_ hs_ => Or.elim hs_ (fun e_ => (hk_.1.2) e_) (fun e_ => Or.elim e_ (fun e_ => (hk_.2) e_) (fun e_ => (hk_.1.1.1.1.2) e_)))) (fun k_ hk_ => ⟨hk_.1.1.1.1.1.1.2, hk_.1.1.1.1.1.2, hk_.1.1.1.1.2, hk_.1.1.1.2⟩)); have n7_ := Aside0.mk (qcd (by (with_reducible repeat (first | refine qah ?_ _ | refine qai ?_ | refine qag ?_ _)); exact BK121.out) hkp (fun hs_ => Or.elim hs_ (fun e_ => (fun e_ => (Kd.R_ne HO124.out BK121.out (by decide)) e_) e_) (fun e_ => Or.elim e_ (fun e_ => (fun e_ => (Kd.R_ne HO127.out BK121.out (by decide)) e_) e_) (fun e_ => (fun e_ => (Kd.R_ne HO130.out BK121.out (by decide)) e_) e_)))); have n8_ := Aside0.mk (Kd.R_reok rfl hy0 (fun k_ e_ => HO124.out.1 k_ e_)); have n9_ := Aside0.mk (Kd.R_reok rfl hy1 (fun k_ e_ => HO127.out.1 k_ e_)); have n10_ := Aside0.mk (Kd.R_reok rfl hy2 (fun k_ e_ => HO130.out.1 k_ e_)); have n11_ := Aside0.mk (qcd (by (with_reducible repeat (first | refine qah ?_ _ | refine qai ?_ | refine qag ?_ _)); exact BK131.out) hkp (fun hs_ => Or.elim hs_ (fun e_ => (fun e_ => (Kd.R_ne HO124.out BK131.out (by decide)) e_) e_) (fun e_ => Or.elim e_ (fun e_ => (fun e_ => (Kd.R_ne HO127.out BK131.out (by decide)) e_) e_) (fun e_ => (fun e_ => (Kd.R_ne HO130.out BK131.out (by decide)) e_) e_)))); have n12_ := Aside0.mk (Kd.R_mono (ok' := fun k_ => some k_ ≠ (.slice Ao23 t103.length co23 : Value).ownBlock ∧ some k_ ≠ (.slice Ao24 t106.length co24 : Value).ownBlock ∧ some k_ ≠ (.slice Ao28 t112.length co28 : Value).ownBlock ∧ some k_ ≠ (.slice Ao31 t115.length co31 : Value).ownBlock ∧ some k_ ≠ (.slice Ao36 t122.length co36 : Value).ownBlock ∧ some k_ ≠ (.slice Ao40 t125.length co40 : Value).ownBlock ∧ some k_ ≠ (.slice Ao49 t135.length co49 : Value).ownBlock ∧ some k_ ≠ (.slice Ao55 t143.length co55 : Value).ownBlock ∧ some k_ ≠ (.slice Ao56 t146.length co56 : Value).ownBlock) (Kd.R_keptB ((Kd.R_apart' HO134.out (Kd.R_typed HO130.out) (by decide))) hkp (fun k_ hk_ hs_ => Or.elim hs_ (fun e_ => (hk_.1.1.1.1.2) e_) (fun e_ => Or.elim e_ (fun e_ => (hk_.1.1.1.2) e_) (fun e_ => (hk_.2) e_)))) (fun k_ hk_ => ⟨hk_.1.1.1.1.1.1.1.1.1.2, hk_.1.1.1.1.1.1.1.1.2, hk_.1.1.1.1.1.1.1.2, hk_.1.1.1.1.1.1.2, hk_.1.1.1.1.1.2, hk_.1.1.1.1.2, hk_.1.1.1.1.1.1.1.1.1.1, hk_.1.1.1.2, hk_.1.1.2⟩)); have n13_ := Aside0.mk (Kd.R_mono (ok' := fun k_ => some k_ ≠ (.slice Ao23 t103.length co23 : Value).ownBlock ∧ some k_ ≠ (.slice Ao24 t106.length co24 : Value).ownBlock ∧ some k_ ≠ (.slice Ao28 t112.length co28 : Value).ownBlock ∧ some k_ ≠ (.slice Ao31 t115.length co31 : Value).ownBlock ∧ some k_ ≠ (.slice Ao36 t122.length co36 : Value).ownBlock ∧ some k_ ≠ (.slice Ao40 t125.length co40 : Value).ownBlock ∧ some k_ ≠ (.slice Ao44 t132.length co44 : Value).ownBlock ∧ some k_ ≠ (.slice Ao55 t143.length co55 : Value).ownBlock ∧ some k_ ≠ (.slice Ao56 t146.length co56 : Value).ownBlock) (Kd.R_keptB ((Kd.R_apart' HO137.out (Kd.R_typed HO130.out) (by decide))) hkp (fun k_ hk_ hs_ => Or.elim hs_ (fun e_ => (hk_.1.1.1.1.2) e_) (fun e_ => Or.elim e_ (fun e_ => (hk_.1.1.1.2) e_) (fun e_ => (hk_.2) e_)))) (fun k_ hk_ => ⟨hk_.1.1.1.1.1.1.1.1.1.2, hk_.1.1.1.1.1.1.1.1.2, hk_.1.1.1.1.1.1.1.2, hk_.1.1.1.1.1.1.2, hk_.1.1.1.1.1.2, hk_.1.1.1.1.2, hk_.1.1.1.1.1.1.1.1.1.1, hk_.1.1.1.2, hk_.1.1.2⟩)); have n14_ := Aside0.mk (Kd.R_mono (ok' := fun k_ => some k_ ≠ (.slice Ao25 t109.length co25 : Value).ownBlock ∧ some k_ ≠ (.slice Ao32 t118.length co32 : Value).ownBlock ∧ some k_ ≠ (.slice Ao41 t128.length co41 : Value).ownBlock ∧ some k_ ≠ (.slice Ao57 t149.length co57 : Value).ownBlock) (Kd.R_keptB ((Kd.R_apart' (Kd.R_apart' HO140.out (Kd.R_typed HO124.out) (by decide)) (Kd.R_typed HO127.out) (by decide))) hkp (fun k_ hk_ hs_ => Or.elim hs_ (fun e_ => (hk_.1.2) e_) (fun e_ => Or.elim e_ (fun e_ => (hk_.2) e_) (fun e_ => (hk_.1.1.1.2) e_)))) (fun k_ hk_ => ⟨hk_.1.1.1.1.1.1.2, hk_.1.1.1.1.1.2, hk_.1.1.1.1.2, hk_.1.1.1.2⟩)); have n15_ := Aside0.mk (qcd (by (with_reducible repeat (first | refine qah ?_ _ | refine qai ?_ | refine qag ?_ _)); exact BK141.out) hkp (fun hs_ => Or.elim hs_ (fun e_ => (fun e_ => (Kd.R_ne HO124.out BK141.out (by decide)) e_) e_) (fun e_ => Or.elim e_ (fun e_ => (fun e_ => (Kd.R_ne HO127.out BK141.out (by decide)) e_) e_) (fun e_ => (fun e_ => (Kd.R_ne HO130.out BK141.out (by decide)) e_) e_)))); have n16_ := Aside0.mk (Kd.R_mono (ok' := fun k_ => some k_ ≠ (.slice Ao23 t103.length co23 : Value).ownBlock ∧ some k_ ≠ (.slice Ao24 t106.length co24 : Value).ownBlock ∧ some k_ ≠ (.slice Ao28 t112.length co28 : Value).ownBlock ∧ some k_ ≠ (.slice Ao31 t115.length co31 : Value).ownBlock ∧ some k_ ≠ (.slice Ao36 t122.length co36 : Value).ownBlock ∧ some k_ ≠ (.slice Ao40 t125.length co40 : Value).ownBlock ∧ some k_ ≠ (.slice Ao44 t132.length co44 : Value).ownBlock ∧ some k_ ≠ (.slice Ao49 t135.length co49 : Value).ownBlock ∧ some k_ ≠ (.slice Ao56 t146.length co56 : Value).ownBlock) (Kd.R_keptB ((Kd.R_apart' HO145.out (Kd.R_typed HO130.out) (by decide))) hkp (fun k_ hk_ hs_ => Or.elim hs_ (fun e_ => (hk_.1.1.1.1.2) e_) (fun e_ => Or.elim e_ (fun e_ => (hk_.1.1.1.2) e_) (fun e_ => (hk_.2) e_)))) (fun k_ hk_ => ⟨hk_.1.1.1.1.1.1.1.1.1.2, hk_.1.1.1.1.1.1.1.1.2, hk_.1.1.1.1.1.1.1.2, hk_.1.1.1.1.1.1.2, hk_.1.1.1.1.1.2, hk_.1.1.1.1.2, hk_.1.1.1.2, hk_.1.1.2, hk_.1.1.1.1.1.1.1.1.1.1⟩)); have n17_ := Aside0.mk (Kd.R_mono (ok' := fun k_ => some k_ ≠ (.slice Ao23 t103.length co23 : Value).ownBlock ∧ some k_ ≠ (.slice Ao24 t106.length co24 : Value).ownBlock ∧ some k_ ≠ (.slice Ao28 t112.length co28 : Value).ownBlock ∧ some k_ ≠ (.slice Ao31 t115.length co31 : Value).ownBlock ∧ some k_ ≠ (.slice Ao36 t122.length co36 : Value).ownBlock ∧ some k_ ≠ (.slice Ao40 t125.length co40 : Value).ownBlock ∧ some k_ ≠ (.slice Ao44 t132.length co44 : Value).ownBlock ∧ some k_ ≠ (.slice Ao49 t135.length co49 : Value).ownBlock ∧ some k_ ≠ (.slice Ao55 t143.length co55 : Value).ownBlock) (Kd.R_keptB ((Kd.R_apart' HO148.out (Kd.R_typed HO130.out) (by decide))) hkp (fun k_ hk_ hs_ => Or.elim hs_ (fun e_ => (hk_.1.1.1.1.2) e_) (fun e_ => Or.elim e_ (fun e_ => (hk_.1.1.1.2) e_) (fun e_ => (hk_.2) e_)))) (fun k_ hk_ => ⟨hk_.1.1.1.1.1.1.1.1.1.2, hk_.1.1.1.1.1.1.1.1.2, hk_.1.1.1.1.1.1.1.2, hk_.1.1.1.1.1.1.2, hk_.1.1.1.1.1.2, hk_.1.1.1.1.2, hk_.1.1.1.2, hk_.1.1.2, hk_.1.1.1.1.1.1.1.1.1.1⟩)); have n18_ := Aside0.mk (Kd.R_mono (ok' := fun k_ => some k_ ≠ (.slice Ao25 t109.length co25 : Value).ownBlock ∧ some k_ ≠ (.slice Ao32 t118.length co32 : Value).ownBlock ∧ some k_ ≠ (.slice Ao41 t128.length co41 : Value).ownBlock ∧ some k_ ≠ (.slice Ao50 t138.length co50 : Value).ownBlock) (Kd.R_keptB ((Kd.R_apart' (Kd.R_apart' HO151.out (Kd.R_typed HO124.out) (by decide)) (Kd.R_typed HO127.out) (by decide))) hkp (fun k_ hk_ hs_ => Or.elim hs_ (fun e_ => (hk_.1.2) e_) (fun e_ => Or.elim e_ (fun e_ => (hk_.2) e_) (fun e_ => (hk_.1.1.1.2) e_)))) (fun k_ hk_ => ⟨hk_.1.1.1.1.1.1.2, hk_.1.1.1.1.1.2, hk_.1.1.1.1.2, hk_.1.1.1.2⟩)); have n19_ := Aside0.mk (hb); clear BK101; clear HO105; clear HO108; clear HO111; clear HO114; clear HO117; clear HO120; clear BK121; clear HO124; clear HO127; clear HO130; clear BK131; clear HO134; clear HO137; clear HO140; clear BK141; clear HO145; clear HO148; clear HO151; clear HB; have BK101 := n0_; have HO105 := n1_; have HO108 := n2_; have HO111 := n3_; have HO114 := n4_; have HO117 := n5_; have HO120 := n6_; have BK121 := n7_; have HO124 := n8_; have HO127 := n9_; have HO130 := n10_; have BK131 := n11_; have HO134 := n12_; have HO137 := n13_; have HO140 := n14_; have BK141 := n15_; have HO145 := n16_; have HO148 := n17_; have HO151 := n18_; have HB := n19_; clear n0_ n1_ n2_ n3_ n4_ n5_ n6_ n7_ n8_ n9_ n10_ n11_ n12_ n13_ n14_ n15_ n16_ n17_ n18_ n19_; (try clear hb); (try clear hkp); (try clear hy0); (try clear hy1); (try clear hy2)))
       (try simp only [Act.put, List.setIfInBounds_toArray, List.set_cons_zero, List.set_cons_succ])
       go_cut [42] (fun v42 wc => ∃ (kq : Nat) (x42_16 : Bool), v42 = .bool x42_16 ∧ Aside0 (laws_FnExactSync.j0 kq x42_16 l0_0 l0_1 l0_2 t112 t115 t118 t132 t135 t138 = some true) ∧ Aside0 (kq ≤ k) ∧ Aside0 (Kd.R k80 80 wc w.heap.size (fun k_ => some k_ ≠ ((.slice Ao31 t115.length co31) : Value).ownBlock ∧ some k_ ≠ ((.slice Ao36 t122.length co36) : Value).ownBlock ∧ some k_ ≠ ((.slice Ao40 t125.length co40) : Value).ownBlock ∧ some k_ ≠ ((.slice Ao44 t132.length co44) : Value).ownBlock ∧ some k_ ≠ ((.slice Ao49 t135.length co49) : Value).ownBlock) (.slice Ao28 t112.length co28) t112) ∧ Aside0 (Kd.R k80 80 wc w.heap.size (fun k_ => some k_ ≠ ((.slice Ao28 t112.length co28) : Value).ownBlock ∧ some k_ ≠ ((.slice Ao36 t122.length co36) : Value).ownBlock ∧ some k_ ≠ ((.slice Ao40 t125.length co40) : Value).ownBlock ∧ some k_ ≠ ((.slice Ao44 t132.length co44) : Value).ownBlock ∧ some k_ ≠ ((.slice Ao49 t135.length co49) : Value).ownBlock) (.slice Ao31 t115.length co31) t115) ∧ Aside0 (Kd.R k73 73 wc w.heap.size (fun k_ => some k_ ≠ ((.slice Ao41 t128.length co41) : Value).ownBlock ∧ some k_ ≠ ((.slice Ao50 t138.length co50) : Value).ownBlock) (.slice Ao32 t118.length co32) t118) ∧ Aside0 (Kd.R k80 80 wc w.heap.size (fun k_ => some k_ ≠ ((.slice Ao28 t112.length co28) : Value).ownBlock ∧ some k_ ≠ ((.slice Ao31 t115.length co31) : Value).ownBlock ∧ some k_ ≠ ((.slice Ao40 t125.length co40) : Value).ownBlock ∧ some k_ ≠ ((.slice Ao44 t132.length co44) : Value).ownBlock ∧ some k_ ≠ ((.slice Ao49 t135.length co49) : Value).ownBlock) (.slice Ao36 t122.length co36) t154) ∧ Aside0 (Kd.R k80 80 wc w.heap.size (fun k_ => some k_ ≠ ((.slice Ao28 t112.length co28) : Value).ownBlock ∧ some k_ ≠ ((.slice Ao31 t115.length co31) : Value).ownBlock ∧ some k_ ≠ ((.slice Ao36 t122.length co36) : Value).ownBlock ∧ some k_ ≠ ((.slice Ao44 t132.length co44) : Value).ownBlock ∧ some k_ ≠ ((.slice Ao49 t135.length co49) : Value).ownBlock) (.slice Ao40 t125.length co40) t155) ∧ Aside0 (Kd.R k73 73 wc w.heap.size (fun k_ => some k_ ≠ ((.slice Ao32 t118.length co32) : Value).ownBlock ∧ some k_ ≠ ((.slice Ao50 t138.length co50) : Value).ownBlock) (.slice Ao41 t128.length co41) t156) ∧ Aside0 (Kd.R k80 80 wc w.heap.size (fun k_ => some k_ ≠ ((.slice Ao28 t112.length co28) : Value).ownBlock ∧ some k_ ≠ ((.slice Ao31 t115.length co31) : Value).ownBlock ∧ some k_ ≠ ((.slice Ao36 t122.length co36) : Value).ownBlock ∧ some k_ ≠ ((.slice Ao40 t125.length co40) : Value).ownBlock ∧ some k_ ≠ ((.slice Ao49 t135.length co49) : Value).ownBlock) (.slice Ao44 t132.length co44) t132) ∧ Aside0 (Kd.R k80 80 wc w.heap.size (fun k_ => some k_ ≠ ((.slice Ao28 t112.length co28) : Value).ownBlock ∧ some k_ ≠ ((.slice Ao31 t115.length co31) : Value).ownBlock ∧ some k_ ≠ ((.slice Ao36 t122.length co36) : Value).ownBlock ∧ some k_ ≠ ((.slice Ao40 t125.length co40) : Value).ownBlock ∧ some k_ ≠ ((.slice Ao44 t132.length co44) : Value).ownBlock) (.slice Ao49 t135.length co49) t135) ∧ Aside0 (Kd.R k73 73 wc w.heap.size (fun k_ => some k_ ≠ ((.slice Ao32 t118.length co32) : Value).ownBlock ∧ some k_ ≠ ((.slice Ao41 t128.length co41) : Value).ownBlock) (.slice Ao50 t138.length co50) t138) ∧ Aside0 (wc.heap[gb101]? = some (.cells #[(.slice A0_0 l0_0.length c0_0), (.slice A0_1 l0_1.length c0_1), (.slice A0_2 l0_2.length c0_2)] 25 (0, 0))) ∧ Aside0 (wc.heap[gb121]? = some (.cells #[(.slice Ao28 t112.length co28), (.slice Ao31 t115.length co31), (.slice Ao32 t118.length co32)] 31 (0, 0))) ∧ Aside0 (wc.heap[gb131]? = some (.cells #[(.slice Ao36 t122.length co36), (.slice Ao40 t125.length co40), (.slice Ao41 t128.length co41)] 31 (0, 0))) ∧ Aside0 (wc.heap[gb141]? = some (.cells #[(.slice Ao44 t132.length co44), (.slice Ao49 t135.length co49), (.slice Ao50 t138.length co50)] 31 (0, 0))) ∧ Aside0 (Below w.heap.size w wc))
       case first =>
         have H := HC17.out
         clear HC17
         by_cases c61 : t153 < 0
         · rw [if_pos c61] at H
           have c61b0 : decide (t153 < 0) = true := decide_eq_true c61
           clear c61
           (first | rw [c61b0] | (simp only [i64_w, i32_w]; rw [c61b0]) | skip)
           have H' := Aside0.mk H
           clear H
           go_wp2
           go_meet
           case rel => exact ⟨_, (true), (by first | rfl | (simp; done) | (simp [*]; done)), H', ⟨by first | omega | exact Nat.le_refl _⟩, ⟨by (with_reducible repeat (first | apply Kd.R_alloc | apply Kd.R_drewN | apply Kd.R_drew)); exact Kd.R_mono HO114.out (fun _ hk => ⟨hk.2.2.1, ⟨hk.2.2.2.1, ⟨hk.2.2.2.2.1, ⟨hk.2.2.2.2.2.1, hk.2.2.2.2.2.2.1⟩⟩⟩⟩)⟩, ⟨by (with_reducible repeat (first | apply Kd.R_alloc | apply Kd.R_drewN | apply Kd.R_drew)); exact Kd.R_mono HO117.out (fun _ hk => ⟨hk.2.2.1, ⟨hk.2.2.2.1, ⟨hk.2.2.2.2.1, ⟨hk.2.2.2.2.2.1, hk.2.2.2.2.2.2.1⟩⟩⟩⟩)⟩, ⟨by (with_reducible repeat (first | apply Kd.R_alloc | apply Kd.R_drewN | apply Kd.R_drew)); exact Kd.R_mono HO120.out (fun _ hk => ⟨hk.2.1, hk.2.2.1⟩)⟩, ⟨by (with_reducible repeat (first | apply Kd.R_alloc | apply Kd.R_drewN | apply Kd.R_drew)); exact Kd.R_mono HO124.out (fun _ hk => ⟨hk.1.1.1.1.1.2, ⟨hk.1.1.1.1.2, ⟨hk.1.1.1.1.1.1.1.1, ⟨hk.1.1.1.2, hk.1.1.2⟩⟩⟩⟩)⟩, ⟨by (with_reducible repeat (first | apply Kd.R_alloc | apply Kd.R_drewN | apply Kd.R_drew)); exact Kd.R_mono HO127.out (fun _ hk => ⟨hk.1.1.1.1.1.2, ⟨hk.1.1.1.1.2, ⟨hk.1.1.1.1.1.1.1.1, ⟨hk.1.1.1.2, hk.1.1.2⟩⟩⟩⟩)⟩, ⟨by (with_reducible repeat (first | apply Kd.R_alloc | apply Kd.R_drewN | apply Kd.R_drew)); exact Kd.R_mono HO130.out (fun _ hk => ⟨hk.1.1.2, hk.1.2⟩)⟩, ⟨by (with_reducible repeat (first | apply Kd.R_alloc | apply Kd.R_drewN | apply Kd.R_drew)); exact Kd.R_mono HO134.out (fun _ hk => ⟨hk.2.2.1, ⟨hk.2.2.2.1, ⟨hk.2.2.2.2.1, ⟨hk.2.2.2.2.2.1, hk.2.2.2.2.2.2.1⟩⟩⟩⟩)⟩, ⟨by (with_reducible repeat (first | apply Kd.R_alloc | apply Kd.R_drewN | apply Kd.R_drew)); exact Kd.R_mono HO137.out (fun _ hk => ⟨hk.2.2.1, ⟨hk.2.2.2.1, ⟨hk.2.2.2.2.1, ⟨hk.2.2.2.2.2.1, hk.2.2.2.2.2.2.1⟩⟩⟩⟩)⟩, ⟨by (with_reducible repeat (first | apply Kd.R_alloc | apply Kd.R_drewN | apply Kd.R_drew)); exact Kd.R_mono HO140.out (fun _ hk => ⟨hk.2.1, hk.2.2.1⟩)⟩, ⟨by (with_reducible repeat (first | refine qah ?_ _ | refine qai ?_ | refine qag ?_ _)); exact BK101.out⟩, ⟨by (with_reducible repeat (first | refine qah ?_ _ | refine qai ?_ | refine qag ?_ _)); exact BK121.out⟩, ⟨by (with_reducible repeat (first | refine qah ?_ _ | refine qai ?_ | refine qag ?_ _)); exact BK131.out⟩, ⟨by (with_reducible repeat (first | refine qah ?_ _ | refine qai ?_ | refine qag ?_ _)); exact BK141.out⟩, ⟨by repeat (first | (with_reducible first | exact HB.out | apply qab | apply qaa | apply qac | refine qae ?_ GE101.out | refine qae ?_ GE121.out | refine qae ?_ GE131.out | refine qae ?_ GE141.out) | exact HB.out)⟩⟩
         · rw [if_neg c61] at H
           have c61b0 : decide (t153 < 0) = false := decide_eq_false c61
           clear c61
           (first | rw [c61b0] | (simp only [i64_w, i32_w]; rw [c61b0]) | skip)
           replace H := Option.bind_eq_some_iff.mp H
           obtain ⟨t157, A620, H⟩ := H
           replace H : (laws_FnExactSync.j0 k (!t157) l0_0 l0_1 l0_2 t112 t115 t118 t132 t135 t138) = some true := H
           have A62 := Aside0.mk A620
           clear A620
           have H' := Aside0.mk H
           clear H
           have hnb63 := NB141_101.out
           have hnc63 := NB101_141.out
           have hnb64 := NB141_121.out
           have hnc64 := NB121_141.out
           have hnb65 := NB141_131.out
           have hnc65 := NB131_141.out
           have hcz66_0 : w60.cell? ⟨gb141, 0, none⟩ = some (.slice Ao44 t132.length co44) := (qaf BK141.out 0).trans rfl
           have hcz66_1 : w60.cell? ⟨gb141, 1, none⟩ = some (.slice Ao49 t135.length co49) := (qaf BK141.out 1).trans rfl
           have hcz66_2 : w60.cell? ⟨gb141, 2, none⟩ = some (.slice Ao50 t138.length co50) := (qaf BK141.out 2).trans rfl
           have hfz66_0 := qad BK141.out 0
           have hfz66_1 := qad BK141.out 1
           have hfz66_2 := qad BK141.out 2
           have hnb67 := NB121_101.out
           have hnc67 := NB101_121.out
           have hnb68 := NB121_131.out
           have hnc68 := NB131_121.out
           have hcz69_0 : w60.cell? ⟨gb121, 0, none⟩ = some (.slice Ao28 t112.length co28) := (qaf BK121.out 0).trans rfl
           have hcz69_1 : w60.cell? ⟨gb121, 1, none⟩ = some (.slice Ao31 t115.length co31) := (qaf BK121.out 1).trans rfl
           have hcz69_2 : w60.cell? ⟨gb121, 2, none⟩ = some (.slice Ao32 t118.length co32) := (qaf BK121.out 2).trans rfl
           have hfz69_0 := qad BK121.out 0
           have hfz69_1 := qad BK121.out 1
           have hfz69_2 := qad BK121.out 2
           go_wp2_with (first | (go_at_call 16; (with_reducible refine (laws_eqDisk.calls k _ _ t132 _ _ t135 _ _ t138 _ _ t112 _ _ t115 _ _ t118 t157 _ ?side1 ?side2 ?side3 ?side4 ?side5 ?side6 ?side7 ?side8 ?side9 ?side10 ?side11 ?side12 A62.out).mono ?_); (case side1 => repeat (first | exact (Kd.R_reads' HO134.out).2.2 | (with_reducible refine Kd.C_alloc ?_ _) | (with_reducible refine Kd.C_drewN ?_ _) | (with_reducible refine Kd.C_drew ?_))); (case side2 => exact (Kd.R_reads' HO134.out).2.1); (case side3 => repeat (first | exact (Kd.R_reads' HO137.out).2.2 | (with_reducible refine Kd.C_alloc ?_ _) | (with_reducible refine Kd.C_drewN ?_ _) | (with_reducible refine Kd.C_drew ?_))); (case side4 => exact (Kd.R_reads' HO137.out).2.1); (case side5 => repeat (first | exact (Kd.R_reads' HO140.out).2.2 | (with_reducible refine Kd.C_alloc ?_ _) | (with_reducible refine Kd.C_drewN ?_ _) | (with_reducible refine Kd.C_drew ?_))); (case side6 => exact (Kd.R_reads' HO140.out).2.1); (case side7 => repeat (first | exact (Kd.R_reads' HO114.out).2.2 | (with_reducible refine Kd.C_alloc ?_ _) | (with_reducible refine Kd.C_drewN ?_ _) | (with_reducible refine Kd.C_drew ?_))); (case side8 => exact (Kd.R_reads' HO114.out).2.1); (case side9 => repeat (first | exact (Kd.R_reads' HO117.out).2.2 | (with_reducible refine Kd.C_alloc ?_ _) | (with_reducible refine Kd.C_drewN ?_ _) | (with_reducible refine Kd.C_drew ?_))); (case side10 => exact (Kd.R_reads' HO117.out).2.1); (case side11 => repeat (first | exact (Kd.R_reads' HO120.out).2.2 | (with_reducible refine Kd.C_alloc ?_ _) | (with_reducible refine Kd.C_drewN ?_ _) | (with_reducible refine Kd.C_drew ?_))); (case side12 => exact (Kd.R_reads' HO120.out).2.1); rintro e w70 ⟨rfl, hb⟩; have n0_ := Aside0.mk (Kd.R_below (by (with_reducible repeat (first | apply Kd.R_alloc | apply Kd.R_drewN | apply Kd.R_drew)); exact HO105.out) hb); have n1_ := Aside0.mk (Kd.R_below (by (with_reducible repeat (first | apply Kd.R_alloc | apply Kd.R_drewN | apply Kd.R_drew)); exact HO108.out) hb); have n2_ := Aside0.mk (Kd.R_below (by (with_reducible repeat (first | apply Kd.R_alloc | apply Kd.R_drewN | apply Kd.R_drew)); exact HO111.out) hb); have n3_ := Aside0.mk (Kd.R_below (by (with_reducible repeat (first | apply Kd.R_alloc | apply Kd.R_drewN | apply Kd.R_drew)); exact HO114.out) hb); have n4_ := Aside0.mk (Kd.R_below (by (with_reducible repeat (first | apply Kd.R_alloc | apply Kd.R_drewN | apply Kd.R_drew)); exact HO117.out) hb); have n5_ := Aside0.mk (Kd.R_below (by (with_reducible repeat (first | apply Kd.R_alloc | apply Kd.R_drewN | apply Kd.R_drew)); exact HO120.out) hb); have n6_ := Aside0.mk (Kd.R_below (by (with_reducible repeat (first | apply Kd.R_alloc | apply Kd.R_drewN | apply Kd.R_drew)); exact HO124.out) hb); have n7_ := Aside0.mk (Kd.R_below (by (with_reducible repeat (first | apply Kd.R_alloc | apply Kd.R_drewN | apply Kd.R_drew)); exact HO127.out) hb); have n8_ := Aside0.mk (Kd.R_below (by (with_reducible repeat (first | apply Kd.R_alloc | apply Kd.R_drewN | apply Kd.R_drew)); exact HO130.out) hb); have n9_ := Aside0.mk (Kd.R_below (by (with_reducible repeat (first | apply Kd.R_alloc | apply Kd.R_drewN | apply Kd.R_drew)); exact HO134.out) hb); have n10_ := Aside0.mk (Kd.R_below (by (with_reducible repeat (first | apply Kd.R_alloc | apply Kd.R_drewN | apply Kd.R_drew)); exact HO137.out) hb); have n11_ := Aside0.mk (Kd.R_below (by (with_reducible repeat (first | apply Kd.R_alloc | apply Kd.R_drewN | apply Kd.R_drew)); exact HO140.out) hb); have n12_ := Aside0.mk (Kd.R_below (by (with_reducible repeat (first | apply Kd.R_alloc | apply Kd.R_drewN | apply Kd.R_drew)); exact HO145.out) hb); have n13_ := Aside0.mk (Kd.R_below (by (with_reducible repeat (first | apply Kd.R_alloc | apply Kd.R_drewN | apply Kd.R_drew)); exact HO148.out) hb); have n14_ := Aside0.mk (Kd.R_below (by (with_reducible repeat (first | apply Kd.R_alloc | apply Kd.R_drewN | apply Kd.R_drew)); exact HO151.out) hb); have n15_ := Aside0.mk (qao (g := gb101) (o := .cells #[.slice A0_0 l0_0.length c0_0, .slice A0_1 l0_1.length c0_1, .slice A0_2 l0_2.length c0_2] 25 (0, 0)) (by (with_reducible repeat (first | refine qah ?_ _ | refine qai ?_ | refine qag ?_ _)); exact BK101.out) hb); have n16_ := Aside0.mk (qao (g := gb121) (o := .cells #[.slice Ao28 t112.length co28, .slice Ao31 t115.length co31, .slice Ao32 t118.length co32] 31 (0, 0)) (by (with_reducible repeat (first | refine qah ?_ _ | refine qai ?_ | refine qag ?_ _)); exact BK121.out) hb); have n17_ := Aside0.mk (qao (g := gb131) (o := .cells #[.slice Ao36 t122.length co36, .slice Ao40 t125.length co40, .slice Ao41 t128.length co41] 31 (0, 0)) (by (with_reducible repeat (first | refine qah ?_ _ | refine qai ?_ | refine qag ?_ _)); exact BK131.out) hb); have n18_ := Aside0.mk (qao (g := gb141) (o := .cells #[.slice Ao44 t132.length co44, .slice Ao49 t135.length co49, .slice Ao50 t138.length co50] 31 (0, 0)) (by (with_reducible repeat (first | refine qah ?_ _ | refine qai ?_ | refine qag ?_ _)); exact BK141.out) hb); have n19_ := Aside0.mk (qak (by repeat (first | (with_reducible first | exact HB.out | apply qab | apply qaa | apply qac | refine qae ?_ GE101.out | refine qae ?_ GE121.out | refine qae ?_ GE131.out | refine qae ?_ GE141.out) | exact HB.out)) hb); clear HO105; clear HO108; clear HO111; clear HO114; clear HO117; clear HO120; clear HO124; clear HO127; clear HO130; clear HO134; clear HO137; clear HO140; clear HO145; clear HO148; clear HO151; clear BK101; clear BK121; clear BK131; clear BK141; clear HB; have HO105 := n0_; have HO108 := n1_; have HO111 := n2_; have HO114 := n3_; have HO117 := n4_; have HO120 := n5_; have HO124 := n6_; have HO127 := n7_; have HO130 := n8_; have HO134 := n9_; have HO137 := n10_; have HO140 := n11_; have HO145 := n12_; have HO148 := n13_; have HO151 := n14_; have BK101 := n15_; have BK121 := n16_; have BK131 := n17_; have BK141 := n18_; have HB := n19_; clear n0_ n1_ n2_ n3_ n4_ n5_ n6_ n7_ n8_ n9_ n10_ n11_ n12_ n13_ n14_ n15_ n16_ n17_ n18_ n19_; (try clear hb); (try clear hb2); (try clear hk); (try clear hi)))
           go_meet
           case rel => exact ⟨_, (!t157), (by first | rfl | (simp; done) | (simp [*]; done)), H', ⟨by first | omega | exact Nat.le_refl _⟩, ⟨by (with_reducible repeat (first | apply Kd.R_alloc | apply Kd.R_drewN | apply Kd.R_drew)); exact Kd.R_mono HO114.out (fun _ hk => ⟨hk.2.2.1, ⟨hk.2.2.2.1, ⟨hk.2.2.2.2.1, ⟨hk.2.2.2.2.2.1, hk.2.2.2.2.2.2.1⟩⟩⟩⟩)⟩, ⟨by (with_reducible repeat (first | apply Kd.R_alloc | apply Kd.R_drewN | apply Kd.R_drew)); exact Kd.R_mono HO117.out (fun _ hk => ⟨hk.2.2.1, ⟨hk.2.2.2.1, ⟨hk.2.2.2.2.1, ⟨hk.2.2.2.2.2.1, hk.2.2.2.2.2.2.1⟩⟩⟩⟩)⟩, ⟨by (with_reducible repeat (first | apply Kd.R_alloc | apply Kd.R_drewN | apply Kd.R_drew)); exact Kd.R_mono HO120.out (fun _ hk => ⟨hk.2.1, hk.2.2.1⟩)⟩, ⟨by (with_reducible repeat (first | apply Kd.R_alloc | apply Kd.R_drewN | apply Kd.R_drew)); exact Kd.R_mono HO124.out (fun _ hk => ⟨hk.1.1.1.1.1.2, ⟨hk.1.1.1.1.2, ⟨hk.1.1.1.1.1.1.1.1, ⟨hk.1.1.1.2, hk.1.1.2⟩⟩⟩⟩)⟩, ⟨by (with_reducible repeat (first | apply Kd.R_alloc | apply Kd.R_drewN | apply Kd.R_drew)); exact Kd.R_mono HO127.out (fun _ hk => ⟨hk.1.1.1.1.1.2, ⟨hk.1.1.1.1.2, ⟨hk.1.1.1.1.1.1.1.1, ⟨hk.1.1.1.2, hk.1.1.2⟩⟩⟩⟩)⟩, ⟨by (with_reducible repeat (first | apply Kd.R_alloc | apply Kd.R_drewN | apply Kd.R_drew)); exact Kd.R_mono HO130.out (fun _ hk => ⟨hk.1.1.2, hk.1.2⟩)⟩, ⟨by (with_reducible repeat (first | apply Kd.R_alloc | apply Kd.R_drewN | apply Kd.R_drew)); exact Kd.R_mono HO134.out (fun _ hk => ⟨hk.2.2.1, ⟨hk.2.2.2.1, ⟨hk.2.2.2.2.1, ⟨hk.2.2.2.2.2.1, hk.2.2.2.2.2.2.1⟩⟩⟩⟩)⟩, ⟨by (with_reducible repeat (first | apply Kd.R_alloc | apply Kd.R_drewN | apply Kd.R_drew)); exact Kd.R_mono HO137.out (fun _ hk => ⟨hk.2.2.1, ⟨hk.2.2.2.1, ⟨hk.2.2.2.2.1, ⟨hk.2.2.2.2.2.1, hk.2.2.2.2.2.2.1⟩⟩⟩⟩)⟩, ⟨by (with_reducible repeat (first | apply Kd.R_alloc | apply Kd.R_drewN | apply Kd.R_drew)); exact Kd.R_mono HO140.out (fun _ hk => ⟨hk.2.1, hk.2.2.1⟩)⟩, ⟨by (with_reducible repeat (first | refine qah ?_ _ | refine qai ?_ | refine qag ?_ _)); exact BK101.out⟩, ⟨by (with_reducible repeat (first | refine qah ?_ _ | refine qai ?_ | refine qag ?_ _)); exact BK121.out⟩, ⟨by (with_reducible repeat (first | refine qah ?_ _ | refine qai ?_ | refine qag ?_ _)); exact BK131.out⟩, ⟨by (with_reducible repeat (first | refine qah ?_ _ | refine qai ?_ | refine qag ?_ _)); exact BK141.out⟩, ⟨by repeat (first | (with_reducible first | exact HB.out | apply qab | apply qaa | apply qac | refine qae ?_ GE101.out | refine qae ?_ GE121.out | refine qae ?_ GE131.out | refine qae ?_ GE141.out) | exact HB.out)⟩⟩
       case rest =>
         clear HC17
         try clear c1
         try clear c2
         try clear p2
         try clear c3
         try clear c3b0
         try clear c4
         try clear c6
         try clear c7
         try clear c12
         try clear c14
         try clear c15
         try clear c16
         try clear c24
         try clear c28
         try clear c29
         try clear c37
         try clear c38
         try clear c45
         try clear c46
         try clear c47
         try clear c61
         try clear c61b0
         try clear c63
         try clear c64
         try clear c65
         try clear c67
         try clear c68
         try clear hcz19_0
         try clear hcz19_1
         try clear hcz19_2
         try clear hcz21_0
         try clear hcz21_1
         try clear hcz21_2
         try clear hcz30_0
         try clear hcz30_1
         try clear hcz30_2
         try clear hcz33_0
         try clear hcz33_1
         try clear hcz33_2
         try clear hcz39_0
         try clear hcz39_1
         try clear hcz39_2
         try clear hcz48_0
         try clear hcz48_1
         try clear hcz48_2
         try clear hcz51_0
         try clear hcz51_1
         try clear hcz51_2
         try clear hcz59_0
         try clear hcz59_1
         try clear hcz59_2
         try clear hcz5_0
         try clear hcz5_1
         try clear hcz5_2
         try clear hcz66_0
         try clear hcz66_1
         try clear hcz66_2
         try clear hcz69_0
         try clear hcz69_1
         try clear hcz69_2
         try clear hfz19_0
         try clear hfz19_1
         try clear hfz19_2
         try clear hfz21_0
         try clear hfz21_1
         try clear hfz21_2
         try clear hfz30_0
         try clear hfz30_1
         try clear hfz30_2
         try clear hfz33_0
         try clear hfz33_1
         try clear hfz33_2
         try clear hfz39_0
         try clear hfz39_1
         try clear hfz39_2
         try clear hfz48_0
         try clear hfz48_1
         try clear hfz48_2
         try clear hfz51_0
         try clear hfz51_1
         try clear hfz51_2
         try clear hfz59_0
         try clear hfz59_1
         try clear hfz59_2
         try clear hfz5_0
         try clear hfz5_1
         try clear hfz5_2
         try clear hfz66_0
         try clear hfz66_1
         try clear hfz66_2
         try clear hfz69_0
         try clear hfz69_1
         try clear hfz69_2
         obtain ⟨kq, x42_16, rfl, HA, HJ16, HO_122000, HO_122001, HO_122002, HO_132000, HO_132001, HO_132002, HO_142000, HO_142001, HO_142002, BK101, BK121, BK131, BK141, HB⟩ := hcut
         have hl132000_16 := (Kd.R_reads' HO_132000.out).1
         rw [hl132000_16] at HO_132000
         (try simp only [hl132000_16])
         (try simp only [hl132000_16] at BK101)
         (try simp only [hl132000_16] at BK121)
         (try simp only [hl132000_16] at BK131)
         (try simp only [hl132000_16] at BK141)
         (try simp only [hl132000_16] at HO_122000)
         (try simp only [hl132000_16] at HO_122001)
         (try simp only [hl132000_16] at HO_122002)
         (try simp only [hl132000_16] at HO_132001)
         (try simp only [hl132000_16] at HO_132002)
         (try simp only [hl132000_16] at HO_142000)
         (try simp only [hl132000_16] at HO_142001)
         (try simp only [hl132000_16] at HO_142002)
         have hl132001_16 := (Kd.R_reads' HO_132001.out).1
         rw [hl132001_16] at HO_132001
         (try simp only [hl132001_16])
         (try simp only [hl132001_16] at BK101)
         (try simp only [hl132001_16] at BK121)
         (try simp only [hl132001_16] at BK131)
         (try simp only [hl132001_16] at BK141)
         (try simp only [hl132001_16] at HO_122000)
         (try simp only [hl132001_16] at HO_122001)
         (try simp only [hl132001_16] at HO_122002)
         (try simp only [hl132001_16] at HO_132000)
         (try simp only [hl132001_16] at HO_132002)
         (try simp only [hl132001_16] at HO_142000)
         (try simp only [hl132001_16] at HO_142001)
         (try simp only [hl132001_16] at HO_142002)
         have hl132002_16 := (Kd.R_reads' HO_132002.out).1
         rw [hl132002_16] at HO_132002
         (try simp only [hl132002_16])
         (try simp only [hl132002_16] at BK101)
         (try simp only [hl132002_16] at BK121)
         (try simp only [hl132002_16] at BK131)
         (try simp only [hl132002_16] at BK141)
         (try simp only [hl132002_16] at HO_122000)
         (try simp only [hl132002_16] at HO_122001)
         (try simp only [hl132002_16] at HO_122002)
         (try simp only [hl132002_16] at HO_132000)
         (try simp only [hl132002_16] at HO_132001)
         (try simp only [hl132002_16] at HO_142000)
         (try simp only [hl132002_16] at HO_142001)
         (try simp only [hl132002_16] at HO_142002)
         cases kq with
         | zero => exact absurd HA.out (by simp [laws_FnExactSync.j0])
         | succ kj16 =>
           have H := HA.out
           clear HA
           simp only [laws_FnExactSync.j0] at H
           by_cases c71 : x42_16 = true
           · subst c71
             have H1 : (some false) = some true := by first | (with_reducible rfl) | (rw [if_pos rfl] at H; exact H)
             clear H
             have H := H1
             clear H1
             exact absurd (Option.some.inj H) (by decide)
           · replace c71 := Bool.eq_false_iff.mpr c71
             subst c71
             have H1 : ((laws_markDisk.f kj16 t132 t135 t138 1).bind fun bt158 => ((laws_heldDisk.f kj16 bt158.2.1 bt158.2.2.1 bt158.2.2.2 1).bind fun t162 => (if t162 < 0 then (some false) else (if t162 = bt158.1 then ((laws_toDisk.f kj16 l0_0 l0_1 l0_2).bind fun bt163 => ((impl_Sync.f bt163.1 bt163.2.1 bt163.2.2).bind fun bt172 => ((laws_eqDisk.f kj16 bt172.1 bt172.2.1 bt172.2.2 t112 t115 t118).bind fun t182 => (if t182 = true then ((laws_heldDisk.f kj16 bt158.2.1 bt158.2.2.1 bt158.2.2.2 1).bind fun t183 => (if t183 < 0 then (some false) else (if t183 = bt158.1 then (some true) else (some false)))) else (some false))))) else (some false))))) = some true := by rw [if_neg (show ¬ (false = true) by decide)] at H; exact H
             clear H
             have H := H1
             clear H1
             replace H := Option.bind_eq_some_iff.mp H
             obtain ⟨⟨t158, t159, t160, t161⟩, A720, H⟩ := H
             replace H : ((laws_heldDisk.f kj16 t159 t160 t161 1).bind fun t162 => (if t162 < 0 then (some false) else (if t162 = t158 then ((laws_toDisk.f kj16 l0_0 l0_1 l0_2).bind fun bt163 => ((impl_Sync.f bt163.1 bt163.2.1 bt163.2.2).bind fun bt172 => ((laws_eqDisk.f kj16 bt172.1 bt172.2.1 bt172.2.2 t112 t115 t118).bind fun t182 => (if t182 = true then ((laws_heldDisk.f kj16 t159 t160 t161 1).bind fun t183 => (if t183 < 0 then (some false) else (if t183 = t158 then (some true) else (some false)))) else (some false))))) else (some false)))) = some true := H
             have A72 := Aside0.mk A720
             clear A720
             replace H := Option.bind_eq_some_iff.mp H
             obtain ⟨t162, A730, H⟩ := H
             replace H : (if t162 < 0 then (some false) else (if t162 = t158 then ((laws_toDisk.f kj16 l0_0 l0_1 l0_2).bind fun bt163 => ((impl_Sync.f bt163.1 bt163.2.1 bt163.2.2).bind fun bt172 => ((laws_eqDisk.f kj16 bt172.1 bt172.2.1 bt172.2.2 t112 t115 t118).bind fun t182 => (if t182 = true then ((laws_heldDisk.f kj16 t159 t160 t161 1).bind fun t183 => (if t183 < 0 then (some false) else (if t183 = t158 then (some true) else (some false)))) else (some false))))) else (some false))) = some true := H
             have A73 := Aside0.mk A730
             clear A730
             by_cases c74 : t162 < 0
             · rw [if_pos c74] at H
               have c74b0 : decide (t162 < 0) = true := decide_eq_true c74
               clear c74
               exact absurd (Option.some.inj H) (by decide)
             · rw [if_neg c74] at H
               have c74b0 : decide (t162 < 0) = false := decide_eq_false c74
               clear c74
               by_cases c75 : t162 = t158
               · rw [if_pos c75] at H
                 have c75b0 : (t162 == t158) = true := beq_iff_eq.mpr c75
                 have c75b1 : (t162 != t158) = false := bne_eq_false_iff_eq.mpr c75
                 clear c75
                 replace H := Option.bind_eq_some_iff.mp H
                 obtain ⟨⟨t163, t166, t169⟩, A760, H⟩ := H
                 replace H : ((impl_Sync.f t163 t166 t169).bind fun bt172 => ((laws_eqDisk.f kj16 bt172.1 bt172.2.1 bt172.2.2 t112 t115 t118).bind fun t182 => (if t182 = true then ((laws_heldDisk.f kj16 t159 t160 t161 1).bind fun t183 => (if t183 < 0 then (some false) else (if t183 = t158 then (some true) else (some false)))) else (some false)))) = some true := H
                 have A76 := Aside0.mk A760
                 clear A760
                 replace H := Option.bind_eq_some_iff.mp H
                 obtain ⟨⟨t172, t175, t178⟩, A770, H⟩ := H
                 replace H : ((laws_eqDisk.f kj16 t172 t175 t178 t112 t115 t118).bind fun t182 => (if t182 = true then ((laws_heldDisk.f kj16 t159 t160 t161 1).bind fun t183 => (if t183 < 0 then (some false) else (if t183 = t158 then (some true) else (some false)))) else (some false))) = some true := H
                 have A77 := Aside0.mk A770
                 clear A770
                 replace H := Option.bind_eq_some_iff.mp H
                 obtain ⟨t182, A780, H⟩ := H
                 replace H : (if t182 = true then ((laws_heldDisk.f kj16 t159 t160 t161 1).bind fun t183 => (if t183 < 0 then (some false) else (if t183 = t158 then (some true) else (some false)))) else (some false)) = some true := H
                 have A78 := Aside0.mk A780
                 clear A780
                 by_cases c79 : t182 = true
                 · subst c79
                   have H1 : ((laws_heldDisk.f kj16 t159 t160 t161 1).bind fun t183 => (if t183 < 0 then (some false) else (if t183 = t158 then (some true) else (some false)))) = some true := by first | (with_reducible rfl) | (rw [if_pos rfl] at H; exact H)
                   clear H
                   have H := H1
                   clear H1
                   replace H := Option.bind_eq_some_iff.mp H
                   obtain ⟨t183, A800, H⟩ := H
                   replace H : (if t183 < 0 then (some false) else (if t183 = t158 then (some true) else (some false))) = some true := H
                   have A80 := Aside0.mk A800
                   clear A800
                   by_cases c81 : t183 < 0
                   · rw [if_pos c81] at H
                     have c81b0 : decide (t183 < 0) = true := decide_eq_true c81
                     clear c81
                     exact absurd (Option.some.inj H) (by decide)
                   · rw [if_neg c81] at H
                     have c81b0 : decide (t183 < 0) = false := decide_eq_false c81
                     clear c81
                     by_cases c82 : t183 = t158
                     · rw [if_pos c82] at H
                       have c82b0 : (t183 == t158) = true := beq_iff_eq.mpr c82
                       have c82b1 : (t183 != t158) = false := bne_eq_false_iff_eq.mpr c82
                       clear c82
                       clear H
                       have hnb83 := NB141_101.out
                       have hnc83 := NB101_141.out
                       have hnb84 := NB141_121.out
                       have hnc84 := NB121_141.out
                       have hnb85 := NB141_131.out
                       have hnc85 := NB131_141.out
                       have hcz86_0 : wc.cell? ⟨gb141, 0, none⟩ = some (.slice Ao44 t132.length co44) := (qaf BK141.out 0).trans rfl
                       have hcz86_1 : wc.cell? ⟨gb141, 1, none⟩ = some (.slice Ao49 t135.length co49) := (qaf BK141.out 1).trans rfl
                       have hcz86_2 : wc.cell? ⟨gb141, 2, none⟩ = some (.slice Ao50 t138.length co50) := (qaf BK141.out 2).trans rfl
                       have hfz86_0 := qad BK141.out 0
                       have hfz86_1 := qad BK141.out 1
                       have hfz86_2 := qad BK141.out 2
                       go_wp2_with (first | ((with_reducible refine qaq (f := 29) rfl ?_); refine qav (some 45) rfl rfl Try.func29 (by kernel_rfl) rfl #[.agg #[.slice Ao44 t132.length co44, .slice Ao49 t135.length co49, .slice Ao50 t138.length co50], .int .i64 1] rfl (by (try simp only [List.map_toArray, List.map_cons, List.map_nil]); first | done | rfl | (simp only [List.length_drop, List.length_take]; rfl)) ?_; (with_reducible refine (laws_markDisk.calls kj16 (fun k_ => some k_ = (.slice Ao44 t132.length co44 : Value).ownBlock) (.slice Ao44 t132.length co44) t132 (fun k_ => some k_ = (.slice Ao49 t135.length co49 : Value).ownBlock) (.slice Ao49 t135.length co49) t135 (fun k_ => some k_ = (.slice Ao50 t138.length co50 : Value).ownBlock) (.slice Ao50 t138.length co50) t138 1 t158 t159 t160 t161 w _ ?side1 ?side2 ?side3 ?side4 ?side5 ?side6 A72.out).mono ?_); (case side1 => repeat (first | (with_reducible first | exact HB.out | apply qab | apply qaa | apply qac | refine qae ?_ GE101.out | refine qae ?_ GE121.out | refine qae ?_ GE131.out | refine qae ?_ GE141.out) | exact HB.out)); (case side2 => exact Kd.R_tight rfl HO_142000.out); (case side3 => exact fun k_ e_ => (HO_142000.out.1 k_ e_.symm).2.2.2.2); (case side4 => exact Kd.R_tight rfl HO_142001.out); (case side5 => exact fun k_ e_ => (HO_142001.out.1 k_ e_.symm).2.2.2.2); (case side6 => exact Kd.R_tight rfl HO_142002.out); rintro e w87 ⟨rfl, hy0, hy1, hy2, hb, hkp⟩; refine ⟨_, rfl, ?_⟩; have n0_ := Aside0.mk (Kd.R_mono (ok' := fun k_ => some k_ ≠ (.slice Ao31 t115.length co31 : Value).ownBlock ∧ some k_ ≠ (.slice Ao36 t154.length co36 : Value).ownBlock ∧ some k_ ≠ (.slice Ao40 t155.length co40 : Value).ownBlock ∧ some k_ ≠ (.slice Ao44 t132.length co44 : Value).ownBlock ∧ some k_ ≠ (.slice Ao49 t135.length co49 : Value).ownBlock) (Kd.R_keptB ((Kd.R_apart' HO_122000.out (Kd.R_typed HO_142002.out) (by decide))) hkp (fun k_ hk_ hs_ => Or.elim hs_ (fun e_ => (hk_.1.2.2.2.1) e_) (fun e_ => Or.elim e_ (fun e_ => (hk_.1.2.2.2.2) e_) (fun e_ => (hk_.2) e_)))) (fun k_ hk_ => ⟨hk_.1.1.1, hk_.1.1.2.1, hk_.1.1.2.2.1, hk_.1.1.2.2.2.1, hk_.1.1.2.2.2.2⟩)); have n1_ := Aside0.mk (Kd.R_mono (ok' := fun k_ => some k_ ≠ (.slice Ao28 t112.length co28 : Value).ownBlock ∧ some k_ ≠ (.slice Ao36 t154.length co36 : Value).ownBlock ∧ some k_ ≠ (.slice Ao40 t155.length co40 : Value).ownBlock ∧ some k_ ≠ (.slice Ao44 t132.length co44 : Value).ownBlock ∧ some k_ ≠ (.slice Ao49 t135.length co49 : Value).ownBlock) (Kd.R_keptB ((Kd.R_apart' HO_122001.out (Kd.R_typed HO_142002.out) (by decide))) hkp (fun k_ hk_ hs_ => Or.elim hs_ (fun e_ => (hk_.1.2.2.2.1) e_) (fun e_ => Or.elim e_ (fun e_ => (hk_.1.2.2.2.2) e_) (fun e_ => (hk_.2) e_)))) (fun k_ hk_ => ⟨hk_.1.1.1, hk_.1.1.2.1, hk_.1.1.2.2.1, hk_.1.1.2.2.2.1, hk_.1.1.2.2.2.2⟩)); have n2_ := Aside0.mk (Kd.R_mono (ok' := fun k_ => some k_ ≠ (.slice Ao41 t156.length co41 : Value).ownBlock ∧ some k_ ≠ (.slice Ao50 t138.length co50 : Value).ownBlock) (Kd.R_keptB ((Kd.R_apart' (Kd.R_apart' HO_122002.out (Kd.R_typed HO_142000.out) (by decide)) (Kd.R_typed HO_142001.out) (by decide))) hkp (fun k_ hk_ hs_ => Or.elim hs_ (fun e_ => (hk_.1.2) e_) (fun e_ => Or.elim e_ (fun e_ => (hk_.2) e_) (fun e_ => (hk_.1.1.2) e_)))) (fun k_ hk_ => ⟨hk_.1.1.1.1, hk_.1.1.1.2⟩)); have n3_ := Aside0.mk (Kd.R_mono (ok' := fun k_ => some k_ ≠ (.slice Ao28 t112.length co28 : Value).ownBlock ∧ some k_ ≠ (.slice Ao31 t115.length co31 : Value).ownBlock ∧ some k_ ≠ (.slice Ao40 t155.length co40 : Value).ownBlock ∧ some k_ ≠ (.slice Ao44 t132.length co44 : Value).ownBlock ∧ some k_ ≠ (.slice Ao49 t135.length co49 : Value).ownBlock) (Kd.R_keptB ((Kd.R_apart' HO_132000.out (Kd.R_typed HO_142002.out) (by decide))) hkp (fun k_ hk_ hs_ => Or.elim hs_ (fun e_ => (hk_.1.2.2.2.1) e_) (fun e_ => Or.elim e_ (fun e_ => (hk_.1.2.2.2.2) e_) (fun e_ => (hk_.2) e_)))) (fun k_ hk_ => ⟨hk_.1.1.1, hk_.1.1.2.1, hk_.1.1.2.2.1, hk_.1.1.2.2.2.1, hk_.1.1.2.2.2.2⟩)); have n4_ := Aside0.mk (Kd.R_mono (ok' := fun k_ => some k_ ≠ (.slice Ao28 t112.length co28 : Value).ownBlock ∧ some k_ ≠ (.slice Ao31 t115.length co31 : Value).ownBlock ∧ some k_ ≠ (.slice Ao36 t154.length co36 : Value).ownBlock ∧ some k_ ≠ (.slice Ao44 t132.length co44 : Value).ownBlock ∧ some k_ ≠ (.slice Ao49 t135.length co49 : Value).ownBlock) (Kd.R_keptB ((Kd.R_apart' HO_132001.out (Kd.R_typed HO_142002.out) (by decide))) hkp (fun k_ hk_ hs_ => Or.elim hs_ (fun e_ => (hk_.1.2.2.2.1) e_) (fun e_ => Or.elim e_ (fun e_ => (hk_.1.2.2.2.2) e_) (fun e_ => (hk_.2) e_)))) (fun k_ hk_ => ⟨hk_.1.1.1, hk_.1.1.2.1, hk_.1.1.2.2.1, hk_.1.1.2.2.2.1, hk_.1.1.2.2.2.2⟩)); have n5_ := Aside0.mk (Kd.R_mono (ok' := fun k_ => some k_ ≠ (.slice Ao32 t118.length co32 : Value).ownBlock ∧ some k_ ≠ (.slice Ao50 t138.length co50 : Value).ownBlock) (Kd.R_keptB ((Kd.R_apart' (Kd.R_apart' HO_132002.out (Kd.R_typed HO_142000.out) (by decide)) (Kd.R_typed HO_142001.out) (by decide))) hkp (fun k_ hk_ hs_ => Or.elim hs_ (fun e_ => (hk_.1.2) e_) (fun e_ => Or.elim e_ (fun e_ => (hk_.2) e_) (fun e_ => (hk_.1.1.2) e_)))) (fun k_ hk_ => ⟨hk_.1.1.1.1, hk_.1.1.1.2⟩)); have n6_ := Aside0.mk (Kd.R_reok rfl hy0 (fun k_ e_ => HO_142000.out.1 k_ e_)); have n7_ := Aside0.mk (Kd.R_reok rfl hy1 (fun k_ e_ => HO_142001.out.1 k_ e_)); have n8_ := Aside0.mk (Kd.R_reok rfl hy2 (fun k_ e_ => HO_142002.out.1 k_ e_)); have n9_ := Aside0.mk (qcd (by (with_reducible repeat (first | refine qah ?_ _ | refine qai ?_ | refine qag ?_ _)); exact BK101.out) hkp (fun hs_ => Or.elim hs_ (fun e_ => (fun e_ => (Kd.R_ne HO_142000.out BK101.out (by decide)) e_) e_) (fun e_ => Or.elim e_ (fun e_ => (fun e_ => (Kd.R_ne HO_142001.out BK101.out (by decide)) e_) e_) (fun e_ => (fun e_ => (Kd.R_ne HO_142002.out BK101.out (by decide)) e_) e_)))); have n10_ := Aside0.mk (qcd (by (with_reducible repeat (first | refine qah ?_ _ | refine qai ?_ | refine qag ?_ _)); exact BK121.out) hkp (fun hs_ => Or.elim hs_ (fun e_ => (fun e_ => (Kd.R_ne HO_142000.out BK121.out (by decide)) e_) e_) (fun e_ => Or.elim e_ (fun e_ => (fun e_ => (Kd.R_ne HO_142001.out BK121.out (by decide)) e_) e_) (fun e_ => (fun e_ => (Kd.R_ne HO_142002.out BK121.out (by decide)) e_) e_)))); have n11_ := Aside0.mk (qcd (by (with_reducible repeat (first | refine qah ?_ _ | refine qai ?_ | refine qag ?_ _)); exact BK131.out) hkp (fun hs_ => Or.elim hs_ (fun e_ => (fun e_ => (Kd.R_ne HO_142000.out BK131.out (by decide)) e_) e_) (fun e_ => Or.elim e_ (fun e_ => (fun e_ => (Kd.R_ne HO_142001.out BK131.out (by decide)) e_) e_) (fun e_ => (fun e_ => (Kd.R_ne HO_142002.out BK131.out (by decide)) e_) e_)))); have n12_ := Aside0.mk (qcd (by (with_reducible repeat (first | refine qah ?_ _ | refine qai ?_ | refine qag ?_ _)); exact BK141.out) hkp (fun hs_ => Or.elim hs_ (fun e_ => (fun e_ => (Kd.R_ne HO_142000.out BK141.out (by decide)) e_) e_) (fun e_ => Or.elim e_ (fun e_ => (fun e_ => (Kd.R_ne HO_142001.out BK141.out (by decide)) e_) e_) (fun e_ => (fun e_ => (Kd.R_ne HO_142002.out BK141.out (by decide)) e_) e_)))); have n13_ := Aside0.mk (hb); clear HO_122000; clear HO_122001; clear HO_122002; clear HO_132000; clear HO_132001; clear HO_132002; clear HO_142000; clear HO_142001; clear HO_142002; clear BK101; clear BK121; clear BK131; clear BK141; clear HB; have HO_122000 := n0_; have HO_122001 := n1_; have HO_122002 := n2_; have HO_132000 := n3_; have HO_132001 := n4_; have HO_132002 := n5_; have HO_142000 := n6_; have HO_142001 := n7_; have HO_142002 := n8_; have BK101 := n9_; have BK121 := n10_; have BK131 := n11_; have BK141 := n12_; have HB := n13_; clear n0_ n1_ n2_ n3_ n4_ n5_ n6_ n7_ n8_ n9_ n10_ n11_ n12_ n13_; (try clear hb); (try clear hkp); (try clear hy0); (try clear hy1); (try clear hy2); have hcz88_0 : w87.cell? ⟨gb141, 0, none⟩ = some (.slice Ao44 t132.length co44) := (qaf BK141.out 0).trans rfl; have hcz88_1 : w87.cell? ⟨gb141, 1, none⟩ = some (.slice Ao49 t135.length co49) := (qaf BK141.out 1).trans rfl; have hcz88_2 : w87.cell? ⟨gb141, 2, none⟩ = some (.slice Ao50 t138.length co50) := (qaf BK141.out 2).trans rfl; have hfz88_0 := qad BK141.out 0; have hfz88_1 := qad BK141.out 1; have hfz88_2 := qad BK141.out 2) | ((with_reducible refine qaq (f := 30) rfl ?_); refine qav (some 48) rfl rfl Try.func30 (by kernel_rfl) rfl #[.agg #[.slice Ao44 t159.length co44, .slice Ao49 t160.length co49, .slice Ao50 t161.length co50], .int .i64 1] rfl (by (try simp only [List.map_toArray, List.map_cons, List.map_nil]); first | done | (rw [show t159.length = t132.length from (Kd.R_reads' HO_142000.out).1.symm, show t160.length = t135.length from (Kd.R_reads' HO_142001.out).1.symm, show t161.length = t138.length from (Kd.R_reads' HO_142002.out).1.symm] <;> rfl) | rfl | (simp only [List.length_drop, List.length_take]; rfl)) ?_; (with_reducible refine (laws_heldDisk.calls kj16 _ _ t159 _ _ t160 _ _ t161 1 t162 _ ?side1 ?side2 ?side3 ?side4 ?side5 ?side6 A73.out).mono ?_); (case side1 => repeat (first | exact (Kd.R_reads' HO_142000.out).2.2 | (with_reducible refine Kd.C_alloc ?_ _) | (with_reducible refine Kd.C_drewN ?_ _) | (with_reducible refine Kd.C_drew ?_))); (case side2 => rw [show t159.length = t132.length from (Kd.R_reads' HO_142000.out).1.symm]; exact (Kd.R_reads' HO_142000.out).2.1); (case side3 => repeat (first | exact (Kd.R_reads' HO_142001.out).2.2 | (with_reducible refine Kd.C_alloc ?_ _) | (with_reducible refine Kd.C_drewN ?_ _) | (with_reducible refine Kd.C_drew ?_))); (case side4 => rw [show t160.length = t135.length from (Kd.R_reads' HO_142001.out).1.symm]; exact (Kd.R_reads' HO_142001.out).2.1); (case side5 => repeat (first | exact (Kd.R_reads' HO_142002.out).2.2 | (with_reducible refine Kd.C_alloc ?_ _) | (with_reducible refine Kd.C_drewN ?_ _) | (with_reducible refine Kd.C_drew ?_))); (case side6 => rw [show t161.length = t138.length from (Kd.R_reads' HO_142002.out).1.symm]; exact (Kd.R_reads' HO_142002.out).2.1); rintro e w89 ⟨rfl, hb⟩; refine ⟨_, rfl, ?_⟩; have n0_ := Aside0.mk (Kd.R_below (by (with_reducible repeat (first | apply Kd.R_alloc | apply Kd.R_drewN | apply Kd.R_drew)); exact HO_122000.out) hb); have n1_ := Aside0.mk (Kd.R_below (by (with_reducible repeat (first | apply Kd.R_alloc | apply Kd.R_drewN | apply Kd.R_drew)); exact HO_122001.out) hb); have n2_ := Aside0.mk (Kd.R_below (by (with_reducible repeat (first | apply Kd.R_alloc | apply Kd.R_drewN | apply Kd.R_drew)); exact HO_122002.out) hb); have n3_ := Aside0.mk (Kd.R_below (by (with_reducible repeat (first | apply Kd.R_alloc | apply Kd.R_drewN | apply Kd.R_drew)); exact HO_132000.out) hb); have n4_ := Aside0.mk (Kd.R_below (by (with_reducible repeat (first | apply Kd.R_alloc | apply Kd.R_drewN | apply Kd.R_drew)); exact HO_132001.out) hb); have n5_ := Aside0.mk (Kd.R_below (by (with_reducible repeat (first | apply Kd.R_alloc | apply Kd.R_drewN | apply Kd.R_drew)); exact HO_132002.out) hb); have n6_ := Aside0.mk (Kd.R_below (by (with_reducible repeat (first | apply Kd.R_alloc | apply Kd.R_drewN | apply Kd.R_drew)); exact HO_142000.out) hb); have n7_ := Aside0.mk (Kd.R_below (by (with_reducible repeat (first | apply Kd.R_alloc | apply Kd.R_drewN | apply Kd.R_drew)); exact HO_142001.out) hb); have n8_ := Aside0.mk (Kd.R_below (by (with_reducible repeat (first | apply Kd.R_alloc | apply Kd.R_drewN | apply Kd.R_drew)); exact HO_142002.out) hb); have n9_ := Aside0.mk (qao (g := gb101) (o := .cells #[.slice A0_0 l0_0.length c0_0, .slice A0_1 l0_1.length c0_1, .slice A0_2 l0_2.length c0_2] 25 (0, 0)) (by (with_reducible repeat (first | refine qah ?_ _ | refine qai ?_ | refine qag ?_ _)); exact BK101.out) hb); have n10_ := Aside0.mk (qao (g := gb121) (o := .cells #[.slice Ao28 t112.length co28, .slice Ao31 t115.length co31, .slice Ao32 t118.length co32] 31 (0, 0)) (by (with_reducible repeat (first | refine qah ?_ _ | refine qai ?_ | refine qag ?_ _)); exact BK121.out) hb); have n11_ := Aside0.mk (qao (g := gb131) (o := .cells #[.slice Ao36 t154.length co36, .slice Ao40 t155.length co40, .slice Ao41 t156.length co41] 31 (0, 0)) (by (with_reducible repeat (first | refine qah ?_ _ | refine qai ?_ | refine qag ?_ _)); exact BK131.out) hb); have n12_ := Aside0.mk (qao (g := gb141) (o := .cells #[.slice Ao44 t132.length co44, .slice Ao49 t135.length co49, .slice Ao50 t138.length co50] 31 (0, 0)) (by (with_reducible repeat (first | refine qah ?_ _ | refine qai ?_ | refine qag ?_ _)); exact BK141.out) hb); have n13_ := Aside0.mk (qak (by repeat (first | (with_reducible first | exact HB.out | apply qab | apply qaa | apply qac | refine qae ?_ GE101.out | refine qae ?_ GE121.out | refine qae ?_ GE131.out | refine qae ?_ GE141.out) | exact HB.out)) hb); clear HO_122000; clear HO_122001; clear HO_122002; clear HO_132000; clear HO_132001; clear HO_132002; clear HO_142000; clear HO_142001; clear HO_142002; clear BK101; clear BK121; clear BK131; clear BK141; clear HB; have HO_122000 := n0_; have HO_122001 := n1_; have HO_122002 := n2_; have HO_132000 := n3_; have HO_132001 := n4_; have HO_132002 := n5_; have HO_142000 := n6_; have HO_142001 := n7_; have HO_142002 := n8_; have BK101 := n9_; have BK121 := n10_; have BK131 := n11_; have BK141 := n12_; have HB := n13_; clear n0_ n1_ n2_ n3_ n4_ n5_ n6_ n7_ n8_ n9_ n10_ n11_ n12_ n13_; (try clear hb); (try clear hb2); (try clear hk); (try clear hi); have hnb90 := NB101_121.out; have hnc90 := NB121_101.out; have hnb91 := NB101_131.out; have hnc91 := NB131_101.out; have hcz92_0 : w89.cell? ⟨gb101, 0, none⟩ = some (.slice A0_0 l0_0.length c0_0) := (qaf BK101.out 0).trans rfl; have hcz92_1 : w89.cell? ⟨gb101, 1, none⟩ = some (.slice A0_1 l0_1.length c0_1) := (qaf BK101.out 1).trans rfl; have hcz92_2 : w89.cell? ⟨gb101, 2, none⟩ = some (.slice A0_2 l0_2.length c0_2) := (qaf BK101.out 2).trans rfl; have hfz92_0 := qad BK101.out 0; have hfz92_1 := qad BK101.out 1; have hfz92_2 := qad BK101.out 2) | ((with_reducible refine qaq (f := 14) rfl ?_); refine qav (some 55) rfl rfl Try.func14 (by kernel_rfl) rfl #[.agg #[.slice A0_0 l0_0.length c0_0, .slice A0_1 l0_1.length c0_1, .slice A0_2 l0_2.length c0_2]] rfl (by (try simp only [List.map_toArray, List.map_cons, List.map_nil]); first | done | rfl | (simp only [List.length_drop, List.length_take]; rfl)) ?_; (with_reducible refine (laws_toDisk.calls kj16 _ _ l0_0 _ _ l0_1 _ _ l0_2 t163 t166 t169 _ ?side1 ?side2 ?side3 ?side4 ?side5 ?side6 A76.out).mono ?_); (case side1 => repeat (first | exact (Kd.C_below HR0_0.out HB.out) | (with_reducible refine Kd.C_alloc ?_ _) | (with_reducible refine Kd.C_drewN ?_ _) | (with_reducible refine Kd.C_drew ?_))); (case side2 => exact HC0_0.out); (case side3 => repeat (first | exact (Kd.C_below HR0_1.out HB.out) | (with_reducible refine Kd.C_alloc ?_ _) | (with_reducible refine Kd.C_drewN ?_ _) | (with_reducible refine Kd.C_drew ?_))); (case side4 => exact HC0_1.out); (case side5 => repeat (first | exact (Kd.C_below HR0_2.out HB.out) | (with_reducible refine Kd.C_alloc ?_ _) | (with_reducible refine Kd.C_drewN ?_ _) | (with_reducible refine Kd.C_drew ?_))); (case side6 => exact HC0_2.out); rintro e w93 ⟨v164, v167, v170, rfl, ho0, ho1, ho2, hb⟩; refine ⟨_, rfl, ?_⟩; have n0_ := Aside0.mk (Kd.R_mono (Kd.R_told (Kd.R_told (Kd.R_old (by (with_reducible repeat (first | apply Kd.R_alloc | apply Kd.R_drewN | apply Kd.R_drew)); exact HO_122000.out) hb) (Kd.R_base ho0)) (Kd.R_base ho1)) (fun _ h_ => h_.1)); have n1_ := Aside0.mk (Kd.R_mono (Kd.R_told (Kd.R_told (Kd.R_old (by (with_reducible repeat (first | apply Kd.R_alloc | apply Kd.R_drewN | apply Kd.R_drew)); exact HO_122001.out) hb) (Kd.R_base ho0)) (Kd.R_base ho1)) (fun _ h_ => h_.1)); have n2_ := Aside0.mk (Kd.R_elder' (by (with_reducible repeat (first | apply Kd.R_alloc | apply Kd.R_drewN | apply Kd.R_drew)); exact HO_122002.out) (Kd.R_base ho2) hb); have n3_ := Aside0.mk (Kd.R_mono (Kd.R_told (Kd.R_told (Kd.R_old (by (with_reducible repeat (first | apply Kd.R_alloc | apply Kd.R_drewN | apply Kd.R_drew)); exact HO_132000.out) hb) (Kd.R_base ho0)) (Kd.R_base ho1)) (fun _ h_ => h_.1)); have n4_ := Aside0.mk (Kd.R_mono (Kd.R_told (Kd.R_told (Kd.R_old (by (with_reducible repeat (first | apply Kd.R_alloc | apply Kd.R_drewN | apply Kd.R_drew)); exact HO_132001.out) hb) (Kd.R_base ho0)) (Kd.R_base ho1)) (fun _ h_ => h_.1)); have n5_ := Aside0.mk (Kd.R_elder' (by (with_reducible repeat (first | apply Kd.R_alloc | apply Kd.R_drewN | apply Kd.R_drew)); exact HO_132002.out) (Kd.R_base ho2) hb); have n6_ := Aside0.mk (Kd.R_mono (Kd.R_told (Kd.R_told (Kd.R_old (by (with_reducible repeat (first | apply Kd.R_alloc | apply Kd.R_drewN | apply Kd.R_drew)); exact HO_142000.out) hb) (Kd.R_base ho0)) (Kd.R_base ho1)) (fun _ h_ => h_.1)); have n7_ := Aside0.mk (Kd.R_mono (Kd.R_told (Kd.R_told (Kd.R_old (by (with_reducible repeat (first | apply Kd.R_alloc | apply Kd.R_drewN | apply Kd.R_drew)); exact HO_142001.out) hb) (Kd.R_base ho0)) (Kd.R_base ho1)) (fun _ h_ => h_.1)); have n8_ := Aside0.mk (Kd.R_elder' (by (with_reducible repeat (first | apply Kd.R_alloc | apply Kd.R_drewN | apply Kd.R_drew)); exact HO_142002.out) (Kd.R_base ho2) hb); have n9_ := Aside0.mk (Kd.R_lower (Kd.R_new' (Kd.R_new' (Kd.R_new' (Kd.R_new' (Kd.R_new' (Kd.R_new' ho0 (Kd.R_lt (by (with_reducible repeat (first | apply Kd.R_alloc | apply Kd.R_drewN | apply Kd.R_drew)); exact HO_122000.out))) (Kd.R_lt (by (with_reducible repeat (first | apply Kd.R_alloc | apply Kd.R_drewN | apply Kd.R_drew)); exact HO_122001.out))) (Kd.R_lt (by (with_reducible repeat (first | apply Kd.R_alloc | apply Kd.R_drewN | apply Kd.R_drew)); exact HO_132000.out))) (Kd.R_lt (by (with_reducible repeat (first | apply Kd.R_alloc | apply Kd.R_drewN | apply Kd.R_drew)); exact HO_132001.out))) (Kd.R_lt (by (with_reducible repeat (first | apply Kd.R_alloc | apply Kd.R_drewN | apply Kd.R_drew)); exact HO_142000.out))) (Kd.R_lt (by (with_reducible repeat (first | apply Kd.R_alloc | apply Kd.R_drewN | apply Kd.R_drew)); exact HO_142001.out))) (qaj (by repeat (first | (with_reducible first | exact HB.out | apply qab | apply qaa | apply qac | refine qae ?_ GE101.out | refine qae ?_ GE121.out | refine qae ?_ GE131.out | refine qae ?_ GE141.out) | exact HB.out)))); have n10_ := Aside0.mk (Kd.R_lower (Kd.R_new' (Kd.R_new' (Kd.R_new' (Kd.R_new' (Kd.R_new' (Kd.R_new' ho1 (Kd.R_lt (by (with_reducible repeat (first | apply Kd.R_alloc | apply Kd.R_drewN | apply Kd.R_drew)); exact HO_122000.out))) (Kd.R_lt (by (with_reducible repeat (first | apply Kd.R_alloc | apply Kd.R_drewN | apply Kd.R_drew)); exact HO_122001.out))) (Kd.R_lt (by (with_reducible repeat (first | apply Kd.R_alloc | apply Kd.R_drewN | apply Kd.R_drew)); exact HO_132000.out))) (Kd.R_lt (by (with_reducible repeat (first | apply Kd.R_alloc | apply Kd.R_drewN | apply Kd.R_drew)); exact HO_132001.out))) (Kd.R_lt (by (with_reducible repeat (first | apply Kd.R_alloc | apply Kd.R_drewN | apply Kd.R_drew)); exact HO_142000.out))) (Kd.R_lt (by (with_reducible repeat (first | apply Kd.R_alloc | apply Kd.R_drewN | apply Kd.R_drew)); exact HO_142001.out))) (qaj (by repeat (first | (with_reducible first | exact HB.out | apply qab | apply qaa | apply qac | refine qae ?_ GE101.out | refine qae ?_ GE121.out | refine qae ?_ GE131.out | refine qae ?_ GE141.out) | exact HB.out)))); have n11_ := Aside0.mk (Kd.R_lower (Kd.R_new' (Kd.R_new' (Kd.R_new' ho2 (Kd.R_lt (by (with_reducible repeat (first | apply Kd.R_alloc | apply Kd.R_drewN | apply Kd.R_drew)); exact HO_122002.out))) (Kd.R_lt (by (with_reducible repeat (first | apply Kd.R_alloc | apply Kd.R_drewN | apply Kd.R_drew)); exact HO_132002.out))) (Kd.R_lt (by (with_reducible repeat (first | apply Kd.R_alloc | apply Kd.R_drewN | apply Kd.R_drew)); exact HO_142002.out))) (qaj (by repeat (first | (with_reducible first | exact HB.out | apply qab | apply qaa | apply qac | refine qae ?_ GE101.out | refine qae ?_ GE121.out | refine qae ?_ GE131.out | refine qae ?_ GE141.out) | exact HB.out)))); have n12_ := Aside0.mk (qao (g := gb101) (o := .cells #[.slice A0_0 l0_0.length c0_0, .slice A0_1 l0_1.length c0_1, .slice A0_2 l0_2.length c0_2] 25 (0, 0)) (by (with_reducible repeat (first | refine qah ?_ _ | refine qai ?_ | refine qag ?_ _)); exact BK101.out) hb); have n13_ := Aside0.mk (qao (g := gb121) (o := .cells #[.slice Ao28 t112.length co28, .slice Ao31 t115.length co31, .slice Ao32 t118.length co32] 31 (0, 0)) (by (with_reducible repeat (first | refine qah ?_ _ | refine qai ?_ | refine qag ?_ _)); exact BK121.out) hb); have n14_ := Aside0.mk (qao (g := gb131) (o := .cells #[.slice Ao36 t154.length co36, .slice Ao40 t155.length co40, .slice Ao41 t156.length co41] 31 (0, 0)) (by (with_reducible repeat (first | refine qah ?_ _ | refine qai ?_ | refine qag ?_ _)); exact BK131.out) hb); have n15_ := Aside0.mk (qao (g := gb141) (o := .cells #[.slice Ao44 t132.length co44, .slice Ao49 t135.length co49, .slice Ao50 t138.length co50] 31 (0, 0)) (by (with_reducible repeat (first | refine qah ?_ _ | refine qai ?_ | refine qag ?_ _)); exact BK141.out) hb); have n16_ := Aside0.mk (qak (by repeat (first | (with_reducible first | exact HB.out | apply qab | apply qaa | apply qac | refine qae ?_ GE101.out | refine qae ?_ GE121.out | refine qae ?_ GE131.out | refine qae ?_ GE141.out) | exact HB.out)) hb); clear HO_122000; clear HO_122001; clear HO_122002; clear HO_132000; clear HO_132001; clear HO_132002; clear HO_142000; clear HO_142001; clear HO_142002; clear BK101; clear BK121; clear BK131; clear BK141; clear HB; have HO_122000 := n0_; have HO_122001 := n1_; have HO_122002 := n2_; have HO_132000 := n3_; have HO_132001 := n4_; have HO_132002 := n5_; have HO_142000 := n6_; have HO_142001 := n7_; have HO_142002 := n8_; have HO165 := n9_; have HO168 := n10_; have HO171 := n11_; have BK101 := n12_; have BK121 := n13_; have BK131 := n14_; have BK141 := n15_; have HB := n16_; clear n0_ n1_ n2_ n3_ n4_ n5_ n6_ n7_ n8_ n9_ n10_ n11_ n12_ n13_ n14_ n15_ n16_; (try clear hb); (try clear hb2); (try clear hk); (try clear hi); (try clear ho0); (try clear ho1); (try clear ho2); obtain ⟨Ao94, co94, eo94⟩ := Kd.R_slice HO165.out; subst eo94; obtain ⟨Ao95, co95, eo95⟩ := Kd.R_slice HO168.out; subst eo95; obtain ⟨Ao96, co96, eo96⟩ := Kd.R_slice HO171.out; subst eo96) | ((with_reducible refine qaq (f := 24) rfl ?_); refine qav (some 56) rfl rfl Try.func24 (by kernel_rfl) rfl #[.agg #[.slice Ao94 t163.length co94, .slice Ao95 t166.length co95, .slice Ao96 t169.length co96]] rfl (by (try simp only [List.map_toArray, List.map_cons, List.map_nil]); first | done | rfl | (simp only [List.length_drop, List.length_take]; rfl)) ?_; (with_reducible refine (impl_Sync.calls _ _ t163 _ _ t166 _ _ t169 t172 t175 t178 _ ?side1 ?side2 ?side3 ?side4 ?side5 ?side6 A77.out).mono ?_); (case side1 => repeat (first | exact (Kd.R_reads' HO165.out).2.2 | (with_reducible refine Kd.C_alloc ?_ _) | (with_reducible refine Kd.C_drewN ?_ _) | (with_reducible refine Kd.C_drew ?_))); (case side2 => exact (Kd.R_reads' HO165.out).2.1); (case side3 => repeat (first | exact (Kd.R_reads' HO168.out).2.2 | (with_reducible refine Kd.C_alloc ?_ _) | (with_reducible refine Kd.C_drewN ?_ _) | (with_reducible refine Kd.C_drew ?_))); (case side4 => exact (Kd.R_reads' HO168.out).2.1); (case side5 => repeat (first | exact (Kd.R_reads' HO171.out).2.2 | (with_reducible refine Kd.C_alloc ?_ _) | (with_reducible refine Kd.C_drewN ?_ _) | (with_reducible refine Kd.C_drew ?_))); (case side6 => exact (Kd.R_reads' HO171.out).2.1); rintro e w97 ⟨v173, v176, v179, rfl, ho0, ho1, ho2, hb⟩; refine ⟨_, rfl, ?_⟩; have n0_ := Aside0.mk (Kd.R_mono (Kd.R_told (Kd.R_told (Kd.R_old (by (with_reducible repeat (first | apply Kd.R_alloc | apply Kd.R_drewN | apply Kd.R_drew)); exact HO_122000.out) hb) (Kd.R_base ho0)) (Kd.R_base ho1)) (fun _ h_ => h_.1)); have n1_ := Aside0.mk (Kd.R_mono (Kd.R_told (Kd.R_told (Kd.R_old (by (with_reducible repeat (first | apply Kd.R_alloc | apply Kd.R_drewN | apply Kd.R_drew)); exact HO_122001.out) hb) (Kd.R_base ho0)) (Kd.R_base ho1)) (fun _ h_ => h_.1)); have n2_ := Aside0.mk (Kd.R_elder' (by (with_reducible repeat (first | apply Kd.R_alloc | apply Kd.R_drewN | apply Kd.R_drew)); exact HO_122002.out) (Kd.R_base ho2) hb); have n3_ := Aside0.mk (Kd.R_mono (Kd.R_told (Kd.R_told (Kd.R_old (by (with_reducible repeat (first | apply Kd.R_alloc | apply Kd.R_drewN | apply Kd.R_drew)); exact HO_132000.out) hb) (Kd.R_base ho0)) (Kd.R_base ho1)) (fun _ h_ => h_.1)); have n4_ := Aside0.mk (Kd.R_mono (Kd.R_told (Kd.R_told (Kd.R_old (by (with_reducible repeat (first | apply Kd.R_alloc | apply Kd.R_drewN | apply Kd.R_drew)); exact HO_132001.out) hb) (Kd.R_base ho0)) (Kd.R_base ho1)) (fun _ h_ => h_.1)); have n5_ := Aside0.mk (Kd.R_elder' (by (with_reducible repeat (first | apply Kd.R_alloc | apply Kd.R_drewN | apply Kd.R_drew)); exact HO_132002.out) (Kd.R_base ho2) hb); have n6_ := Aside0.mk (Kd.R_mono (Kd.R_told (Kd.R_told (Kd.R_old (by (with_reducible repeat (first | apply Kd.R_alloc | apply Kd.R_drewN | apply Kd.R_drew)); exact HO_142000.out) hb) (Kd.R_base ho0)) (Kd.R_base ho1)) (fun _ h_ => h_.1)); have n7_ := Aside0.mk (Kd.R_mono (Kd.R_told (Kd.R_told (Kd.R_old (by (with_reducible repeat (first | apply Kd.R_alloc | apply Kd.R_drewN | apply Kd.R_drew)); exact HO_142001.out) hb) (Kd.R_base ho0)) (Kd.R_base ho1)) (fun _ h_ => h_.1)); have n8_ := Aside0.mk (Kd.R_elder' (by (with_reducible repeat (first | apply Kd.R_alloc | apply Kd.R_drewN | apply Kd.R_drew)); exact HO_142002.out) (Kd.R_base ho2) hb); have n9_ := Aside0.mk (Kd.R_mono (Kd.R_told (Kd.R_told (Kd.R_old (by (with_reducible repeat (first | apply Kd.R_alloc | apply Kd.R_drewN | apply Kd.R_drew)); exact HO165.out) hb) (Kd.R_base ho0)) (Kd.R_base ho1)) (fun _ h_ => h_.1)); have n10_ := Aside0.mk (Kd.R_mono (Kd.R_told (Kd.R_told (Kd.R_old (by (with_reducible repeat (first | apply Kd.R_alloc | apply Kd.R_drewN | apply Kd.R_drew)); exact HO168.out) hb) (Kd.R_base ho0)) (Kd.R_base ho1)) (fun _ h_ => h_.1)); have n11_ := Aside0.mk (Kd.R_elder' (by (with_reducible repeat (first | apply Kd.R_alloc | apply Kd.R_drewN | apply Kd.R_drew)); exact HO171.out) (Kd.R_base ho2) hb); have n12_ := Aside0.mk (Kd.R_lower (Kd.R_new' (Kd.R_new' (Kd.R_new' (Kd.R_new' (Kd.R_new' (Kd.R_new' (Kd.R_new' (Kd.R_new' ho0 (Kd.R_lt (by (with_reducible repeat (first | apply Kd.R_alloc | apply Kd.R_drewN | apply Kd.R_drew)); exact HO_122000.out))) (Kd.R_lt (by (with_reducible repeat (first | apply Kd.R_alloc | apply Kd.R_drewN | apply Kd.R_drew)); exact HO_122001.out))) (Kd.R_lt (by (with_reducible repeat (first | apply Kd.R_alloc | apply Kd.R_drewN | apply Kd.R_drew)); exact HO_132000.out))) (Kd.R_lt (by (with_reducible repeat (first | apply Kd.R_alloc | apply Kd.R_drewN | apply Kd.R_drew)); exact HO_132001.out))) (Kd.R_lt (by (with_reducible repeat (first | apply Kd.R_alloc | apply Kd.R_drewN | apply Kd.R_drew)); exact HO_142000.out))) (Kd.R_lt (by (with_reducible repeat (first | apply Kd.R_alloc | apply Kd.R_drewN | apply Kd.R_drew)); exact HO_142001.out))) (Kd.R_lt (by (with_reducible repeat (first | apply Kd.R_alloc | apply Kd.R_drewN | apply Kd.R_drew)); exact HO165.out))) (Kd.R_lt (by (with_reducible repeat (first | apply Kd.R_alloc | apply Kd.R_drewN | apply Kd.R_drew)); exact HO168.out))) (qaj (by repeat (first | (with_reducible first | exact HB.out | apply qab | apply qaa | apply qac | refine qae ?_ GE101.out | refine qae ?_ GE121.out | refine qae ?_ GE131.out | refine qae ?_ GE141.out) | exact HB.out)))); have n13_ := Aside0.mk (Kd.R_lower (Kd.R_new' (Kd.R_new' (Kd.R_new' (Kd.R_new' (Kd.R_new' (Kd.R_new' (Kd.R_new' (Kd.R_new' ho1 (Kd.R_lt (by (with_reducible repeat (first | apply Kd.R_alloc | apply Kd.R_drewN | apply Kd.R_drew)); exact HO_122000.out))) (Kd.R_lt (by (with_reducible repeat (first | apply Kd.R_alloc | apply Kd.R_drewN | apply Kd.R_drew)); exact HO_122001.out))) (Kd.R_lt (by (with_reducible repeat (first | apply Kd.R_alloc | apply Kd.R_drewN | apply Kd.R_drew)); exact HO_132000.out))) (Kd.R_lt (by (with_reducible repeat (first | apply Kd.R_alloc | apply Kd.R_drewN | apply Kd.R_drew)); exact HO_132001.out))) (Kd.R_lt (by (with_reducible repeat (first | apply Kd.R_alloc | apply Kd.R_drewN | apply Kd.R_drew)); exact HO_142000.out))) (Kd.R_lt (by (with_reducible repeat (first | apply Kd.R_alloc | apply Kd.R_drewN | apply Kd.R_drew)); exact HO_142001.out))) (Kd.R_lt (by (with_reducible repeat (first | apply Kd.R_alloc | apply Kd.R_drewN | apply Kd.R_drew)); exact HO165.out))) (Kd.R_lt (by (with_reducible repeat (first | apply Kd.R_alloc | apply Kd.R_drewN | apply Kd.R_drew)); exact HO168.out))) (qaj (by repeat (first | (with_reducible first | exact HB.out | apply qab | apply qaa | apply qac | refine qae ?_ GE101.out | refine qae ?_ GE121.out | refine qae ?_ GE131.out | refine qae ?_ GE141.out) | exact HB.out)))); have n14_ := Aside0.mk (Kd.R_lower (Kd.R_new' (Kd.R_new' (Kd.R_new' (Kd.R_new' ho2 (Kd.R_lt (by (with_reducible repeat (first | apply Kd.R_alloc | apply Kd.R_drewN | apply Kd.R_drew)); exact HO_122002.out))) (Kd.R_lt (by (with_reducible repeat (first | apply Kd.R_alloc | apply Kd.R_drewN | apply Kd.R_drew)); exact HO_132002.out))) (Kd.R_lt (by (with_reducible repeat (first | apply Kd.R_alloc | apply Kd.R_drewN | apply Kd.R_drew)); exact HO_142002.out))) (Kd.R_lt (by (with_reducible repeat (first | apply Kd.R_alloc | apply Kd.R_drewN | apply Kd.R_drew)); exact HO171.out))) (qaj (by repeat (first | (with_reducible first | exact HB.out | apply qab | apply qaa | apply qac | refine qae ?_ GE101.out | refine qae ?_ GE121.out | refine qae ?_ GE131.out | refine qae ?_ GE141.out) | exact HB.out)))); have n15_ := Aside0.mk (qao (g := gb101) (o := .cells #[.slice A0_0 l0_0.length c0_0, .slice A0_1 l0_1.length c0_1, .slice A0_2 l0_2.length c0_2] 25 (0, 0)) (by (with_reducible repeat (first | refine qah ?_ _ | refine qai ?_ | refine qag ?_ _)); exact BK101.out) hb); have n16_ := Aside0.mk (qao (g := gb121) (o := .cells #[.slice Ao28 t112.length co28, .slice Ao31 t115.length co31, .slice Ao32 t118.length co32] 31 (0, 0)) (by (with_reducible repeat (first | refine qah ?_ _ | refine qai ?_ | refine qag ?_ _)); exact BK121.out) hb); have n17_ := Aside0.mk (qao (g := gb131) (o := .cells #[.slice Ao36 t154.length co36, .slice Ao40 t155.length co40, .slice Ao41 t156.length co41] 31 (0, 0)) (by (with_reducible repeat (first | refine qah ?_ _ | refine qai ?_ | refine qag ?_ _)); exact BK131.out) hb); have n18_ := Aside0.mk (qao (g := gb141) (o := .cells #[.slice Ao44 t132.length co44, .slice Ao49 t135.length co49, .slice Ao50 t138.length co50] 31 (0, 0)) (by (with_reducible repeat (first | refine qah ?_ _ | refine qai ?_ | refine qag ?_ _)); exact BK141.out) hb); have n19_ := Aside0.mk (qak (by repeat (first | (with_reducible first | exact HB.out | apply qab | apply qaa | apply qac | refine qae ?_ GE101.out | refine qae ?_ GE121.out | refine qae ?_ GE131.out | refine qae ?_ GE141.out) | exact HB.out)) hb); clear HO_122000; clear HO_122001; clear HO_122002; clear HO_132000; clear HO_132001; clear HO_132002; clear HO_142000; clear HO_142001; clear HO_142002; clear HO165; clear HO168; clear HO171; clear BK101; clear BK121; clear BK131; clear BK141; clear HB; have HO_122000 := n0_; have HO_122001 := n1_; have HO_122002 := n2_; have HO_132000 := n3_; have HO_132001 := n4_; have HO_132002 := n5_; have HO_142000 := n6_; have HO_142001 := n7_; have HO_142002 := n8_; have HO165 := n9_; have HO168 := n10_; have HO171 := n11_; have HO174 := n12_; have HO177 := n13_; have HO180 := n14_; have BK101 := n15_; have BK121 := n16_; have BK131 := n17_; have BK141 := n18_; have HB := n19_; clear n0_ n1_ n2_ n3_ n4_ n5_ n6_ n7_ n8_ n9_ n10_ n11_ n12_ n13_ n14_ n15_ n16_ n17_ n18_ n19_; (try clear hb); (try clear hb2); (try clear hk); (try clear hi); (try clear ho0); (try clear ho1); (try clear ho2)) | ((with_reducible refine qas (N := 10) rfl ?_); refine qar ?hg (N := 10) ?hd (cs := #[.slice none 0 0, .slice none 0 0, .slice none 0 0]) (t := 31) ?hr ?_; (case hd => rfl); (case hg => rfl); (case hr => first | (go_simp; done) | (go_simp; rfl)); intro gb181 hg w98 hbox hb; have n0_ := Aside0.mk (Kd.R_below (by (with_reducible repeat (first | apply Kd.R_alloc | apply Kd.R_drewN | apply Kd.R_drew)); exact HO_122000.out) hb); have n1_ := Aside0.mk (Kd.R_below (by (with_reducible repeat (first | apply Kd.R_alloc | apply Kd.R_drewN | apply Kd.R_drew)); exact HO_122001.out) hb); have n2_ := Aside0.mk (Kd.R_below (by (with_reducible repeat (first | apply Kd.R_alloc | apply Kd.R_drewN | apply Kd.R_drew)); exact HO_122002.out) hb); have n3_ := Aside0.mk (Kd.R_below (by (with_reducible repeat (first | apply Kd.R_alloc | apply Kd.R_drewN | apply Kd.R_drew)); exact HO_132000.out) hb); have n4_ := Aside0.mk (Kd.R_below (by (with_reducible repeat (first | apply Kd.R_alloc | apply Kd.R_drewN | apply Kd.R_drew)); exact HO_132001.out) hb); have n5_ := Aside0.mk (Kd.R_below (by (with_reducible repeat (first | apply Kd.R_alloc | apply Kd.R_drewN | apply Kd.R_drew)); exact HO_132002.out) hb); have n6_ := Aside0.mk (Kd.R_below (by (with_reducible repeat (first | apply Kd.R_alloc | apply Kd.R_drewN | apply Kd.R_drew)); exact HO_142000.out) hb); have n7_ := Aside0.mk (Kd.R_below (by (with_reducible repeat (first | apply Kd.R_alloc | apply Kd.R_drewN | apply Kd.R_drew)); exact HO_142001.out) hb); have n8_ := Aside0.mk (Kd.R_below (by (with_reducible repeat (first | apply Kd.R_alloc | apply Kd.R_drewN | apply Kd.R_drew)); exact HO_142002.out) hb); have n9_ := Aside0.mk (Kd.R_below (by (with_reducible repeat (first | apply Kd.R_alloc | apply Kd.R_drewN | apply Kd.R_drew)); exact HO165.out) hb); have n10_ := Aside0.mk (Kd.R_below (by (with_reducible repeat (first | apply Kd.R_alloc | apply Kd.R_drewN | apply Kd.R_drew)); exact HO168.out) hb); have n11_ := Aside0.mk (Kd.R_below (by (with_reducible repeat (first | apply Kd.R_alloc | apply Kd.R_drewN | apply Kd.R_drew)); exact HO171.out) hb); have n12_ := Aside0.mk (Kd.R_below (by (with_reducible repeat (first | apply Kd.R_alloc | apply Kd.R_drewN | apply Kd.R_drew)); exact HO174.out) hb); have n13_ := Aside0.mk (Kd.R_below (by (with_reducible repeat (first | apply Kd.R_alloc | apply Kd.R_drewN | apply Kd.R_drew)); exact HO177.out) hb); have n14_ := Aside0.mk (Kd.R_below (by (with_reducible repeat (first | apply Kd.R_alloc | apply Kd.R_drewN | apply Kd.R_drew)); exact HO180.out) hb); have n15_ := Aside0.mk (qao (g := gb101) (o := .cells #[.slice A0_0 l0_0.length c0_0, .slice A0_1 l0_1.length c0_1, .slice A0_2 l0_2.length c0_2] 25 (0, 0)) (by (with_reducible repeat (first | refine qah ?_ _ | refine qai ?_ | refine qag ?_ _)); exact BK101.out) hb); have n16_ := Aside0.mk (qao (g := gb121) (o := .cells #[.slice Ao28 t112.length co28, .slice Ao31 t115.length co31, .slice Ao32 t118.length co32] 31 (0, 0)) (by (with_reducible repeat (first | refine qah ?_ _ | refine qai ?_ | refine qag ?_ _)); exact BK121.out) hb); have n17_ := Aside0.mk (qao (g := gb131) (o := .cells #[.slice Ao36 t154.length co36, .slice Ao40 t155.length co40, .slice Ao41 t156.length co41] 31 (0, 0)) (by (with_reducible repeat (first | refine qah ?_ _ | refine qai ?_ | refine qag ?_ _)); exact BK131.out) hb); have n18_ := Aside0.mk (qao (g := gb141) (o := .cells #[.slice Ao44 t132.length co44, .slice Ao49 t135.length co49, .slice Ao50 t138.length co50] 31 (0, 0)) (by (with_reducible repeat (first | refine qah ?_ _ | refine qai ?_ | refine qag ?_ _)); exact BK141.out) hb); have n19_ := Aside0.mk (qak (by repeat (first | (with_reducible first | exact HB.out | apply qab | apply qaa | apply qac | refine qae ?_ GE101.out | refine qae ?_ GE121.out | refine qae ?_ GE131.out | refine qae ?_ GE141.out) | exact HB.out)) hb); have n20_ := Aside0.mk (hbox); have n21_ := Aside0.mk ((by rw [hg]; exact (qaj (by repeat (first | (with_reducible first | exact HB.out | apply qab | apply qaa | apply qac | refine qae ?_ GE101.out | refine qae ?_ GE121.out | refine qae ?_ GE131.out | refine qae ?_ GE141.out) | exact HB.out))) : w.heap.size ≤ gb181)); have n22_ := Aside0.mk ((by rw [hg]; exact (qaj (by repeat (first | (with_reducible first | exact HB.out | apply qab | apply qaa | apply qac | refine qae ?_ GE101.out | refine qae ?_ GE121.out | refine qae ?_ GE131.out | refine qae ?_ GE141.out) | exact HB.out))) : w.heap.size ≤ gb181)); have n23_ := Aside0.mk ((by rw [hg]; exact Nat.ne_of_lt (qaw (g := gb101) (o := .cells #[.slice A0_0 l0_0.length c0_0, .slice A0_1 l0_1.length c0_1, .slice A0_2 l0_2.length c0_2] 25 (0, 0)) (by (with_reducible repeat (first | refine qah ?_ _ | refine qai ?_ | refine qag ?_ _)); exact BK101.out)) : gb101 ≠ gb181)); have n24_ := Aside0.mk ((by rw [hg]; exact Nat.ne_of_gt (qaw (g := gb101) (o := .cells #[.slice A0_0 l0_0.length c0_0, .slice A0_1 l0_1.length c0_1, .slice A0_2 l0_2.length c0_2] 25 (0, 0)) (by (with_reducible repeat (first | refine qah ?_ _ | refine qai ?_ | refine qag ?_ _)); exact BK101.out)) : gb181 ≠ gb101)); have n25_ := Aside0.mk ((by rw [hg]; exact Nat.ne_of_lt (qaw (g := gb121) (o := .cells #[.slice Ao28 t112.length co28, .slice Ao31 t115.length co31, .slice Ao32 t118.length co32] 31 (0, 0)) (by (with_reducible repeat (first | refine qah ?_ _ | refine qai ?_ | refine qag ?_ _)); exact BK121.out)) : gb121 ≠ gb181)); have n26_ := Aside0.mk ((by rw [hg]; exact Nat.ne_of_gt (qaw (g := gb121) (o := .cells #[.slice Ao28 t112.length co28, .slice Ao31 t115.length co31, .slice Ao32 t118.length co32] 31 (0, 0)) (by (with_reducible repeat (first | refine qah ?_ _ | refine qai ?_ | refine qag ?_ _)); exact BK121.out)) : gb181 ≠ gb121)); have n27_ := Aside0.mk ((by rw [hg]; exact Nat.ne_of_lt (qaw (g := gb131) (o := .cells #[.slice Ao36 t154.length co36, .slice Ao40 t155.length co40, .slice Ao41 t156.length co41] 31 (0, 0)) (by (with_reducible repeat (first | refine qah ?_ _ | refine qai ?_ | refine qag ?_ _)); exact BK131.out)) : gb131 ≠ gb181)); have n28_ := Aside0.mk ((by rw [hg]; exact Nat.ne_of_gt (qaw (g := gb131) (o := .cells #[.slice Ao36 t154.length co36, .slice Ao40 t155.length co40, .slice Ao41 t156.length co41] 31 (0, 0)) (by (with_reducible repeat (first | refine qah ?_ _ | refine qai ?_ | refine qag ?_ _)); exact BK131.out)) : gb181 ≠ gb131)); have n29_ := Aside0.mk ((by rw [hg]; exact Nat.ne_of_lt (qaw (g := gb141) (o := .cells #[.slice Ao44 t132.length co44, .slice Ao49 t135.length co49, .slice Ao50 t138.length co50] 31 (0, 0)) (by (with_reducible repeat (first | refine qah ?_ _ | refine qai ?_ | refine qag ?_ _)); exact BK141.out)) : gb141 ≠ gb181)); have n30_ := Aside0.mk ((by rw [hg]; exact Nat.ne_of_gt (qaw (g := gb141) (o := .cells #[.slice Ao44 t132.length co44, .slice Ao49 t135.length co49, .slice Ao50 t138.length co50] 31 (0, 0)) (by (with_reducible repeat (first | refine qah ?_ _ | refine qai ?_ | refine qag ?_ _)); exact BK141.out)) : gb181 ≠ gb141)); clear HO_122000; clear HO_122001; clear HO_122002; clear HO_132000; clear HO_132001; clear HO_132002; clear HO_142000; clear HO_142001; clear HO_142002; clear HO165; clear HO168; clear HO171; clear HO174; clear HO177; clear HO180; clear BK101; clear BK121; clear BK131; clear BK141; clear HB; have HO_122000 := n0_; have HO_122001 := n1_; have HO_122002 := n2_; have HO_132000 := n3_; have HO_132001 := n4_; have HO_132002 := n5_; have HO_142000 := n6_; have HO_142001 := n7_; have HO_142002 := n8_; have HO165 := n9_; have HO168 := n10_; have HO171 := n11_; have HO174 := n12_; have HO177 := n13_; have HO180 := n14_; have BK101 := n15_; have BK121 := n16_; have BK131 := n17_; have BK141 := n18_; have HB := n19_; have BK181 := n20_; have GW181 := n21_; have GE181 := n22_; have NB101_181 := n23_; have NB181_101 := n24_; have NB121_181 := n25_; have NB181_121 := n26_; have NB131_181 := n27_; have NB181_131 := n28_; have NB141_181 := n29_; have NB181_141 := n30_; clear n0_ n1_ n2_ n3_ n4_ n5_ n6_ n7_ n8_ n9_ n10_ n11_ n12_ n13_ n14_ n15_ n16_ n17_ n18_ n19_ n20_ n21_ n22_ n23_ n24_ n25_ n26_ n27_ n28_ n29_ n30_; clear hb hbox hg; obtain ⟨Ao99, co99, eo99⟩ := Kd.R_slice HO174.out; subst eo99; have hnb100 := NB181_101.out; have hnc100 := NB101_181.out; have hnb101 := NB181_121.out; have hnc101 := NB121_181.out; have hnb102 := NB181_131.out; have hnc102 := NB131_181.out; have hnb103 := NB181_141.out; have hnc103 := NB141_181.out; have hcz104_0 : w98.cell? ⟨gb181, 0, none⟩ = some (.slice none 0 0) := (qaf BK181.out 0).trans rfl; have hcz104_1 : w98.cell? ⟨gb181, 1, none⟩ = some (.slice none 0 0) := (qaf BK181.out 1).trans rfl; have hcz104_2 : w98.cell? ⟨gb181, 2, none⟩ = some (.slice none 0 0) := (qaf BK181.out 2).trans rfl; have hfz104_0 := qad BK181.out 0; have hfz104_1 := qad BK181.out 1; have hfz104_2 := qad BK181.out 2; obtain ⟨Ao105, co105, eo105⟩ := Kd.R_slice HO177.out; subst eo105; obtain ⟨Ao106, co106, eo106⟩ := Kd.R_slice HO180.out; subst eo106; have hnb107 := NB121_131.out; have hnc107 := NB131_121.out; have hcz108_0 : w98.cell? ⟨gb121, 0, none⟩ = some (.slice Ao28 t112.length co28) := (qaf BK121.out 0).trans rfl; have hcz108_1 : w98.cell? ⟨gb121, 1, none⟩ = some (.slice Ao31 t115.length co31) := (qaf BK121.out 1).trans rfl; have hcz108_2 : w98.cell? ⟨gb121, 2, none⟩ = some (.slice Ao32 t118.length co32) := (qaf BK121.out 2).trans rfl; have hfz108_0 := qad BK121.out 0; have hfz108_1 := qad BK121.out 1; have hfz108_2 := qad BK121.out 2) | ((with_reducible refine qaq (f := 16) rfl ?_); refine qav (some 59) rfl rfl Try.func16 (by kernel_rfl) rfl #[.agg #[.slice Ao99 t172.length co99, .slice Ao105 t175.length co105, .slice Ao106 t178.length co106], .agg #[.slice Ao28 t112.length co28, .slice Ao31 t115.length co31, .slice Ao32 t118.length co32]] rfl (by (try simp only [List.map_toArray, List.map_cons, List.map_nil]); first | done | rfl | (simp only [List.length_drop, List.length_take]; rfl)) ?_; (with_reducible refine (laws_eqDisk.calls kj16 _ _ t172 _ _ t175 _ _ t178 _ _ t112 _ _ t115 _ _ t118 true _ ?side1 ?side2 ?side3 ?side4 ?side5 ?side6 ?side7 ?side8 ?side9 ?side10 ?side11 ?side12 A78.out).mono ?_); (case side1 => refine (Kd.R_reads' (e := 80) (base := w.heap.size) (ok := fun k_ => ((((((((some k_ ≠ (.slice Ao105 t175.length co105 : Value).ownBlock ∧ some k_ ≠ (.slice Ao28 t112.length co28 : Value).ownBlock) ∧ some k_ ≠ (.slice Ao31 t115.length co31 : Value).ownBlock) ∧ some k_ ≠ (.slice Ao36 t154.length co36 : Value).ownBlock) ∧ some k_ ≠ (.slice Ao40 t155.length co40 : Value).ownBlock) ∧ some k_ ≠ (.slice Ao44 t132.length co44 : Value).ownBlock) ∧ some k_ ≠ (.slice Ao49 t135.length co49 : Value).ownBlock) ∧ some k_ ≠ (.slice Ao94 t163.length co94 : Value).ownBlock) ∧ some k_ ≠ (.slice Ao95 t166.length co95 : Value).ownBlock)) (n := t172.length) (c := co99) ?_).2.2; exact (by (with_reducible repeat (first | apply Kd.R_alloc | apply Kd.R_drewN | apply Kd.R_drew)); exact (Kd.R_mono (Kd.R_far (p := ⟨gb181, 2, none⟩) (Kd.R_far (p := ⟨gb181, 1, none⟩) (Kd.R_far (p := ⟨gb181, 0, none⟩) (Kd.R_types HO174.out BK181.out (by decide)) (fun _ hk => hk.2) (.slice Ao99 t172.length co99)) (fun _ hk => hk.2) (.slice Ao105 t175.length co105)) (fun _ hk => hk.2) (.slice Ao106 t178.length co106)) (fun _ h_ => h_.1)))); (case side2 => exact (Kd.R_reads' HO174.out).2.1); (case side3 => refine (Kd.R_reads' (e := 80) (base := w.heap.size) (ok := fun k_ => ((((((((some k_ ≠ (.slice Ao99 t172.length co99 : Value).ownBlock ∧ some k_ ≠ (.slice Ao28 t112.length co28 : Value).ownBlock) ∧ some k_ ≠ (.slice Ao31 t115.length co31 : Value).ownBlock) ∧ some k_ ≠ (.slice Ao36 t154.length co36 : Value).ownBlock) ∧ some k_ ≠ (.slice Ao40 t155.length co40 : Value).ownBlock) ∧ some k_ ≠ (.slice Ao44 t132.length co44 : Value).ownBlock) ∧ some k_ ≠ (.slice Ao49 t135.length co49 : Value).ownBlock) ∧ some k_ ≠ (.slice Ao94 t163.length co94 : Value).ownBlock) ∧ some k_ ≠ (.slice Ao95 t166.length co95 : Value).ownBlock)) (n := t175.length) (c := co105) ?_).2.2; exact (by (with_reducible repeat (first | apply Kd.R_alloc | apply Kd.R_drewN | apply Kd.R_drew)); exact (Kd.R_mono (Kd.R_far (p := ⟨gb181, 2, none⟩) (Kd.R_far (p := ⟨gb181, 1, none⟩) (Kd.R_far (p := ⟨gb181, 0, none⟩) (Kd.R_types HO177.out BK181.out (by decide)) (fun _ hk => hk.2) (.slice Ao99 t172.length co99)) (fun _ hk => hk.2) (.slice Ao105 t175.length co105)) (fun _ hk => hk.2) (.slice Ao106 t178.length co106)) (fun _ h_ => h_.1)))); (case side4 => exact (Kd.R_reads' HO177.out).2.1); (case side5 => refine (Kd.R_reads' (e := 73) (base := w.heap.size) (ok := fun k_ => ((((True ∧ some k_ ≠ (.slice Ao32 t118.length co32 : Value).ownBlock) ∧ some k_ ≠ (.slice Ao41 t156.length co41 : Value).ownBlock) ∧ some k_ ≠ (.slice Ao50 t138.length co50 : Value).ownBlock) ∧ some k_ ≠ (.slice Ao96 t169.length co96 : Value).ownBlock)) (n := t178.length) (c := co106) ?_).2.2; exact (by (with_reducible repeat (first | apply Kd.R_alloc | apply Kd.R_drewN | apply Kd.R_drew)); exact (Kd.R_mono (Kd.R_far (p := ⟨gb181, 2, none⟩) (Kd.R_far (p := ⟨gb181, 1, none⟩) (Kd.R_far (p := ⟨gb181, 0, none⟩) (Kd.R_types HO180.out BK181.out (by decide)) (fun _ hk => hk.2) (.slice Ao99 t172.length co99)) (fun _ hk => hk.2) (.slice Ao105 t175.length co105)) (fun _ hk => hk.2) (.slice Ao106 t178.length co106)) (fun _ h_ => h_.1)))); (case side6 => exact (Kd.R_reads' HO180.out).2.1); (case side7 => refine (Kd.R_reads' (e := 80) (base := w.heap.size) (ok := fun k_ => (((((some k_ ≠ (.slice Ao31 t115.length co31 : Value).ownBlock ∧ (some k_ ≠ (.slice Ao36 t154.length co36 : Value).ownBlock ∧ (some k_ ≠ (.slice Ao40 t155.length co40 : Value).ownBlock ∧ (some k_ ≠ (.slice Ao44 t132.length co44 : Value).ownBlock ∧ some k_ ≠ (.slice Ao49 t135.length co49 : Value).ownBlock)))) ∧ some k_ ≠ (.slice Ao94 t163.length co94 : Value).ownBlock) ∧ some k_ ≠ (.slice Ao95 t166.length co95 : Value).ownBlock) ∧ some k_ ≠ (.slice Ao99 t172.length co99 : Value).ownBlock) ∧ some k_ ≠ (.slice Ao105 t175.length co105 : Value).ownBlock)) (n := t112.length) (c := co28) ?_).2.2; exact (by (with_reducible repeat (first | apply Kd.R_alloc | apply Kd.R_drewN | apply Kd.R_drew)); exact (Kd.R_mono (Kd.R_far (p := ⟨gb181, 2, none⟩) (Kd.R_far (p := ⟨gb181, 1, none⟩) (Kd.R_far (p := ⟨gb181, 0, none⟩) (Kd.R_types HO_122000.out BK181.out (by decide)) (fun _ hk => hk.2) (.slice Ao99 t172.length co99)) (fun _ hk => hk.2) (.slice Ao105 t175.length co105)) (fun _ hk => hk.2) (.slice Ao106 t178.length co106)) (fun _ h_ => h_.1)))); (case side8 => exact (Kd.R_reads' HO_122000.out).2.1); (case side9 => refine (Kd.R_reads' (e := 80) (base := w.heap.size) (ok := fun k_ => (((((some k_ ≠ (.slice Ao28 t112.length co28 : Value).ownBlock ∧ (some k_ ≠ (.slice Ao36 t154.length co36 : Value).ownBlock ∧ (some k_ ≠ (.slice Ao40 t155.length co40 : Value).ownBlock ∧ (some k_ ≠ (.slice Ao44 t132.length co44 : Value).ownBlock ∧ some k_ ≠ (.slice Ao49 t135.length co49 : Value).ownBlock)))) ∧ some k_ ≠ (.slice Ao94 t163.length co94 : Value).ownBlock) ∧ some k_ ≠ (.slice Ao95 t166.length co95 : Value).ownBlock) ∧ some k_ ≠ (.slice Ao99 t172.length co99 : Value).ownBlock) ∧ some k_ ≠ (.slice Ao105 t175.length co105 : Value).ownBlock)) (n := t115.length) (c := co31) ?_).2.2; exact (by (with_reducible repeat (first | apply Kd.R_alloc | apply Kd.R_drewN | apply Kd.R_drew)); exact (Kd.R_mono (Kd.R_far (p := ⟨gb181, 2, none⟩) (Kd.R_far (p := ⟨gb181, 1, none⟩) (Kd.R_far (p := ⟨gb181, 0, none⟩) (Kd.R_types HO_122001.out BK181.out (by decide)) (fun _ hk => hk.2) (.slice Ao99 t172.length co99)) (fun _ hk => hk.2) (.slice Ao105 t175.length co105)) (fun _ hk => hk.2) (.slice Ao106 t178.length co106)) (fun _ h_ => h_.1)))); (case side10 => exact (Kd.R_reads' HO_122001.out).2.1); (case side11 => refine (Kd.R_reads' (e := 73) (base := w.heap.size) (ok := fun k_ => (((some k_ ≠ (.slice Ao41 t156.length co41 : Value).ownBlock ∧ some k_ ≠ (.slice Ao50 t138.length co50 : Value).ownBlock) ∧ some k_ ≠ (.slice Ao96 t169.length co96 : Value).ownBlock) ∧ some k_ ≠ (.slice Ao106 t178.length co106 : Value).ownBlock)) (n := t118.length) (c := co32) ?_).2.2; exact (by (with_reducible repeat (first | apply Kd.R_alloc | apply Kd.R_drewN | apply Kd.R_drew)); exact (Kd.R_mono (Kd.R_far (p := ⟨gb181, 2, none⟩) (Kd.R_far (p := ⟨gb181, 1, none⟩) (Kd.R_far (p := ⟨gb181, 0, none⟩) (Kd.R_types HO_122002.out BK181.out (by decide)) (fun _ hk => hk.2) (.slice Ao99 t172.length co99)) (fun _ hk => hk.2) (.slice Ao105 t175.length co105)) (fun _ hk => hk.2) (.slice Ao106 t178.length co106)) (fun _ h_ => h_.1)))); (case side12 => exact (Kd.R_reads' HO_122002.out).2.1); rintro e w109 ⟨rfl, hb⟩; refine ⟨_, rfl, ?_⟩; have n0_ := Aside0.mk (Kd.R_below (by (with_reducible repeat (first | apply Kd.R_alloc | apply Kd.R_drewN | apply Kd.R_drew)); exact (Kd.R_mono (Kd.R_far (p := ⟨gb181, 2, none⟩) (Kd.R_far (p := ⟨gb181, 1, none⟩) (Kd.R_far (p := ⟨gb181, 0, none⟩) (Kd.R_types HO_122000.out BK181.out (by decide)) (fun _ hk => hk.2) (.slice Ao99 t172.length co99)) (fun _ hk => hk.2) (.slice Ao105 t175.length co105)) (fun _ hk => hk.2) (.slice Ao106 t178.length co106)) (fun _ h_ => h_.1))) hb); have n1_ := Aside0.mk (Kd.R_below (by (with_reducible repeat (first | apply Kd.R_alloc | apply Kd.R_drewN | apply Kd.R_drew)); exact (Kd.R_mono (Kd.R_far (p := ⟨gb181, 2, none⟩) (Kd.R_far (p := ⟨gb181, 1, none⟩) (Kd.R_far (p := ⟨gb181, 0, none⟩) (Kd.R_types HO_122001.out BK181.out (by decide)) (fun _ hk => hk.2) (.slice Ao99 t172.length co99)) (fun _ hk => hk.2) (.slice Ao105 t175.length co105)) (fun _ hk => hk.2) (.slice Ao106 t178.length co106)) (fun _ h_ => h_.1))) hb); have n2_ := Aside0.mk (Kd.R_below (by (with_reducible repeat (first | apply Kd.R_alloc | apply Kd.R_drewN | apply Kd.R_drew)); exact (Kd.R_mono (Kd.R_far (p := ⟨gb181, 2, none⟩) (Kd.R_far (p := ⟨gb181, 1, none⟩) (Kd.R_far (p := ⟨gb181, 0, none⟩) (Kd.R_types HO_122002.out BK181.out (by decide)) (fun _ hk => hk.2) (.slice Ao99 t172.length co99)) (fun _ hk => hk.2) (.slice Ao105 t175.length co105)) (fun _ hk => hk.2) (.slice Ao106 t178.length co106)) (fun _ h_ => h_.1))) hb); have n3_ := Aside0.mk (Kd.R_below (by (with_reducible repeat (first | apply Kd.R_alloc | apply Kd.R_drewN | apply Kd.R_drew)); exact (Kd.R_mono (Kd.R_far (p := ⟨gb181, 2, none⟩) (Kd.R_far (p := ⟨gb181, 1, none⟩) (Kd.R_far (p := ⟨gb181, 0, none⟩) (Kd.R_types HO_132000.out BK181.out (by decide)) (fun _ hk => hk.2) (.slice Ao99 t172.length co99)) (fun _ hk => hk.2) (.slice Ao105 t175.length co105)) (fun _ hk => hk.2) (.slice Ao106 t178.length co106)) (fun _ h_ => h_.1))) hb); have n4_ := Aside0.mk (Kd.R_below (by (with_reducible repeat (first | apply Kd.R_alloc | apply Kd.R_drewN | apply Kd.R_drew)); exact (Kd.R_mono (Kd.R_far (p := ⟨gb181, 2, none⟩) (Kd.R_far (p := ⟨gb181, 1, none⟩) (Kd.R_far (p := ⟨gb181, 0, none⟩) (Kd.R_types HO_132001.out BK181.out (by decide)) (fun _ hk => hk.2) (.slice Ao99 t172.length co99)) (fun _ hk => hk.2) (.slice Ao105 t175.length co105)) (fun _ hk => hk.2) (.slice Ao106 t178.length co106)) (fun _ h_ => h_.1))) hb); have n5_ := Aside0.mk (Kd.R_below (by (with_reducible repeat (first | apply Kd.R_alloc | apply Kd.R_drewN | apply Kd.R_drew)); exact (Kd.R_mono (Kd.R_far (p := ⟨gb181, 2, none⟩) (Kd.R_far (p := ⟨gb181, 1, none⟩) (Kd.R_far (p := ⟨gb181, 0, none⟩) (Kd.R_types HO_132002.out BK181.out (by decide)) (fun _ hk => hk.2) (.slice Ao99 t172.length co99)) (fun _ hk => hk.2) (.slice Ao105 t175.length co105)) (fun _ hk => hk.2) (.slice Ao106 t178.length co106)) (fun _ h_ => h_.1))) hb); have n6_ := Aside0.mk (Kd.R_below (by (with_reducible repeat (first | apply Kd.R_alloc | apply Kd.R_drewN | apply Kd.R_drew)); exact (Kd.R_mono (Kd.R_far (p := ⟨gb181, 2, none⟩) (Kd.R_far (p := ⟨gb181, 1, none⟩) (Kd.R_far (p := ⟨gb181, 0, none⟩) (Kd.R_types HO_142000.out BK181.out (by decide)) (fun _ hk => hk.2) (.slice Ao99 t172.length co99)) (fun _ hk => hk.2) (.slice Ao105 t175.length co105)) (fun _ hk => hk.2) (.slice Ao106 t178.length co106)) (fun _ h_ => h_.1))) hb); have n7_ := Aside0.mk (Kd.R_below (by (with_reducible repeat (first | apply Kd.R_alloc | apply Kd.R_drewN | apply Kd.R_drew)); exact (Kd.R_mono (Kd.R_far (p := ⟨gb181, 2, none⟩) (Kd.R_far (p := ⟨gb181, 1, none⟩) (Kd.R_far (p := ⟨gb181, 0, none⟩) (Kd.R_types HO_142001.out BK181.out (by decide)) (fun _ hk => hk.2) (.slice Ao99 t172.length co99)) (fun _ hk => hk.2) (.slice Ao105 t175.length co105)) (fun _ hk => hk.2) (.slice Ao106 t178.length co106)) (fun _ h_ => h_.1))) hb); have n8_ := Aside0.mk (Kd.R_below (by (with_reducible repeat (first | apply Kd.R_alloc | apply Kd.R_drewN | apply Kd.R_drew)); exact (Kd.R_mono (Kd.R_far (p := ⟨gb181, 2, none⟩) (Kd.R_far (p := ⟨gb181, 1, none⟩) (Kd.R_far (p := ⟨gb181, 0, none⟩) (Kd.R_types HO_142002.out BK181.out (by decide)) (fun _ hk => hk.2) (.slice Ao99 t172.length co99)) (fun _ hk => hk.2) (.slice Ao105 t175.length co105)) (fun _ hk => hk.2) (.slice Ao106 t178.length co106)) (fun _ h_ => h_.1))) hb); have n9_ := Aside0.mk (Kd.R_below (by (with_reducible repeat (first | apply Kd.R_alloc | apply Kd.R_drewN | apply Kd.R_drew)); exact (Kd.R_mono (Kd.R_far (p := ⟨gb181, 2, none⟩) (Kd.R_far (p := ⟨gb181, 1, none⟩) (Kd.R_far (p := ⟨gb181, 0, none⟩) (Kd.R_types HO165.out BK181.out (by decide)) (fun _ hk => hk.2) (.slice Ao99 t172.length co99)) (fun _ hk => hk.2) (.slice Ao105 t175.length co105)) (fun _ hk => hk.2) (.slice Ao106 t178.length co106)) (fun _ h_ => h_.1))) hb); have n10_ := Aside0.mk (Kd.R_below (by (with_reducible repeat (first | apply Kd.R_alloc | apply Kd.R_drewN | apply Kd.R_drew)); exact (Kd.R_mono (Kd.R_far (p := ⟨gb181, 2, none⟩) (Kd.R_far (p := ⟨gb181, 1, none⟩) (Kd.R_far (p := ⟨gb181, 0, none⟩) (Kd.R_types HO168.out BK181.out (by decide)) (fun _ hk => hk.2) (.slice Ao99 t172.length co99)) (fun _ hk => hk.2) (.slice Ao105 t175.length co105)) (fun _ hk => hk.2) (.slice Ao106 t178.length co106)) (fun _ h_ => h_.1))) hb); have n11_ := Aside0.mk (Kd.R_below (by (with_reducible repeat (first | apply Kd.R_alloc | apply Kd.R_drewN | apply Kd.R_drew)); exact (Kd.R_mono (Kd.R_far (p := ⟨gb181, 2, none⟩) (Kd.R_far (p := ⟨gb181, 1, none⟩) (Kd.R_far (p := ⟨gb181, 0, none⟩) (Kd.R_types HO171.out BK181.out (by decide)) (fun _ hk => hk.2) (.slice Ao99 t172.length co99)) (fun _ hk => hk.2) (.slice Ao105 t175.length co105)) (fun _ hk => hk.2) (.slice Ao106 t178.length co106)) (fun _ h_ => h_.1))) hb); have n12_ := Aside0.mk (Kd.R_below (by (with_reducible repeat (first | apply Kd.R_alloc | apply Kd.R_drewN | apply Kd.R_drew)); exact (Kd.R_mono (Kd.R_far (p := ⟨gb181, 2, none⟩) (Kd.R_far (p := ⟨gb181, 1, none⟩) (Kd.R_far (p := ⟨gb181, 0, none⟩) (Kd.R_types HO174.out BK181.out (by decide)) (fun _ hk => hk.2) (.slice Ao99 t172.length co99)) (fun _ hk => hk.2) (.slice Ao105 t175.length co105)) (fun _ hk => hk.2) (.slice Ao106 t178.length co106)) (fun _ h_ => h_.1))) hb); have n13_ := Aside0.mk (Kd.R_below (by (with_reducible repeat (first | apply Kd.R_alloc | apply Kd.R_drewN | apply Kd.R_drew)); exact (Kd.R_mono (Kd.R_far (p := ⟨gb181, 2, none⟩) (Kd.R_far (p := ⟨gb181, 1, none⟩) (Kd.R_far (p := ⟨gb181, 0, none⟩) (Kd.R_types HO177.out BK181.out (by decide)) (fun _ hk => hk.2) (.slice Ao99 t172.length co99)) (fun _ hk => hk.2) (.slice Ao105 t175.length co105)) (fun _ hk => hk.2) (.slice Ao106 t178.length co106)) (fun _ h_ => h_.1))) hb); have n14_ := Aside0.mk (Kd.R_below (by (with_reducible repeat (first | apply Kd.R_alloc | apply Kd.R_drewN | apply Kd.R_drew)); exact (Kd.R_mono (Kd.R_far (p := ⟨gb181, 2, none⟩) (Kd.R_far (p := ⟨gb181, 1, none⟩) (Kd.R_far (p := ⟨gb181, 0, none⟩) (Kd.R_types HO180.out BK181.out (by decide)) (fun _ hk => hk.2) (.slice Ao99 t172.length co99)) (fun _ hk => hk.2) (.slice Ao105 t175.length co105)) (fun _ hk => hk.2) (.slice Ao106 t178.length co106)) (fun _ h_ => h_.1))) hb); have n15_ := Aside0.mk (qao (g := gb101) (o := .cells #[.slice A0_0 l0_0.length c0_0, .slice A0_1 l0_1.length c0_1, .slice A0_2 l0_2.length c0_2] 25 (0, 0)) (by (with_reducible repeat (first | refine qah ?_ _ | refine qai ?_ | refine qag ?_ _)); refine qbd ?_ NB101_181.out _; (with_reducible repeat (first | refine qah ?_ _ | refine qai ?_ | refine qag ?_ _)); refine qbd ?_ NB101_181.out _; (with_reducible repeat (first | refine qah ?_ _ | refine qai ?_ | refine qag ?_ _)); refine qbd ?_ NB101_181.out _; (with_reducible repeat (first | refine qah ?_ _ | refine qai ?_ | refine qag ?_ _)); exact BK101.out) hb); have n16_ := Aside0.mk (qao (g := gb121) (o := .cells #[.slice Ao28 t112.length co28, .slice Ao31 t115.length co31, .slice Ao32 t118.length co32] 31 (0, 0)) (by (with_reducible repeat (first | refine qah ?_ _ | refine qai ?_ | refine qag ?_ _)); refine qbd ?_ NB121_181.out _; (with_reducible repeat (first | refine qah ?_ _ | refine qai ?_ | refine qag ?_ _)); refine qbd ?_ NB121_181.out _; (with_reducible repeat (first | refine qah ?_ _ | refine qai ?_ | refine qag ?_ _)); refine qbd ?_ NB121_181.out _; (with_reducible repeat (first | refine qah ?_ _ | refine qai ?_ | refine qag ?_ _)); exact BK121.out) hb); have n17_ := Aside0.mk (qao (g := gb131) (o := .cells #[.slice Ao36 t154.length co36, .slice Ao40 t155.length co40, .slice Ao41 t156.length co41] 31 (0, 0)) (by (with_reducible repeat (first | refine qah ?_ _ | refine qai ?_ | refine qag ?_ _)); refine qbd ?_ NB131_181.out _; (with_reducible repeat (first | refine qah ?_ _ | refine qai ?_ | refine qag ?_ _)); refine qbd ?_ NB131_181.out _; (with_reducible repeat (first | refine qah ?_ _ | refine qai ?_ | refine qag ?_ _)); refine qbd ?_ NB131_181.out _; (with_reducible repeat (first | refine qah ?_ _ | refine qai ?_ | refine qag ?_ _)); exact BK131.out) hb); have n18_ := Aside0.mk (qao (g := gb141) (o := .cells #[.slice Ao44 t132.length co44, .slice Ao49 t135.length co49, .slice Ao50 t138.length co50] 31 (0, 0)) (by (with_reducible repeat (first | refine qah ?_ _ | refine qai ?_ | refine qag ?_ _)); refine qbd ?_ NB141_181.out _; (with_reducible repeat (first | refine qah ?_ _ | refine qai ?_ | refine qag ?_ _)); refine qbd ?_ NB141_181.out _; (with_reducible repeat (first | refine qah ?_ _ | refine qai ?_ | refine qag ?_ _)); refine qbd ?_ NB141_181.out _; (with_reducible repeat (first | refine qah ?_ _ | refine qai ?_ | refine qag ?_ _)); exact BK141.out) hb); have n19_ := Aside0.mk (qao (g := gb181) (o := .cells #[.slice Ao99 t172.length co99, .slice Ao105 t175.length co105, .slice Ao106 t178.length co106] 31 (0, 0)) (by (with_reducible repeat (first | refine qah ?_ _ | refine qai ?_ | refine qag ?_ _)); refine qbg (cs := #[.slice Ao99 t172.length co99, .slice Ao105 t175.length co105, .slice none 0 0]) ?_ 2 _ rfl; (with_reducible repeat (first | refine qah ?_ _ | refine qai ?_ | refine qag ?_ _)); refine qbg (cs := #[.slice Ao99 t172.length co99, .slice none 0 0, .slice none 0 0]) ?_ 1 _ rfl; (with_reducible repeat (first | refine qah ?_ _ | refine qai ?_ | refine qag ?_ _)); refine qbg (cs := #[.slice none 0 0, .slice none 0 0, .slice none 0 0]) ?_ 0 _ rfl; (with_reducible repeat (first | refine qah ?_ _ | refine qai ?_ | refine qag ?_ _)); exact BK181.out) hb); have n20_ := Aside0.mk (qak (by repeat (first | (with_reducible first | exact HB.out | apply qab | apply qaa | apply qac | refine qae ?_ GE101.out | refine qae ?_ GE121.out | refine qae ?_ GE131.out | refine qae ?_ GE141.out | refine qae ?_ GE181.out) | exact HB.out)) hb); clear HO_122000; clear HO_122001; clear HO_122002; clear HO_132000; clear HO_132001; clear HO_132002; clear HO_142000; clear HO_142001; clear HO_142002; clear HO165; clear HO168; clear HO171; clear HO174; clear HO177; clear HO180; clear BK101; clear BK121; clear BK131; clear BK141; clear BK181; clear HB; have HO_122000 := n0_; have HO_122001 := n1_; have HO_122002 := n2_; have HO_132000 := n3_; have HO_132001 := n4_; have HO_132002 := n5_; have HO_142000 := n6_; have HO_142001 := n7_; have HO_142002 := n8_; have HO165 := n9_; have HO168 := n10_; have HO171 := n11_; have HO174 := n12_; have HO177 := n13_; have HO180 := n14_; have BK101 := n15_; have BK121 := n16_; have BK131 := n17_; have BK141 := n18_; have BK181 := n19_; have HB := n20_; clear n0_ n1_ n2_ n3_ n4_ n5_ n6_ n7_ n8_ n9_ n10_ n11_ n12_ n13_ n14_ n15_ n16_ n17_ n18_ n19_ n20_; (try clear hb); (try clear hb2); (try clear hk); (try clear hi); have hcz110_0 : w109.cell? ⟨gb141, 0, none⟩ = some (.slice Ao44 t132.length co44) := (qaf BK141.out 0).trans rfl; have hcz110_1 : w109.cell? ⟨gb141, 1, none⟩ = some (.slice Ao49 t135.length co49) := (qaf BK141.out 1).trans rfl; have hcz110_2 : w109.cell? ⟨gb141, 2, none⟩ = some (.slice Ao50 t138.length co50) := (qaf BK141.out 2).trans rfl; have hfz110_0 := qad BK141.out 0; have hfz110_1 := qad BK141.out 1; have hfz110_2 := qad BK141.out 2) | ((with_reducible refine qaq (f := 30) rfl ?_); refine qav (some 63) rfl rfl Try.func30 (by kernel_rfl) rfl #[.agg #[.slice Ao44 t159.length co44, .slice Ao49 t160.length co49, .slice Ao50 t161.length co50], .int .i64 1] rfl (by (try simp only [List.map_toArray, List.map_cons, List.map_nil]); first | done | (rw [show t159.length = t132.length from (Kd.R_reads' HO_142000.out).1.symm, show t160.length = t135.length from (Kd.R_reads' HO_142001.out).1.symm, show t161.length = t138.length from (Kd.R_reads' HO_142002.out).1.symm] <;> rfl) | rfl | (simp only [List.length_drop, List.length_take]; rfl)) ?_; (with_reducible refine (laws_heldDisk.calls kj16 _ _ t159 _ _ t160 _ _ t161 1 t183 _ ?side1 ?side2 ?side3 ?side4 ?side5 ?side6 A80.out).mono ?_); (case side1 => repeat (first | exact (Kd.R_reads' HO_142000.out).2.2 | (with_reducible refine Kd.C_alloc ?_ _) | (with_reducible refine Kd.C_drewN ?_ _) | (with_reducible refine Kd.C_drew ?_))); (case side2 => rw [show t159.length = t132.length from (Kd.R_reads' HO_142000.out).1.symm]; exact (Kd.R_reads' HO_142000.out).2.1); (case side3 => repeat (first | exact (Kd.R_reads' HO_142001.out).2.2 | (with_reducible refine Kd.C_alloc ?_ _) | (with_reducible refine Kd.C_drewN ?_ _) | (with_reducible refine Kd.C_drew ?_))); (case side4 => rw [show t160.length = t135.length from (Kd.R_reads' HO_142001.out).1.symm]; exact (Kd.R_reads' HO_142001.out).2.1); (case side5 => repeat (first | exact (Kd.R_reads' HO_142002.out).2.2 | (with_reducible refine Kd.C_alloc ?_ _) | (with_reducible refine Kd.C_drewN ?_ _) | (with_reducible refine Kd.C_drew ?_))); (case side6 => rw [show t161.length = t138.length from (Kd.R_reads' HO_142002.out).1.symm]; exact (Kd.R_reads' HO_142002.out).2.1); rintro e w111 ⟨rfl, hb⟩; refine ⟨_, rfl, ?_⟩; have n0_ := Aside0.mk (Kd.R_below (by (with_reducible repeat (first | apply Kd.R_alloc | apply Kd.R_drewN | apply Kd.R_drew)); exact HO_122000.out) hb); have n1_ := Aside0.mk (Kd.R_below (by (with_reducible repeat (first | apply Kd.R_alloc | apply Kd.R_drewN | apply Kd.R_drew)); exact HO_122001.out) hb); have n2_ := Aside0.mk (Kd.R_below (by (with_reducible repeat (first | apply Kd.R_alloc | apply Kd.R_drewN | apply Kd.R_drew)); exact HO_122002.out) hb); have n3_ := Aside0.mk (Kd.R_below (by (with_reducible repeat (first | apply Kd.R_alloc | apply Kd.R_drewN | apply Kd.R_drew)); exact HO_132000.out) hb); have n4_ := Aside0.mk (Kd.R_below (by (with_reducible repeat (first | apply Kd.R_alloc | apply Kd.R_drewN | apply Kd.R_drew)); exact HO_132001.out) hb); have n5_ := Aside0.mk (Kd.R_below (by (with_reducible repeat (first | apply Kd.R_alloc | apply Kd.R_drewN | apply Kd.R_drew)); exact HO_132002.out) hb); have n6_ := Aside0.mk (Kd.R_below (by (with_reducible repeat (first | apply Kd.R_alloc | apply Kd.R_drewN | apply Kd.R_drew)); exact HO_142000.out) hb); have n7_ := Aside0.mk (Kd.R_below (by (with_reducible repeat (first | apply Kd.R_alloc | apply Kd.R_drewN | apply Kd.R_drew)); exact HO_142001.out) hb); have n8_ := Aside0.mk (Kd.R_below (by (with_reducible repeat (first | apply Kd.R_alloc | apply Kd.R_drewN | apply Kd.R_drew)); exact HO_142002.out) hb); have n9_ := Aside0.mk (Kd.R_below (by (with_reducible repeat (first | apply Kd.R_alloc | apply Kd.R_drewN | apply Kd.R_drew)); exact HO165.out) hb); have n10_ := Aside0.mk (Kd.R_below (by (with_reducible repeat (first | apply Kd.R_alloc | apply Kd.R_drewN | apply Kd.R_drew)); exact HO168.out) hb); have n11_ := Aside0.mk (Kd.R_below (by (with_reducible repeat (first | apply Kd.R_alloc | apply Kd.R_drewN | apply Kd.R_drew)); exact HO171.out) hb); have n12_ := Aside0.mk (Kd.R_below (by (with_reducible repeat (first | apply Kd.R_alloc | apply Kd.R_drewN | apply Kd.R_drew)); exact HO174.out) hb); have n13_ := Aside0.mk (Kd.R_below (by (with_reducible repeat (first | apply Kd.R_alloc | apply Kd.R_drewN | apply Kd.R_drew)); exact HO177.out) hb); have n14_ := Aside0.mk (Kd.R_below (by (with_reducible repeat (first | apply Kd.R_alloc | apply Kd.R_drewN | apply Kd.R_drew)); exact HO180.out) hb); have n15_ := Aside0.mk (qao (g := gb101) (o := .cells #[.slice A0_0 l0_0.length c0_0, .slice A0_1 l0_1.length c0_1, .slice A0_2 l0_2.length c0_2] 25 (0, 0)) (by (with_reducible repeat (first | refine qah ?_ _ | refine qai ?_ | refine qag ?_ _)); exact BK101.out) hb); have n16_ := Aside0.mk (qao (g := gb121) (o := .cells #[.slice Ao28 t112.length co28, .slice Ao31 t115.length co31, .slice Ao32 t118.length co32] 31 (0, 0)) (by (with_reducible repeat (first | refine qah ?_ _ | refine qai ?_ | refine qag ?_ _)); exact BK121.out) hb); have n17_ := Aside0.mk (qao (g := gb131) (o := .cells #[.slice Ao36 t154.length co36, .slice Ao40 t155.length co40, .slice Ao41 t156.length co41] 31 (0, 0)) (by (with_reducible repeat (first | refine qah ?_ _ | refine qai ?_ | refine qag ?_ _)); exact BK131.out) hb); have n18_ := Aside0.mk (qao (g := gb141) (o := .cells #[.slice Ao44 t132.length co44, .slice Ao49 t135.length co49, .slice Ao50 t138.length co50] 31 (0, 0)) (by (with_reducible repeat (first | refine qah ?_ _ | refine qai ?_ | refine qag ?_ _)); exact BK141.out) hb); have n19_ := Aside0.mk (qao (g := gb181) (o := .cells #[.slice Ao99 t172.length co99, .slice Ao105 t175.length co105, .slice Ao106 t178.length co106] 31 (0, 0)) (by (with_reducible repeat (first | refine qah ?_ _ | refine qai ?_ | refine qag ?_ _)); exact BK181.out) hb); have n20_ := Aside0.mk (qak (by repeat (first | (with_reducible first | exact HB.out | apply qab | apply qaa | apply qac | refine qae ?_ GE101.out | refine qae ?_ GE121.out | refine qae ?_ GE131.out | refine qae ?_ GE141.out | refine qae ?_ GE181.out) | exact HB.out)) hb); clear HO_122000; clear HO_122001; clear HO_122002; clear HO_132000; clear HO_132001; clear HO_132002; clear HO_142000; clear HO_142001; clear HO_142002; clear HO165; clear HO168; clear HO171; clear HO174; clear HO177; clear HO180; clear BK101; clear BK121; clear BK131; clear BK141; clear BK181; clear HB; have HO_122000 := n0_; have HO_122001 := n1_; have HO_122002 := n2_; have HO_132000 := n3_; have HO_132001 := n4_; have HO_132002 := n5_; have HO_142000 := n6_; have HO_142001 := n7_; have HO_142002 := n8_; have HO165 := n9_; have HO168 := n10_; have HO171 := n11_; have HO174 := n12_; have HO177 := n13_; have HO180 := n14_; have BK101 := n15_; have BK121 := n16_; have BK131 := n17_; have BK141 := n18_; have BK181 := n19_; have HB := n20_; clear n0_ n1_ n2_ n3_ n4_ n5_ n6_ n7_ n8_ n9_ n10_ n11_ n12_ n13_ n14_ n15_ n16_ n17_ n18_ n19_ n20_; (try clear hb); (try clear hb2); (try clear hk); (try clear hi)))
                       go_ret
                       exact ⟨by first | rfl | (simp [qal, qam] <;> rfl) | (simp [*, qal, qam] <;> rfl), by repeat (first | (with_reducible first | exact HB.out | apply qab | apply qaa | apply qac | refine qae ?_ GE101.out | refine qae ?_ GE121.out | refine qae ?_ GE131.out | refine qae ?_ GE141.out | refine qae ?_ GE181.out) | exact HB.out)⟩
                     · rw [if_neg c82] at H
                       have c82b0 : (t183 == t158) = false := beq_eq_false_iff_ne.mpr c82
                       have c82b1 : (t183 != t158) = true := bne_iff_ne.mpr c82
                       exact absurd (Option.some.inj H) (by decide)
                 · replace c79 := Bool.eq_false_iff.mpr c79
                   subst c79
                   have H1 : (some false) = some true := by rw [if_neg (show ¬ (false = true) by decide)] at H; exact H
                   clear H
                   have H := H1
                   clear H1
                   exact absurd (Option.some.inj H) (by decide)
               · rw [if_neg c75] at H
                 have c75b0 : (t162 == t158) = false := beq_eq_false_iff_ne.mpr c75
                 have c75b1 : (t162 != t158) = true := bne_iff_ne.mpr c75
                 exact absurd (Option.some.inj H) (by decide)
     · replace c15 := Bool.eq_false_iff.mpr c15
       subst c15
       have H1 : (some false) = some true := by rw [if_neg (show ¬ (false = true) by decide)] at H; exact H
       clear H
       have H := H1
       clear H1
       exact absurd (Option.some.inj H) (by decide)
   · replace c12 := Bool.eq_false_iff.mpr c12
     subst c12
     have H1 : (some false) = some true := by rw [if_neg (show ¬ (false = true) by decide)] at H; exact H
     clear H
     have H := H1
     clear H1
     exact absurd (Option.some.inj H) (by decide)

end

section
theorem qeh (l : List S108) (i : Nat) (h : i < l.length) : qbe l (i : Int) = l[i] := by
 unfold qbe
 rw [Int.toNat_natCast, List.getD_eq_getElem?_getD, List.getElem?_eq_getElem h]
 rfl
def qcu (x : S108) : S73 := ⟨x.f0, x.f1, x.f2, x.f3⟩
theorem laws_szDOp.eq (x0 : Int) (x1 : ByteArray) (x2 : ByteArray) (x3 : ByteArray) (a : Int) (h0 : 0 ≤ a) (h1 : a ≤ 1048576) (o1 : x1.size ≤ 9223372036854775807) (o2 : x2.size ≤ 9223372036854775807) (o3 : x3.size ≤ 9223372036854775807) : ∃ v, laws_szDOp.f x0 x1 x2 x3 a = some v ∧ (v < 0 ∨ (0 ≤ v ∧ v ≤ a ∧ x1.size ≤ 1048576 ∧ x2.size ≤ 1048576 ∧ x3.size ≤ 1048576)) := by
 unfold laws_szDOp.f
 rw [qbc (x := a - (x1.size : Int)) (by omega) (by omega)]
 by_cases c1 : a - (x1.size : Int) < 0
 · exact ⟨-1, by rw [if_pos c1], .inl (by omega)⟩
 rw [if_neg c1]
 rw [qbc (x := a - (x1.size : Int) - (x2.size : Int)) (by omega) (by omega)]
 by_cases c2 : a - (x1.size : Int) - (x2.size : Int) < 0
 · exact ⟨-1, by rw [if_pos c2], .inl (by omega)⟩
 rw [if_neg c2]
 rw [qbc (x := a - (x1.size : Int) - (x2.size : Int) - (x3.size : Int)) (by omega) (by omega)]
 by_cases c3 : a - (x1.size : Int) - (x2.size : Int) - (x3.size : Int) < 0
 · exact ⟨-1, by rw [if_pos c3], .inl (by omega)⟩
 rw [if_neg c3]
 exact ⟨_, rfl, .inr ⟨by omega, by omega, by omega, by omega, by omega⟩⟩
theorem laws_szDOpS.l0_ok (l : List S108) (ho : ∀ x ∈ l, x.f1.size ≤ 9223372036854775807 ∧ x.f2.size ≤ 9223372036854775807 ∧ x.f3.size ≤ 9223372036854775807) (hl : l.length ≤ 9223372036854775807) (d : Nat) : ∀ (i : Nat) (a : Int), l.length - i = d → i ≤ l.length → 0 ≤ a → a ≤ 1048576 → ∃ r, Ev (fun k => laws_szDOpS.l0 k l a i) r ∧ (r < 0 ∨ (0 ≤ r ∧ r ≤ a ∧ ∀ x ∈ l.drop i, x.f1.size ≤ 1048576 ∧ x.f2.size ≤ 1048576 ∧ x.f3.size ≤ 1048576)) := by
 induction d with
 | zero =>
   intro i a hd hi h0 h1
   refine ⟨a, ?_, .inr ⟨h0, Int.le_refl _, fun x hx => ?_⟩⟩
   · refine Ev.step (fun k => by rw [laws_szDOpS.l0]) ?_
     exact Ev.neg (by omega) (Ev.ret _)
   · rw [List.drop_of_length_le (by omega)] at hx
     cases hx
 | succ d ih =>
   intro i a hd hi h0 h1
   have hlt : i < l.length := by omega
   have hox := ho _ (List.getElem_mem hlt)
   obtain ⟨v, hv, hv'⟩ := laws_szDOp.eq (l[i]).f0 (l[i]).f1 (l[i]).f2 (l[i]).f3 a h0 h1 hox.1 hox.2.1 hox.2.2
   have e2 : wrap64 ((i : Int) + 1) = ((i + 1 : Nat) : Int) := by rw [qbc (by omega) (by omega)]; omega
   rcases hv' with hv' | ⟨v0, v1, vs⟩
   · refine ⟨-1, ?_, .inl (by omega)⟩
     refine Ev.step (fun k => by rw [laws_szDOpS.l0]) ?_
     refine Ev.pos (by omega) (Ev.pos (by omega) ?_)
     rw [qeh l i hlt]
     exact Ev.bindS hv (Ev.pos hv' (Ev.ret _))
   · obtain ⟨r, hr, hr'⟩ := ih (i + 1) v (by omega) (by omega) v0 (by omega)
     refine ⟨r, ?_, ?_⟩
     · refine Ev.step (fun k => by rw [laws_szDOpS.l0]) ?_
       refine Ev.pos (by omega) (Ev.pos (by omega) ?_)
       rw [qeh l i hlt, e2]
       exact Ev.bindS hv (Ev.neg (by omega) hr)
     · rcases hr' with hr' | ⟨r0, r1, rs⟩
       · exact .inl hr'
       · refine .inr ⟨r0, by omega, fun x hx => ?_⟩
         rw [List.drop_eq_getElem_cons hlt] at hx
         rcases List.mem_cons.1 hx with rfl | hx
         · exact vs
         · exact rs x hx
theorem laws_szDOpS.sz (l : List S108) (a : Int) (h0 : 0 ≤ a) (h1 : a ≤ 1048576) (hl : l.length ≤ maxLen) (ho : ∀ x ∈ l, x.f1.size ≤ 9223372036854775807 ∧ x.f2.size ≤ 9223372036854775807 ∧ x.f3.size ≤ 9223372036854775807) : ∃ r, Ev (fun k => laws_szDOpS.f k l a) r ∧ (r < 0 ∨ (0 ≤ r ∧ r ≤ a ∧ l.length ≤ 1048576 ∧ ∀ x ∈ l, x.f1.size ≤ 1048576 ∧ x.f2.size ≤ 1048576 ∧ x.f3.size ≤ 1048576)) := by
 unfold maxLen at hl
 unfold laws_szDOpS.f
 rw [qbc (x := a - (l.length : Int)) (by omega) (by omega)]
 by_cases h : a - (l.length : Int) < 0
 · exact ⟨-1, Ev.pos h (Ev.ret _), .inl (by omega)⟩
 · obtain ⟨r, hr, hr'⟩ := laws_szDOpS.l0_ok l ho hl _ 0 (a - (l.length : Int)) rfl (Nat.zero_le _) (by omega) (by omega)
   refine ⟨r, Ev.neg h hr, ?_⟩
   rcases hr' with hr' | ⟨r0, r1, rs⟩
   · exact .inl hr'
   · exact .inr ⟨r0, by omega, by omega, rs⟩
theorem fillM_step_DOpS (l : List S108) (i : Nat) (h : i < l.length) : ((l.take i).map qcu ++ List.replicate (l.length - i) z73).set i (qcu l[i]) = (l.take (i + 1)).map qcu ++ List.replicate (l.length - (i + 1)) z73 := by
 have e : l.length - i = (l.length - (i + 1)) + 1 := by omega
 rw [e, List.replicate_succ, List.set_append_right _ _ (by rw [List.length_map, List.length_take]; omega), List.length_map, List.length_take, Nat.min_eq_left (by omega), Nat.sub_self, List.set_cons_zero, List.take_succ_eq_append_getElem h, List.map_append, List.append_assoc]
 rfl
theorem laws_toDOpS.l0_ev (l : List S108) (hl : l.length ≤ 1048576) (d : Nat) : ∀ i : Nat, l.length - i = d → i ≤ l.length →
   Ev (fun k => laws_toDOpS.l0 k l ((l.take i).map qcu ++ List.replicate (l.length - i) z73) i) (l.map qcu) := by
 induction d with
 | zero =>
   intro i hd hi
   refine Ev.step (fun k => by rw [laws_toDOpS.l0]) ?_
   refine Ev.neg (by omega) (Ev.ret' ?_)
   rw [List.take_of_length_le (by omega), Nat.sub_eq_zero_of_le (by omega), List.replicate_zero, List.append_nil]
 | succ d ih =>
   intro i hd hi
   have hlt : i < l.length := by omega
   refine Ev.step (fun k => by rw [laws_toDOpS.l0]) ?_
   refine Ev.pos (by omega) (Ev.pos (by omega) ?_)
   refine Ev.bindS rfl (Ev.pos (by rw [List.length_append, List.length_map, List.length_take, List.length_replicate]; omega) ?_)
   have hn := ih (i + 1) (by omega) (by omega)
   rw [show ((i + 1 : Nat) : Int) = wrap64 ((i : Int) + 1) from by rw [qbc (by omega) (by omega)]; omega] at hn
   rw [qeh l i hlt, Int.toNat_natCast]
   have hf := fillM_step_DOpS l i hlt
   unfold qcu at hf hn ⊢
   rw [hf]
   exact hn
theorem laws_toDOpS.ev (l : List S108) (hl : l.length ≤ 1048576) : Ev (fun k => laws_toDOpS.f k l) (l.map qcu) := by
 unfold laws_toDOpS.f
 refine Ev.pos (by omega) (Ev.pos (by omega) ?_)
 have := laws_toDOpS.l0_ev l hl _ 0 rfl (Nat.zero_le _)
 simpa using this
theorem laws_eqDOpS.refl0 (l : List S73) (hl : l.length ≤ 1099511627776) (d : Nat) : ∀ i : Nat, l.length - i = d → i ≤ l.length → Ev (fun k => laws_eqDOpS.l0 k l l i) true := by
 induction d with
 | zero =>
   intro i hd hi
   refine Ev.step (fun k => by rw [laws_eqDOpS.l0]) ?_
   exact Ev.neg (by omega) (Ev.ret _)
 | succ d ih =>
   intro i hd hi
   refine Ev.step (fun k => by rw [laws_eqDOpS.l0]) ?_
   refine Ev.pos (by omega) (Ev.pos (by omega) (Ev.pos (by omega) ?_))
   refine Ev.bindS (show laws_eqDOp.f (qap l (i : Int)).f0 (qap l (i : Int)).f1 (qap l (i : Int)).f2 (qap l (i : Int)).f3 (qap l (i : Int)).f0 (qap l (i : Int)).f1 (qap l (i : Int)).f2 (qap l (i : Int)).f3 = some true from by unfold laws_eqDOp.f; simp) (Ev.pos rfl ?_)
   have hn := ih (i + 1) (by omega) (by omega)
   rw [show ((i + 1 : Nat) : Int) = wrap64 ((i : Int) + 1) from by rw [qbc (by omega) (by omega)]; omega] at hn
   exact hn
theorem laws_eqDOpS.refl (l : List S73) (hl : l.length ≤ 1099511627776) : Ev (fun k => laws_eqDOpS.f k l l) true := by
 unfold laws_eqDOpS.f
 exact Ev.pos rfl (laws_eqDOpS.refl0 l hl _ 0 rfl (Nat.zero_le _))

end

section
theorem qei (l : List S106) (i : Nat) (h : i < l.length) : qbn l (i : Int) = l[i] := by
 unfold qbn
 rw [Int.toNat_natCast, List.getD_eq_getElem?_getD, List.getElem?_eq_getElem h]
 rfl
def qbj (x : S106) : S80 := ⟨x.f0, x.f1⟩
theorem laws_szFile.eq (x0 : ByteArray) (x1 : ByteArray) (a : Int) (h0 : 0 ≤ a) (h1 : a ≤ 1048576) (o0 : x0.size ≤ 9223372036854775807) (o1 : x1.size ≤ 9223372036854775807) : ∃ v, laws_szFile.f x0 x1 a = some v ∧ (v < 0 ∨ (0 ≤ v ∧ v ≤ a ∧ x0.size ≤ 1048576 ∧ x1.size ≤ 1048576)) := by
 unfold laws_szFile.f
 rw [qbc (x := a - (x0.size : Int)) (by omega) (by omega)]
 by_cases c0 : a - (x0.size : Int) < 0
 · exact ⟨-1, by rw [if_pos c0], .inl (by omega)⟩
 rw [if_neg c0]
 rw [qbc (x := a - (x0.size : Int) - (x1.size : Int)) (by omega) (by omega)]
 by_cases c1 : a - (x0.size : Int) - (x1.size : Int) < 0
 · exact ⟨-1, by rw [if_pos c1], .inl (by omega)⟩
 rw [if_neg c1]
 exact ⟨_, rfl, .inr ⟨by omega, by omega, by omega, by omega⟩⟩
theorem laws_szFileS.l0_ok (l : List S106) (ho : ∀ x ∈ l, x.f0.size ≤ 9223372036854775807 ∧ x.f1.size ≤ 9223372036854775807) (hl : l.length ≤ 9223372036854775807) (d : Nat) : ∀ (i : Nat) (a : Int), l.length - i = d → i ≤ l.length → 0 ≤ a → a ≤ 1048576 → ∃ r, Ev (fun k => laws_szFileS.l0 k l a i) r ∧ (r < 0 ∨ (0 ≤ r ∧ r ≤ a ∧ ∀ x ∈ l.drop i, x.f0.size ≤ 1048576 ∧ x.f1.size ≤ 1048576)) := by
 induction d with
 | zero =>
   intro i a hd hi h0 h1
   refine ⟨a, ?_, .inr ⟨h0, Int.le_refl _, fun x hx => ?_⟩⟩
   · refine Ev.step (fun k => by rw [laws_szFileS.l0]) ?_
     exact Ev.neg (by omega) (Ev.ret _)
   · rw [List.drop_of_length_le (by omega)] at hx
     cases hx
 | succ d ih =>
   intro i a hd hi h0 h1
   have hlt : i < l.length := by omega
   have hox := ho _ (List.getElem_mem hlt)
   obtain ⟨v, hv, hv'⟩ := laws_szFile.eq (l[i]).f0 (l[i]).f1 a h0 h1 hox.1 hox.2
   have e2 : wrap64 ((i : Int) + 1) = ((i + 1 : Nat) : Int) := by rw [qbc (by omega) (by omega)]; omega
   rcases hv' with hv' | ⟨v0, v1, vs⟩
   · refine ⟨-1, ?_, .inl (by omega)⟩
     refine Ev.step (fun k => by rw [laws_szFileS.l0]) ?_
     refine Ev.pos (by omega) (Ev.pos (by omega) ?_)
     rw [qei l i hlt]
     exact Ev.bindS hv (Ev.pos hv' (Ev.ret _))
   · obtain ⟨r, hr, hr'⟩ := ih (i + 1) v (by omega) (by omega) v0 (by omega)
     refine ⟨r, ?_, ?_⟩
     · refine Ev.step (fun k => by rw [laws_szFileS.l0]) ?_
       refine Ev.pos (by omega) (Ev.pos (by omega) ?_)
       rw [qei l i hlt, e2]
       exact Ev.bindS hv (Ev.neg (by omega) hr)
     · rcases hr' with hr' | ⟨r0, r1, rs⟩
       · exact .inl hr'
       · refine .inr ⟨r0, by omega, fun x hx => ?_⟩
         rw [List.drop_eq_getElem_cons hlt] at hx
         rcases List.mem_cons.1 hx with rfl | hx
         · exact vs
         · exact rs x hx
theorem laws_szFileS.sz (l : List S106) (a : Int) (h0 : 0 ≤ a) (h1 : a ≤ 1048576) (hl : l.length ≤ maxLen) (ho : ∀ x ∈ l, x.f0.size ≤ 9223372036854775807 ∧ x.f1.size ≤ 9223372036854775807) : ∃ r, Ev (fun k => laws_szFileS.f k l a) r ∧ (r < 0 ∨ (0 ≤ r ∧ r ≤ a ∧ l.length ≤ 1048576 ∧ ∀ x ∈ l, x.f0.size ≤ 1048576 ∧ x.f1.size ≤ 1048576)) := by
 unfold maxLen at hl
 unfold laws_szFileS.f
 rw [qbc (x := a - (l.length : Int)) (by omega) (by omega)]
 by_cases h : a - (l.length : Int) < 0
 · exact ⟨-1, Ev.pos h (Ev.ret _), .inl (by omega)⟩
 · obtain ⟨r, hr, hr'⟩ := laws_szFileS.l0_ok l ho hl _ 0 (a - (l.length : Int)) rfl (Nat.zero_le _) (by omega) (by omega)
   refine ⟨r, Ev.neg h hr, ?_⟩
   rcases hr' with hr' | ⟨r0, r1, rs⟩
   · exact .inl hr'
   · exact .inr ⟨r0, by omega, by omega, rs⟩
theorem qer (l : List S106) (i : Nat) (h : i < l.length) : ((l.take i).map qbj ++ List.replicate (l.length - i) z80).set i (qbj l[i]) = (l.take (i + 1)).map qbj ++ List.replicate (l.length - (i + 1)) z80 := by
 have e : l.length - i = (l.length - (i + 1)) + 1 := by omega
 rw [e, List.replicate_succ, List.set_append_right _ _ (by rw [List.length_map, List.length_take]; omega), List.length_map, List.length_take, Nat.min_eq_left (by omega), Nat.sub_self, List.set_cons_zero, List.take_succ_eq_append_getElem h, List.map_append, List.append_assoc]
 rfl
theorem laws_toFileS.l0_ev (l : List S106) (hl : l.length ≤ 1048576) (d : Nat) : ∀ i : Nat, l.length - i = d → i ≤ l.length →
   Ev (fun k => laws_toFileS.l0 k l ((l.take i).map qbj ++ List.replicate (l.length - i) z80) i) (l.map qbj) := by
 induction d with
 | zero =>
   intro i hd hi
   refine Ev.step (fun k => by rw [laws_toFileS.l0]) ?_
   refine Ev.neg (by omega) (Ev.ret' ?_)
   rw [List.take_of_length_le (by omega), Nat.sub_eq_zero_of_le (by omega), List.replicate_zero, List.append_nil]
 | succ d ih =>
   intro i hd hi
   have hlt : i < l.length := by omega
   refine Ev.step (fun k => by rw [laws_toFileS.l0]) ?_
   refine Ev.pos (by omega) (Ev.pos (by omega) ?_)
   refine Ev.bindS rfl (Ev.pos (by rw [List.length_append, List.length_map, List.length_take, List.length_replicate]; omega) ?_)
   have hn := ih (i + 1) (by omega) (by omega)
   rw [show ((i + 1 : Nat) : Int) = wrap64 ((i : Int) + 1) from by rw [qbc (by omega) (by omega)]; omega] at hn
   rw [qei l i hlt, Int.toNat_natCast]
   have hf := qer l i hlt
   unfold qbj at hf hn ⊢
   rw [hf]
   exact hn
theorem laws_toFileS.ev (l : List S106) (hl : l.length ≤ 1048576) : Ev (fun k => laws_toFileS.f k l) (l.map qbj) := by
 unfold laws_toFileS.f
 refine Ev.pos (by omega) (Ev.pos (by omega) ?_)
 have := laws_toFileS.l0_ev l hl _ 0 rfl (Nat.zero_le _)
 simpa using this
theorem laws_eqFileS.refl0 (l : List S80) (hl : l.length ≤ 1099511627776) (d : Nat) : ∀ i : Nat, l.length - i = d → i ≤ l.length → Ev (fun k => laws_eqFileS.l0 k l l i) true := by
 induction d with
 | zero =>
   intro i hd hi
   refine Ev.step (fun k => by rw [laws_eqFileS.l0]) ?_
   exact Ev.neg (by omega) (Ev.ret _)
 | succ d ih =>
   intro i hd hi
   refine Ev.step (fun k => by rw [laws_eqFileS.l0]) ?_
   refine Ev.pos (by omega) (Ev.pos (by omega) (Ev.pos (by omega) ?_))
   refine Ev.bindS (show laws_eqFile.f (qan l (i : Int)).f0 (qan l (i : Int)).f1 (qan l (i : Int)).f0 (qan l (i : Int)).f1 = some true from by unfold laws_eqFile.f; simp) (Ev.pos rfl ?_)
   have hn := ih (i + 1) (by omega) (by omega)
   rw [show ((i + 1 : Nat) : Int) = wrap64 ((i : Int) + 1) from by rw [qbc (by omega) (by omega)]; omega] at hn
   exact hn
theorem laws_eqFileS.refl (l : List S80) (hl : l.length ≤ 1099511627776) : Ev (fun k => laws_eqFileS.f k l l) true := by
 unfold laws_eqFileS.f
 exact Ev.pos rfl (laws_eqFileS.refl0 l hl _ 0 rfl (Nat.zero_le _))

end

section
def okI (k : IntKind) (x : Int) : Prop := (Lit.int k x).wf = true
def okB (_ : Bool) : Prop := True
def okS (s : ByteArray) : Prop := s.size ≤ maxLen
def okL {α : Type} (ok : α → Prop) (l : List α) : Prop := l.length ≤ maxLen ∧ ∀ x ∈ l, ok x
def Opens {α : Type} (P : Program) (t : TypeId) (d : Kd α) (ok : α → Prop) : Prop :=
 ∀ (H : Type) (enc : TypeId × Value → H) (W : World) (base : Nat) (spare : Nat → Bool) (held : Bool) (fuel : Nat) (cs : List Value) (y : DataW H × List MemPlace),
   DataW.trod enc P W base spare held fuel t cs = some y → ∃ x, d.K W x cs ∧ ok x
theorem Opens.int {P : Program} {t : TypeId} {k : IntKind} (ht : P.underlying t = some (.int k)) : Opens P t (Kd.int k) (okI k) := by
 intro H enc W base spare held fuel cs y h
 obtain ⟨n, rfl, _, hw⟩ := DataW.trod_int ht h
 exact ⟨n, rfl, hw⟩
theorem Opens.bool {P : Program} {t : TypeId} (ht : P.underlying t = some .bool) : Opens P t Kd.bool okB := by
 intro H enc W base spare held fuel cs y h
 obtain ⟨n, rfl, _⟩ := DataW.trod_bool ht h
 exact ⟨n, rfl, trivial⟩
theorem Opens.string {P : Program} {t : TypeId} (ht : P.underlying t = some .string) : Opens P t Kd.string okS := by
 intro H enc W base spare held fuel cs y h
 obtain ⟨n, rfl, _, hw⟩ := DataW.trod_string ht h
 exact ⟨n, rfl, hw⟩
theorem list_of_index {α : Type} {p : Nat → α → Prop} (n : Nat) (h : ∀ i, i < n → ∃ x, p i x) : ∃ xs : List α, xs.length = n ∧ ∀ i x, xs[i]? = some x → p i x := by
 induction n with
 | zero => exact ⟨[], rfl, fun i x hx => by simp at hx⟩
 | succ n ih =>
   obtain ⟨xs, hl, hx⟩ := ih (fun i hi => h i (by omega))
   obtain ⟨y, hy⟩ := h n (by omega)
   refine ⟨xs ++ [y], by simp [hl], fun i x he => ?_⟩
   by_cases hi : i < xs.length
   · rw [List.getElem?_append_left hi] at he
     exact hx i x he
   · rw [List.getElem?_append_right (by omega)] at he
     by_cases e : i = xs.length
     · subst e
       simp at he
       subst he
       rw [hl]
       exact hy
     · rw [List.getElem?_eq_none (by simp; omega)] at he
       cases he
theorem Opens.slice {α : Type} {P : Program} {t e : TypeId} {d : Kd α} {ok : α → Prop} (ht : P.underlying t = some (.slice e)) (hd : Opens P e d ok) (hs : P.cellsOf e = d.sz) : Opens P t (Kd.slice e d) (okL ok) := by
 intro H enc W base spare held fuel cs y h
 rcases Deep.open_slice ht h with ⟨rfl, _⟩ | ⟨a, len, cap, m, n, D, Pl, rfl, hb, hl, hm, hme, _, hel⟩
 · exact ⟨[], ⟨none, 0, rfl, Nat.le_refl _, Kd.C_nil _ _⟩, Nat.zero_le _, fun x hx => by simp at hx⟩
 · have hlm : len ≤ m := by
     rw [hme]
     split <;> omega
   have hx : ∀ i, i < len → ∃ x, ok x ∧ ∃ cs', W.cells? base (a.add (i * P.cellsOf e)) (P.cellsOf e) = some cs' ∧ d.K W x cs' := by
     intro i hi
     obtain ⟨cs', h1, h2⟩ := hel i (by omega)
     obtain ⟨x, hk, ho⟩ := hd H enc W base spare held n cs' _ h2
     exact ⟨x, ho, cs', h1, hk⟩
   obtain ⟨xs, rfl, hxs⟩ := list_of_index len hx
   have hmax : xs.length ≤ maxLen := Nat.le_trans hl hm
   refine ⟨xs, ⟨some a, cap, rfl, hl, rfl, hmax, fun _ => ⟨a, rfl, ?_⟩⟩, hmax, ?_⟩
   · intro j p hp
     obtain ⟨_, cs', h1, h2⟩ := hxs j p hp
     refine ⟨cs', d.K_len h2, h2, fun i u hu => ?_⟩
     unfold World.cells? at h1
     split at h1
     · have hi : i < P.cellsOf e := by
         rw [hs, ← d.K_len h2]
         exact (List.getElem?_eq_some_iff.1 hu).1
       have := mapM_some_get h1 i i (by rw [List.getElem?_range hi])
       rw [Addr.add_add, hs] at this
       rw [this]
       exact hu
     · cases h1
   · intro x hx'
     obtain ⟨i, hi, rfl⟩ := List.getElem_of_mem hx'
     exact (hxs i _ (List.getElem?_eq_getElem hi)).1
theorem trod_fields {H : Type} {enc : TypeId × Value → H} {P : Program} {W : World} {base : Nat} {spare : Nat → Bool} {held : Bool} {fuel : Nat} {t : TypeId} {cs : List Value} {y : DataW H × List MemPlace} {fs : Array Field}
   (ht : P.underlying t = some (.struct fs)) (h : DataW.trod enc P W base spare held fuel t cs = some y) :
   cs.length = P.cellsOf t ∧ ∃ n, ∀ (i : Nat) (f : Field), fs[i]? = some f → ∃ z, DataW.trod enc P W base spare held n f.type ((cs.drop f.offset).take (P.cellsOf f.type)) = some z := by
 obtain ⟨xs, n, _, _, hl, hsz, hf⟩ := DataW.trod_struct ht h
 refine ⟨hl, n, fun i f hi => ?_⟩
 have h1 := hf i f hi
 have h2 : i < xs.length := by
   rw [hsz]
   exact (Array.getElem?_eq_some_iff.1 hi).1
 rw [List.getElem?_eq_getElem h2] at h1
 exact ⟨_, h1⟩

end

section
def okT108 (x : S108) : Prop := okI .i64 x.f0 ∧ okS x.f1 ∧ okS x.f2 ∧ okS x.f3
set_option maxRecDepth 100000 in
theorem opens108 : Opens Try.prog 108 k108 okT108 := by
 intro H enc W base spare held fuel cs y h
 obtain ⟨hl, fu, F⟩ := trod_fields Try.underlying108 h
 have hl' : cs.length = 4 := hl.trans (by kernel_rfl)
 obtain ⟨u0, u1, u2, u3, rfl⟩ : ∃ u0 u1 u2 u3, cs = [u0, u1, u2, u3] := by
   clear F h hl
   match cs, hl' with
   | [a0, a1, a2, a3], _ => exact ⟨a0, a1, a2, a3, rfl⟩
 obtain ⟨y0, z0⟩ := F 0 _ rfl
 obtain ⟨b0, e0, w0⟩ := Opens.int (k := .i64) Try.underlying2 H enc W base spare held fu _ _ z0
 obtain rfl : u0 = .int .i64 b0 := by have e := e0; exact (List.cons.inj (show [_] = [_] from e)).1
 obtain ⟨y1, z1⟩ := F 1 _ rfl
 obtain ⟨b1, e1, w1⟩ := Opens.string Try.underlying9 H enc W base spare held fu _ _ z1
 obtain rfl : u1 = .string b1 := by have e := e1; exact (List.cons.inj (show [_] = [_] from e)).1
 obtain ⟨y2, z2⟩ := F 2 _ rfl
 obtain ⟨b2, e2, w2⟩ := Opens.string Try.underlying9 H enc W base spare held fu _ _ z2
 obtain rfl : u2 = .string b2 := by have e := e2; exact (List.cons.inj (show [_] = [_] from e)).1
 obtain ⟨y3, z3⟩ := F 3 _ rfl
 obtain ⟨b3, e3, w3⟩ := Opens.string Try.underlying9 H enc W base spare held fu _ _ z3
 obtain rfl : u3 = .string b3 := by have e := e3; exact (List.cons.inj (show [_] = [_] from e)).1
 exact ⟨⟨b0, b1, b2, b3⟩, k108_mk W ⟨b0, b1, b2, b3⟩, w0, w1, w2, w3⟩

end

section
def okT106 (x : S106) : Prop := okS x.f0 ∧ okS x.f1
set_option maxRecDepth 100000 in
theorem opens106 : Opens Try.prog 106 k106 okT106 := by
 intro H enc W base spare held fuel cs y h
 obtain ⟨hl, fu, F⟩ := trod_fields Try.underlying106 h
 have hl' : cs.length = 2 := hl.trans (by kernel_rfl)
 obtain ⟨u0, u1, rfl⟩ : ∃ u0 u1, cs = [u0, u1] := by
   clear F h hl
   match cs, hl' with
   | [a0, a1], _ => exact ⟨a0, a1, rfl⟩
 obtain ⟨y0, z0⟩ := F 0 _ rfl
 obtain ⟨b0, e0, w0⟩ := Opens.string Try.underlying9 H enc W base spare held fu _ _ z0
 obtain rfl : u0 = .string b0 := by have e := e0; exact (List.cons.inj (show [_] = [_] from e)).1
 obtain ⟨y1, z1⟩ := F 1 _ rfl
 obtain ⟨b1, e1, w1⟩ := Opens.string Try.underlying9 H enc W base spare held fu _ _ z1
 obtain rfl : u1 = .string b1 := by have e := e1; exact (List.cons.inj (show [_] = [_] from e)).1
 exact ⟨⟨b0, b1⟩, k106_mk W ⟨b0, b1⟩, w0, w1⟩

end

section
theorem okF_sz {l : List S106} (o : okL okT106 l) : ∀ x ∈ l, x.f0.size ≤ 9223372036854775807 ∧ x.f1.size ≤ 9223372036854775807 := fun x hx => by
 have := o.2 x hx
 unfold okT106 okS maxLen at this
 exact this
theorem okO_sz {l : List S108} (o : okL okT108 l) : ∀ x ∈ l, x.f1.size ≤ 9223372036854775807 ∧ x.f2.size ≤ 9223372036854775807 ∧ x.f3.size ≤ 9223372036854775807 := fun x hx => by
 have := o.2 x hx
 unfold okT108 okS maxLen at this
 exact this.2
structure DiskSz (live safe : List S80) (ops : List S73) : Prop where
 n0 : live.length ≤ 1048576
 n1 : safe.length ≤ 1048576
 n2 : ops.length ≤ 1048576
 s0 : ∀ x ∈ live, x.f0.size ≤ 1048576 ∧ x.f1.size ≤ 1048576
 s1 : ∀ x ∈ safe, x.f0.size ≤ 1048576 ∧ x.f1.size ≤ 1048576
 s2 : ∀ x ∈ ops, x.f1.size ≤ 1048576 ∧ x.f2.size ≤ 1048576 ∧ x.f3.size ≤ 1048576
theorem laws_szDisk.sz (l0 l1 : List S106) (l2 : List S108) (a : Int) (h0 : 0 ≤ a) (h1 : a ≤ 1048576) (o0 : okL okT106 l0) (o1 : okL okT106 l1) (o2 : okL okT108 l2) :
   ∃ r, Ev (fun k => laws_szDisk.f k l0 l1 l2 a) r ∧ (r < 0 ∨ (0 ≤ r ∧ r ≤ a ∧ DiskSz (l0.map qbj) (l1.map qbj) (l2.map qcu))) := by
 unfold laws_szDisk.f
 obtain ⟨r, hr, h⟩ := laws_szFileS.sz l0 a h0 h1 o0.1 (okF_sz o0)
 rcases h with h | ⟨r0, r1, m0, z0⟩
 · exact ⟨-1, Ev.bind hr (Ev.pos h (Ev.ret _)), .inl (by omega)⟩
 obtain ⟨q, hq, h⟩ := laws_szFileS.sz l1 r r0 (by omega) o1.1 (okF_sz o1)
 rcases h with h | ⟨q0, q1, m1, z1⟩
 · exact ⟨-1, Ev.bind hr (Ev.neg (by omega) (Ev.bind hq (Ev.pos h (Ev.ret _)))), .inl (by omega)⟩
 obtain ⟨p, hp, h⟩ := laws_szDOpS.sz l2 q q0 (by omega) o2.1 (okO_sz o2)
 rcases h with h | ⟨p0, p1, m2, z2⟩
 · exact ⟨-1, Ev.bind hr (Ev.neg (by omega) (Ev.bind hq (Ev.neg (by omega) (Ev.bind hp (Ev.pos h (Ev.ret _)))))), .inl (by omega)⟩
 refine ⟨p, Ev.bind hr (Ev.neg (by omega) (Ev.bind hq (Ev.neg (by omega) (Ev.bind hp (Ev.neg (by omega) (Ev.ret _)))))), .inr ⟨p0, by omega, by simpa using m0, by simpa using m1, by simpa using m2, ?_, ?_, ?_⟩⟩
 · intro x hx
   obtain ⟨y, hy, rfl⟩ := List.mem_map.1 hx
   exact z0 y hy
 · intro x hx
   obtain ⟨y, hy, rfl⟩ := List.mem_map.1 hx
   exact z1 y hy
 · intro x hx
   obtain ⟨y, hy, rfl⟩ := List.mem_map.1 hx
   exact z2 y hy
theorem laws_toDisk.ev (l0 l1 : List S106) (l2 : List S108) (h : DiskSz (l0.map qbj) (l1.map qbj) (l2.map qcu)) : Ev (fun k => laws_toDisk.f k l0 l1 l2) (l0.map qbj, l1.map qbj, l2.map qcu) := by
 unfold laws_toDisk.f
 have n0 := h.n0
 have n1 := h.n1
 have n2 := h.n2
 rw [List.length_map] at n0 n1 n2
 exact Ev.bind (laws_toFileS.ev l0 n0) (Ev.bind (laws_toFileS.ev l1 n1) (Ev.bind (laws_toDOpS.ev l2 n2) (Ev.ret _)))
theorem laws_eqDisk.refl (l0 l1 : List S80) (l2 : List S73) (h0 : l0.length ≤ 1099511627776) (h1 : l1.length ≤ 1099511627776) (h2 : l2.length ≤ 1099511627776) : Ev (fun k => laws_eqDisk.f k l0 l1 l2 l0 l1 l2) true := by
 unfold laws_eqDisk.f
 exact Ev.bind (laws_eqFileS.refl l0 h0) (Ev.pos rfl (Ev.bind (laws_eqFileS.refl l1 h1) (Ev.pos rfl (Ev.bind (laws_eqDOpS.refl l2 h2) (Ev.pos rfl (Ev.ret _))))))
theorem DiskSz.smallF0 {live safe : List S80} {ops : List S73} (h : DiskSz live safe ops) : qem live := fun x hx => by have := (h.s0 x hx).2; omega
theorem DiskSz.smallF1 {live safe : List S80} {ops : List S73} (h : DiskSz live safe ops) : qem safe := fun x hx => by have := (h.s1 x hx).2; omega
theorem DiskSz.smallO {live safe : List S80} {ops : List S73} (h : DiskSz live safe ops) : ∀ x ∈ ops, x.f3.size ≤ 1099511627776 := fun x hx => by have := (h.s2 x hx).2.2; omega

end

section
theorem laws_markText.l0_ok (d : Nat) : ∀ (n : Int) (s : ByteArray), n.toNat ≤ d → (s.size : Int) + n ≤ 4611686018427387904 → n ≤ 4611686018427387904 → s.size ≤ 4611686018427387904 → ∃ t, Ev (fun k => laws_markText.l0 k n s) t := by
 induction d with
 | zero =>
   intro n s hd hs hn hs2
   refine ⟨(⟨#[109]⟩ : ByteArray) ++ s, ?_⟩
   refine Ev.step (fun k => by rw [laws_markText.l0]) ?_
   refine Ev.neg (by omega) ?_
   exact Ev.pos (by omega) (Ev.ret _)
 | succ d ih =>
   intro n s hd hs hn hs2
   by_cases h : n > 0
   · have e1 : Int.tdiv n 10 = n / 10 := Int.tdiv_eq_ediv_of_nonneg (by omega)
     have e2 : wrap64 (n / 10) = n / 10 := qbc (by omega) (by omega)
     have hsz : (strOfNums [(wrap64 (48 + (Int.tmod n 10))) % 256] ++ s).size = 1 + s.size := by
       rw [ByteArray.size_append]
       rfl
     obtain ⟨t, ht⟩ := ih (n / 10) (strOfNums [(wrap64 (48 + (Int.tmod n 10))) % 256] ++ s) (by omega) (by rw [hsz]; omega) (by omega) (by rw [hsz]; omega)
     refine ⟨t, ?_⟩
     refine Ev.step (fun k => by rw [laws_markText.l0]) ?_
     refine Ev.pos h ?_
     refine Ev.bindS rfl ?_
     refine Ev.pos ?_ ?_
     · show 1 + s.size ≤ _
       omega
     rw [e1, e2]
     exact ht
   · refine ⟨(⟨#[109]⟩ : ByteArray) ++ s, ?_⟩
     refine Ev.step (fun k => by rw [laws_markText.l0]) ?_
     refine Ev.neg h ?_
     exact Ev.pos (by omega) (Ev.ret _)
theorem laws_markText.ok (n : Int) (hn : n ≤ 4611686018427387904) : ∃ t, Ev (fun k => laws_markText.f k n) t := by
 unfold laws_markText.f
 by_cases h : n ≤ 0
 · exact ⟨_, Ev.pos h (Ev.ret _)⟩
 · obtain ⟨t, ht⟩ := laws_markText.l0_ok n.toNat n ⟨#[]⟩ (Nat.le_refl _) (by show ((0 : Nat) : Int) + n ≤ _; omega) hn (by show 0 ≤ _; omega)
   exact ⟨t, Ev.neg h ht⟩

end

section
def isM_DOp (q : Int) (x : S73) : Prop := x.f0 = q ∧ Ev (fun k => laws_markText.f k (q + 1)) x.f1 ∧ Ev (fun k => laws_markText.f k (q + 2)) x.f2 ∧ Ev (fun k => laws_markText.f k (q + 3)) x.f3
theorem qdr (l : List S73) (i : Nat) (v : S73) (h : i < l.length) : qap (l.set i v) (i : Int) = v := by
 unfold qap
 rw [Int.toNat_natCast, List.getD_eq_getElem?_getD, List.getElem?_eq_getElem (by rw [List.length_set]; exact h), List.getElem_set_self]
 rfl
theorem rdM_DOp_set_ne (l : List S73) (i j : Nat) (v : S73) (h : i ≠ j) : qap (l.set i v) (j : Int) = qap l (j : Int) := by
 unfold qap
 rw [Int.toNat_natCast, List.getD_eq_getElem?_getD, List.getD_eq_getElem?_getD, List.getElem?_set_ne h]
theorem laws_markDOpS.l0_ok (q : Int) (hq : 0 ≤ q) (hq2 : q ≤ 1099511627776) (d : Nat) : ∀ (i : Nat) (l : List S73), l.length - i = d → i ≤ l.length → l.length ≤ 1099511627776 → (∀ j : Nat, j < i → isM_DOp (q + 4 * (j : Int)) (qap l (j : Int))) →
   ∃ l' : List S73, Ev (fun k => laws_markDOpS.l0 k l (q + 4 * (i : Int)) i) (q + 4 * (l.length : Int), l') ∧ l'.length = l.length ∧ ∀ j : Nat, j < l'.length → isM_DOp (q + 4 * (j : Int)) (qap l' (j : Int)) := by
 induction d with
 | zero =>
   intro i l hd hi hl hm
   refine ⟨l, ?_, rfl, fun j hj => hm j (by omega)⟩
   refine Ev.step (fun k => by rw [laws_markDOpS.l0]) ?_
   refine Ev.neg (by omega) (Ev.ret' ?_)
   rw [show i = l.length by omega]
 | succ d ih =>
   intro i l hd hi hl hm
   have hlt : i < l.length := by omega
   have w0 : wrap64 (q + 4 * (i : Int) + 1) = q + 4 * (i : Int) + 1 := by rw [qbc (by omega) (by omega)]
   have w1 : wrap64 (q + 4 * (i : Int) + 1 + 1) = q + 4 * (i : Int) + 2 := by rw [qbc (by omega) (by omega)]; omega
   have w2 : wrap64 (q + 4 * (i : Int) + 2 + 1) = q + 4 * (i : Int) + 3 := by rw [qbc (by omega) (by omega)]; omega
   have w3 : wrap64 (q + 4 * (i : Int) + 3 + 1) = q + 4 * (i : Int) + 4 := by rw [qbc (by omega) (by omega)]; omega
   obtain ⟨t1, ht1⟩ := laws_markText.ok (q + 4 * (i : Int) + 1) (by omega)
   obtain ⟨t2, ht2⟩ := laws_markText.ok (q + 4 * (i : Int) + 2) (by omega)
   obtain ⟨t3, ht3⟩ := laws_markText.ok (q + 4 * (i : Int) + 3) (by omega)
   obtain ⟨l', h1, h2, h3⟩ := ih (i + 1) (l.set i (⟨q + 4 * (i : Int), t1, t2, t3⟩ : S73)) (by rw [List.length_set]; omega) (by rw [List.length_set]; omega) (by rw [List.length_set]; exact hl) (by
     intro j hj
     by_cases e : i = j
     · subst e
       rw [qdr _ _ _ hlt]
       exact ⟨rfl, ht1, ht2, ht3⟩
     · rw [rdM_DOp_set_ne _ _ _ _ e]
       exact hm j (by omega))
   rw [List.length_set] at h1 h2
   refine ⟨l', ?_, h2, h3⟩
   refine Ev.step (fun k => by rw [laws_markDOpS.l0]) ?_
   refine Ev.pos (by omega) ?_
   simp only [w0, w1, w2, w3, Int.toNat_natCast]
   refine Ev.pos (by omega) ?_
   refine Ev.bindS rfl ?_
   refine Ev.bind ht1 ?_
   refine Ev.bindS rfl ?_
   refine Ev.bind ht2 ?_
   refine Ev.bindS rfl ?_
   refine Ev.bind ht3 ?_
   simp only [qdr _ _ _ hlt, List.set_set]
   rw [show q + 4 * (i : Int) + 4 = q + 4 * ((i + 1 : Nat) : Int) by omega, show wrap64 ((i : Int) + 1) = ((i + 1 : Nat) : Int) from by rw [qbc (by omega) (by omega)]; omega]
   exact h1
theorem laws_heldDOpS.l0_ok (q : Int) (hq : 0 ≤ q) (hq2 : q ≤ 1099511627776) (l : List S73) (hl : l.length ≤ 1099511627776) (hm : ∀ j : Nat, j < l.length → isM_DOp (q + 4 * (j : Int)) (qap l (j : Int))) (d : Nat) : ∀ i : Nat, l.length - i = d → i ≤ l.length →
   Ev (fun k => laws_heldDOpS.l0 k l (q + 4 * (i : Int)) i) (q + 4 * (l.length : Int)) := by
 induction d with
 | zero =>
   intro i hd hi
   refine Ev.step (fun k => by rw [laws_heldDOpS.l0]) ?_
   refine Ev.neg (by omega) (Ev.ret' ?_)
   rw [show i = l.length by omega]
 | succ d ih =>
   intro i hd hi
   have hlt : i < l.length := by omega
   have w0 : wrap64 (q + 4 * (i : Int) + 1) = q + 4 * (i : Int) + 1 := by rw [qbc (by omega) (by omega)]
   have w1 : wrap64 (q + 4 * (i : Int) + 1 + 1) = q + 4 * (i : Int) + 2 := by rw [qbc (by omega) (by omega)]; omega
   have w2 : wrap64 (q + 4 * (i : Int) + 2 + 1) = q + 4 * (i : Int) + 3 := by rw [qbc (by omega) (by omega)]; omega
   have w3 : wrap64 (q + 4 * (i : Int) + 3 + 1) = q + 4 * (i : Int) + 4 := by rw [qbc (by omega) (by omega)]; omega
   obtain ⟨m0, m1, m2, m3⟩ := hm i hlt
   refine Ev.step (fun k => by rw [laws_heldDOpS.l0]) ?_
   refine Ev.pos (by omega) ?_
   simp only [w0, w1, w2, w3]
   refine Ev.pos (by omega) ?_
   refine Ev.pos m0 ?_
   refine Ev.bind m1 ?_
   refine Ev.pos rfl ?_
   refine Ev.bind m2 ?_
   refine Ev.pos rfl ?_
   refine Ev.bind m3 ?_
   refine Ev.pos rfl ?_
   rw [show q + 4 * (i : Int) + 4 = q + 4 * ((i + 1 : Nat) : Int) by omega, show wrap64 ((i : Int) + 1) = ((i + 1 : Nat) : Int) from by rw [qbc (by omega) (by omega)]; omega]
   exact ih (i + 1) (by omega) (by omega)
theorem DOpS_marked (q : Int) (hq : 0 ≤ q) (hq2 : q ≤ 1099511627776) (l : List S73) (hl : l.length ≤ 1099511627776) :
   ∃ l' : List S73, Ev (fun k => laws_markDOpS.f k l q) (q + 4 * (l.length : Int), l') ∧ l'.length = l.length ∧ Ev (fun k => laws_heldDOpS.f k l' q) (q + 4 * (l.length : Int)) := by
 obtain ⟨l', h1, h2, h3⟩ := laws_markDOpS.l0_ok q hq hq2 _ 0 l rfl (Nat.zero_le _) hl (fun j hj => by omega)
 have h4 := laws_heldDOpS.l0_ok q hq hq2 l' (by omega) h3 _ 0 rfl (Nat.zero_le _)
 rw [h2] at h4
 rw [show q + 4 * ((0 : Nat) : Int) = q by omega] at h1 h4
 exact ⟨l', h1, h2, h4⟩

end

section
def isM_File (q : Int) (x : S80) : Prop := Ev (fun k => laws_markText.f k (q)) x.f0 ∧ Ev (fun k => laws_markText.f k (q + 1)) x.f1
theorem qdo (l : List S80) (i : Nat) (v : S80) (h : i < l.length) : qan (l.set i v) (i : Int) = v := by
 unfold qan
 rw [Int.toNat_natCast, List.getD_eq_getElem?_getD, List.getElem?_eq_getElem (by rw [List.length_set]; exact h), List.getElem_set_self]
 rfl
theorem rdM_File_set_ne (l : List S80) (i j : Nat) (v : S80) (h : i ≠ j) : qan (l.set i v) (j : Int) = qan l (j : Int) := by
 unfold qan
 rw [Int.toNat_natCast, List.getD_eq_getElem?_getD, List.getD_eq_getElem?_getD, List.getElem?_set_ne h]
theorem laws_markFileS.l0_ok (q : Int) (hq : 0 ≤ q) (hq2 : q ≤ 1099511627776) (d : Nat) : ∀ (i : Nat) (l : List S80), l.length - i = d → i ≤ l.length → l.length ≤ 1099511627776 → (∀ j : Nat, j < i → isM_File (q + 2 * (j : Int)) (qan l (j : Int))) →
   ∃ l' : List S80, Ev (fun k => laws_markFileS.l0 k l (q + 2 * (i : Int)) i) (q + 2 * (l.length : Int), l') ∧ l'.length = l.length ∧ ∀ j : Nat, j < l'.length → isM_File (q + 2 * (j : Int)) (qan l' (j : Int)) := by
 induction d with
 | zero =>
   intro i l hd hi hl hm
   refine ⟨l, ?_, rfl, fun j hj => hm j (by omega)⟩
   refine Ev.step (fun k => by rw [laws_markFileS.l0]) ?_
   refine Ev.neg (by omega) (Ev.ret' ?_)
   rw [show i = l.length by omega]
 | succ d ih =>
   intro i l hd hi hl hm
   have hlt : i < l.length := by omega
   have w0 : wrap64 (q + 2 * (i : Int) + 1) = q + 2 * (i : Int) + 1 := by rw [qbc (by omega) (by omega)]
   have w1 : wrap64 (q + 2 * (i : Int) + 1 + 1) = q + 2 * (i : Int) + 2 := by rw [qbc (by omega) (by omega)]; omega
   obtain ⟨t0, ht0⟩ := laws_markText.ok (q + 2 * (i : Int)) (by omega)
   obtain ⟨t1, ht1⟩ := laws_markText.ok (q + 2 * (i : Int) + 1) (by omega)
   obtain ⟨l', h1, h2, h3⟩ := ih (i + 1) (l.set i (⟨t0, t1⟩ : S80)) (by rw [List.length_set]; omega) (by rw [List.length_set]; omega) (by rw [List.length_set]; exact hl) (by
     intro j hj
     by_cases e : i = j
     · subst e
       rw [qdo _ _ _ hlt]
       exact ⟨ht0, ht1⟩
     · rw [rdM_File_set_ne _ _ _ _ e]
       exact hm j (by omega))
   rw [List.length_set] at h1 h2
   refine ⟨l', ?_, h2, h3⟩
   refine Ev.step (fun k => by rw [laws_markFileS.l0]) ?_
   refine Ev.pos (by omega) ?_
   simp only [w0, w1, Int.toNat_natCast]
   refine Ev.bind ht0 ?_
   refine Ev.pos (by omega) ?_
   refine Ev.bindS rfl ?_
   refine Ev.bind ht1 ?_
   simp only [qdo _ _ _ hlt, List.set_set]
   rw [show q + 2 * (i : Int) + 2 = q + 2 * ((i + 1 : Nat) : Int) by omega, show wrap64 ((i : Int) + 1) = ((i + 1 : Nat) : Int) from by rw [qbc (by omega) (by omega)]; omega]
   exact h1
theorem laws_heldFileS.l0_ok (q : Int) (hq : 0 ≤ q) (hq2 : q ≤ 1099511627776) (l : List S80) (hl : l.length ≤ 1099511627776) (hm : ∀ j : Nat, j < l.length → isM_File (q + 2 * (j : Int)) (qan l (j : Int))) (d : Nat) : ∀ i : Nat, l.length - i = d → i ≤ l.length →
   Ev (fun k => laws_heldFileS.l0 k l (q + 2 * (i : Int)) i) (q + 2 * (l.length : Int)) := by
 induction d with
 | zero =>
   intro i hd hi
   refine Ev.step (fun k => by rw [laws_heldFileS.l0]) ?_
   refine Ev.neg (by omega) (Ev.ret' ?_)
   rw [show i = l.length by omega]
 | succ d ih =>
   intro i hd hi
   have hlt : i < l.length := by omega
   have w0 : wrap64 (q + 2 * (i : Int) + 1) = q + 2 * (i : Int) + 1 := by rw [qbc (by omega) (by omega)]
   have w1 : wrap64 (q + 2 * (i : Int) + 1 + 1) = q + 2 * (i : Int) + 2 := by rw [qbc (by omega) (by omega)]; omega
   obtain ⟨m0, m1⟩ := hm i hlt
   refine Ev.step (fun k => by rw [laws_heldFileS.l0]) ?_
   refine Ev.pos (by omega) ?_
   simp only [w0, w1]
   refine Ev.pos (by omega) ?_
   refine Ev.bind m0 ?_
   refine Ev.pos rfl ?_
   refine Ev.bind m1 ?_
   refine Ev.pos rfl ?_
   rw [show q + 2 * (i : Int) + 2 = q + 2 * ((i + 1 : Nat) : Int) by omega, show wrap64 ((i : Int) + 1) = ((i + 1 : Nat) : Int) from by rw [qbc (by omega) (by omega)]; omega]
   exact ih (i + 1) (by omega) (by omega)
theorem qen (q : Int) (hq : 0 ≤ q) (hq2 : q ≤ 1099511627776) (l : List S80) (hl : l.length ≤ 1099511627776) :
   ∃ l' : List S80, Ev (fun k => laws_markFileS.f k l q) (q + 2 * (l.length : Int), l') ∧ l'.length = l.length ∧ Ev (fun k => laws_heldFileS.f k l' q) (q + 2 * (l.length : Int)) := by
 obtain ⟨l', h1, h2, h3⟩ := laws_markFileS.l0_ok q hq hq2 _ 0 l rfl (Nat.zero_le _) hl (fun j hj => by omega)
 have h4 := laws_heldFileS.l0_ok q hq hq2 l' (by omega) h3 _ 0 rfl (Nat.zero_le _)
 rw [h2] at h4
 rw [show q + 2 * ((0 : Nat) : Int) = q by omega] at h1 h4
 exact ⟨l', h1, h2, h4⟩

end

section
theorem disk_marked (live safe : List S80) (ops : List S73) (h0 : live.length ≤ 68719476736) (h1 : safe.length ≤ 68719476736) (h2 : ops.length ≤ 68719476736) (q : Int) (hq : 0 ≤ q) (hq2 : q ≤ 1048576) :
   ∃ a b c r, Ev (fun k => laws_markDisk.f k live safe ops q) (r, a, b, c) ∧ Ev (fun k => laws_heldDisk.f k a b c q) r ∧ q ≤ r := by
 obtain ⟨a, a1, a2, a3⟩ := qen q hq (by omega) live (by omega)
 obtain ⟨b, b1, b2, b3⟩ := qen (q + 2 * (live.length : Int)) (by omega) (by omega) safe (by omega)
 obtain ⟨c, c1, c2, c3⟩ := DOpS_marked (q + 2 * (live.length : Int) + 2 * (safe.length : Int)) (by omega) (by omega) ops (by omega)
 refine ⟨a, b, c, q + 2 * (live.length : Int) + 2 * (safe.length : Int) + 4 * (ops.length : Int), ?_, ?_, ?_⟩
 · unfold laws_markDisk.f
   exact Ev.bind a1 (Ev.bind b1 (Ev.bind c1 (Ev.ret _)))
 · unfold laws_heldDisk.f
   exact Ev.bind a3 (Ev.neg (by omega) (Ev.bind b3 (Ev.neg (by omega) (Ev.bind c3 (Ev.neg (by omega) (Ev.ret _))))))
 · omega

end

end Go.Proofs.Ytfjoamlgbegpgaa.Q
