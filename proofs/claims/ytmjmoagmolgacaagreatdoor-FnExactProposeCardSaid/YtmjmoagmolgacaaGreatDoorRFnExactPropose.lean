/- The law FnExactPropose holds of the given program: for every input the call returns true, and each argument reads afterwards as it read before. No condition is added to the given statement. -/
import Derived.Test.YtmjmoagmolgacaaGreatDoorRows
import Derived.Test.YtmjmoagmolgacaaGreatDoorCards
import Derived.Test.YtmjmoagmolgacaaGreatDoorTie
import Derived.LaidMore
import Derived.SevenTiedAt
import Derived.Stop.Joined
import Derived.Lay
import Derived.MakeChecks
import Derived.WalkKit
import Derived.ProofKit
import Derived.OpenShut
import Derived.ShutString
import Derived.ChangeOld
import Derived.Below
import Derived.SizedLaws
import Derived.Test.YtmjmoagmolgacaaGreatDoorCFnExactPropose6
namespace Go.Proofs.YtmjmoagmolgacaaGreatDoor.P
open Go Go.Proofs.YtmjmoagmolgacaaGreatDoor.PM Go.Proofs
def okT124 (x : S124) : Prop := (okI .i64) x.f0 ∧ (okI .i64) x.f1 ∧ (okS) x.f2
theorem opens124 : Opens Tryz.prog 124 e124 okT124 := by
  intro H enc W base spare held fuel cs y h
  have hl : cs.length = 3 := (trod_fields Tryz.underlying124 h).1.trans (by kernel_rfl)
  obtain ⟨_, fu, F⟩ := trod_fields Tryz.underlying124 h
  obtain ⟨y_0, hz_0⟩ := F 0 _ rfl
  obtain ⟨l_0, T_0, w_0⟩ := (Opens.int (k := .i64) (e := e_i64) Tryz.underlying2 (fun _ => rfl)) H enc W base _ _ _ _ _ hz_0
  obtain ⟨y_1, hz_1⟩ := F 1 _ rfl
  obtain ⟨l_1, T_1, w_1⟩ := (Opens.int (k := .i64) (e := e_i64) Tryz.underlying2 (fun _ => rfl)) H enc W base _ _ _ _ _ hz_1
  obtain ⟨y_2, hz_2⟩ := F 2 _ rfl
  obtain ⟨l_2, T_2, w_2⟩ := (Opens.string (e := eStr) Tryz.underlying9 (fun _ => rfl)) H enc W base _ _ _ _ _ hz_2
  exact ⟨⟨l_0, l_1, l_2⟩, (TellsL.top (us := [T.sc (.int .i64 l_0)] ++ ([T.sc (.int .i64 l_1)] ++ ([T.sc (.string l_2)] ++ ([])))) rfl (TellsL.step rfl (TellsL.cast (o' := 0) (k' := 1) (vs := [T.sc (.int .i64 l_0)]) T_0 rfl (by kernel_rfl) rfl) (TellsL.step rfl (TellsL.cast (o' := 1) (k' := 1) (vs := [T.sc (.int .i64 l_1)]) T_1 rfl (by kernel_rfl) rfl) (TellsL.step rfl (TellsL.cast (o' := 2) (k' := 1) (vs := [T.sc (.string l_2)]) T_2 rfl (by kernel_rfl) rfl) (TellsL.fin hl))))), w_0, w_1, w_2⟩
def okT128 (x : S128) : Prop := (okI .i64) x.f0 ∧ (okI .i64) x.f1 ∧ (okI .i64) x.f2
theorem opens128 : Opens Tryz.prog 128 e128 okT128 := by
  intro H enc W base spare held fuel cs y h
  have hl : cs.length = 3 := (trod_fields Tryz.underlying128 h).1.trans (by kernel_rfl)
  obtain ⟨_, fu, F⟩ := trod_fields Tryz.underlying128 h
  obtain ⟨y_0, hz_0⟩ := F 0 _ rfl
  obtain ⟨l_0, T_0, w_0⟩ := (Opens.int (k := .i64) (e := e_i64) Tryz.underlying2 (fun _ => rfl)) H enc W base _ _ _ _ _ hz_0
  obtain ⟨y_1, hz_1⟩ := F 1 _ rfl
  obtain ⟨l_1, T_1, w_1⟩ := (Opens.int (k := .i64) (e := e_i64) Tryz.underlying2 (fun _ => rfl)) H enc W base _ _ _ _ _ hz_1
  obtain ⟨y_2, hz_2⟩ := F 2 _ rfl
  obtain ⟨l_2, T_2, w_2⟩ := (Opens.int (k := .i64) (e := e_i64) Tryz.underlying2 (fun _ => rfl)) H enc W base _ _ _ _ _ hz_2
  exact ⟨⟨l_0, l_1, l_2⟩, (TellsL.top (us := [T.sc (.int .i64 l_0)] ++ ([T.sc (.int .i64 l_1)] ++ ([T.sc (.int .i64 l_2)] ++ ([])))) rfl (TellsL.step rfl (TellsL.cast (o' := 0) (k' := 1) (vs := [T.sc (.int .i64 l_0)]) T_0 rfl (by kernel_rfl) rfl) (TellsL.step rfl (TellsL.cast (o' := 1) (k' := 1) (vs := [T.sc (.int .i64 l_1)]) T_1 rfl (by kernel_rfl) rfl) (TellsL.step rfl (TellsL.cast (o' := 2) (k' := 1) (vs := [T.sc (.int .i64 l_2)]) T_2 rfl (by kernel_rfl) rfl) (TellsL.fin hl))))), w_0, w_1, w_2⟩
end Go.Proofs.YtmjmoagmolgacaaGreatDoor.P
namespace Go.Proofs.YtmjmoagmolgacaaGreatDoor.fnExactPropose
open Go Go.ChangeShapes Go.WideShapes Go.ChangeAt Go.RowKit Go.Proofs.YtmjmoagmolgacaaGreatDoor Go.Proofs.YtmjmoagmolgacaaGreatDoor.PM Go.Proofs.YtmjmoagmolgacaaGreatDoor.P
open Go.ChangeMaps (open_string shut_string)
theorem own : ownKnob Tryz.prog.godebug = none := by kernel_rfl
theorem laidOut : laidOutB Tryz.prog = true := by kernel_rfl
set_option linter.unusedVariables false in
set_option maxHeartbeats 4000000 in
set_option maxRecDepth 100000 in
theorem lifted (os : Os) (started : os.Started) (H : Type) (enc : TypeId × Value → H) :
    ReturnsInHanded {} Tryz.checked os 4 .any (fun w args => (Rows.fnExactProposeSpec.pre enc Tryz.prog Tryz.f4 [] false w args ∧ laidMetH Tryz.prog Rows.fnExactProposeRow.laid w) ∧ sizedMet enc Tryz.prog Tryz.f4 (OpenSpec.ofChange Rows.fnExactProposeSpec) false w args)
      (Rows.fnExactProposeSpec.post enc Tryz.prog Tryz.f4 false true false false) := by
  refine returnsInHanded_of_change_and (C := Tryz.checked) (X := fun w _ => laidMetH Tryz.prog Rows.fnExactProposeRow.laid w) (fun _ _ _ hh h => h.of_heap hh) own started (by kernel_rfl) Tryz.func4
    (ChangeSpec.witness_shaped (enc := enc) (C := Tryz.checked) (os := os) (X := fun w _ => laidMetH Tryz.prog Rows.fnExactProposeRow.laid w) false (World.laidAll Tryz.prog os Rows.fnExactProposeRow.laid) #[.agg #[.int .i64 0, .int .i64 0, .int .i64 0, .int .i64 0, .int .i64 0, .slice none 0 0, .slice none 0 0, .string ByteArray.empty, .slice none 0 0, .int .i64 0, .int .i64 0, .int .i64 0, .slice none 0 0, .slice none 0 0], .int .i64 0, .string ByteArray.empty] 8 (World.laidAll_os _ _ _) (World.shaped_of_ZipB (by kernel_rfl) (by kernel_rfl)) (by kernel_rfl) (by kernel_rfl) (by kernel_rfl) (by rw [MakeChecks.laidMetH_plain _ _ _ (by kernel_rfl)]; exact laidMet_laidAll _ (by kernel_rfl) (by kernel_rfl))) ?_
  intro W base args ds gs before hval0 hW _ _ hL _
  have hval : ∀ (j : Nat) t v, Tryz.f4.params[j]? = some t → args[j]? = some v → Value.okWide Tryz.prog W .any base t v := hval0
  have hW' := hW
  obtain ⟨p, q, hA0, hV, rfl, hfz, hnd⟩ := hW
  have hA : DataW.TrodAll enc Tryz.prog W 0 (fun _ => true) true Tryz.f4.params.toList args.toList ds p := hA0
  rw [Tryz.params4] at hA hval
  obtain ⟨v0, vs0, d0, ds0, p0, q0, hargs, rfl, rfl, h0, r0⟩ := trodAll_cons hA
  obtain ⟨v1, vs1, d1, ds1, p1, q1, rfl, rfl, rfl, h1, r1⟩ := trodAll_cons r0
  obtain ⟨v2, vs2, d2, ds2, p2, q2, rfl, rfl, rfl, h2, r2⟩ := trodAll_cons r1
  obtain ⟨rfl, rfl, rfl⟩ := trodAll_nil r2
  obtain rfl : args = #[v0, v1, v2] := by cases args; simp_all
  obtain ⟨rfl, rfl⟩ := trodVars_none hV
  have k0 := h0
  have lt0 : ∀ x ∈ p0, x.block < W.heap.size := by obtain ⟨m, hm⟩ := k0; exact DataW.trod_lt m _ _ _ hm
  obtain ⟨fu0, hf0⟩ := h0
  obtain ⟨cs0, rfl, sz0⟩ := okWide_struct Tryz.underlying43 (hval 0 43 v0 rfl rfl)
  have hl0 : cs0.toList.length = 14 := by rw [Array.length_toList, sz0]; kernel_rfl
  obtain ⟨_, fu0, F0⟩ := trod_fields Tryz.underlying43 hf0
  obtain ⟨y0_0, hz0_0⟩ := F0 0 _ rfl
  obtain ⟨l0_0, T0_0, w0_0⟩ := (Opens.int (k := .i64) (e := e_i64) Tryz.underlying2 (fun _ => rfl)) H enc W 0 _ _ _ _ _ hz0_0
  obtain ⟨y0_1, hz0_1⟩ := F0 1 _ rfl
  obtain ⟨l0_1, T0_1, w0_1⟩ := (Opens.int (k := .i64) (e := e_i64) Tryz.underlying2 (fun _ => rfl)) H enc W 0 _ _ _ _ _ hz0_1
  obtain ⟨y0_2, hz0_2⟩ := F0 2 _ rfl
  obtain ⟨l0_2, T0_2, w0_2⟩ := (Opens.int (k := .i64) (e := e_i64) Tryz.underlying2 (fun _ => rfl)) H enc W 0 _ _ _ _ _ hz0_2
  obtain ⟨y0_3, hz0_3⟩ := F0 3 _ rfl
  obtain ⟨l0_3, T0_3, w0_3⟩ := (Opens.int (k := .i64) (e := e_i64) Tryz.underlying2 (fun _ => rfl)) H enc W 0 _ _ _ _ _ hz0_3
  obtain ⟨y0_4, hz0_4⟩ := F0 4 _ rfl
  obtain ⟨l0_4, T0_4, w0_4⟩ := (Opens.int (k := .i64) (e := e_i64) Tryz.underlying2 (fun _ => rfl)) H enc W 0 _ _ _ _ _ hz0_4
  obtain ⟨y0_5, hz0_5⟩ := F0 5 _ rfl
  obtain ⟨hq0_5, fu0_5, F0_5⟩ := trod_fields Tryz.underlying39 hz0_5
  obtain ⟨y0_5_0, hz0_5_0⟩ := F0_5 0 _ rfl
  obtain ⟨l0_5_0, T0_5_0, w0_5_0⟩ := (Opens.slice (k := 1) Tryz.underlying24 (Opens.int (k := .i64) (e := e_i64) Tryz.underlying2 (fun _ => rfl)) (by kernel_rfl) (by decide) (fun _ => rfl)) H enc W 0 _ _ _ _ _ hz0_5_0
  obtain ⟨y0_5_1, hz0_5_1⟩ := F0_5 1 _ rfl
  obtain ⟨l0_5_1, T0_5_1, w0_5_1⟩ := (Opens.slice (k := 1) Tryz.underlying24 (Opens.int (k := .i64) (e := e_i64) Tryz.underlying2 (fun _ => rfl)) (by kernel_rfl) (by decide) (fun _ => rfl)) H enc W 0 _ _ _ _ _ hz0_5_1
  have hl0_5 := hq0_5.trans (show Tryz.prog.cellsOf 39 = 2 by kernel_rfl)
  obtain ⟨y0_6, hz0_6⟩ := F0 6 _ rfl
  obtain ⟨l0_6, T0_6, w0_6⟩ := (Opens.string (e := eStr) Tryz.underlying9 (fun _ => rfl)) H enc W 0 _ _ _ _ _ hz0_6
  obtain ⟨y0_7, hz0_7⟩ := F0 7 _ rfl
  obtain ⟨l0_7, T0_7, w0_7⟩ := (Opens.slice (k := 3) Tryz.underlying40 opens124 (by kernel_rfl) (by decide) (fun _ => rfl)) H enc W 0 _ _ _ _ _ hz0_7
  obtain ⟨y0_8, hz0_8⟩ := F0 8 _ rfl
  obtain ⟨l0_8, T0_8, w0_8⟩ := (Opens.int (k := .i64) (e := e_i64) Tryz.underlying2 (fun _ => rfl)) H enc W 0 _ _ _ _ _ hz0_8
  obtain ⟨y0_9, hz0_9⟩ := F0 9 _ rfl
  obtain ⟨l0_9, T0_9, w0_9⟩ := (Opens.int (k := .i64) (e := e_i64) Tryz.underlying2 (fun _ => rfl)) H enc W 0 _ _ _ _ _ hz0_9
  obtain ⟨y0_10, hz0_10⟩ := F0 10 _ rfl
  obtain ⟨l0_10, T0_10, w0_10⟩ := (Opens.int (k := .i64) (e := e_i64) Tryz.underlying2 (fun _ => rfl)) H enc W 0 _ _ _ _ _ hz0_10
  obtain ⟨y0_11, hz0_11⟩ := F0 11 _ rfl
  obtain ⟨l0_11, T0_11, w0_11⟩ := (Opens.slice (k := 1) Tryz.underlying24 (Opens.int (k := .i64) (e := e_i64) Tryz.underlying2 (fun _ => rfl)) (by kernel_rfl) (by decide) (fun _ => rfl)) H enc W 0 _ _ _ _ _ hz0_11
  obtain ⟨y0_12, hz0_12⟩ := F0 12 _ rfl
  obtain ⟨l0_12, T0_12, w0_12⟩ := (Opens.slice (k := 3) Tryz.underlying41 opens128 (by kernel_rfl) (by decide) (fun _ => rfl)) H enc W 0 _ _ _ _ _ hz0_12
  have A0 : TellsL W cs0.toList [T.sc (.int .i64 l0_0), T.sc (.int .i64 l0_1), T.sc (.int .i64 l0_2), T.sc (.int .i64 l0_3), T.sc (.int .i64 l0_4), T.sl (List.map e_i64 l0_5_0) [], T.sl (List.map e_i64 l0_5_1) [], T.sc (.string l0_6), T.sl (List.map e124 l0_7) [], T.sc (.int .i64 l0_8), T.sc (.int .i64 l0_9), T.sc (.int .i64 l0_10), T.sl (List.map e_i64 l0_11) [], T.sl (List.map e128 l0_12) []] := TellsL.top (us := [T.sc (.int .i64 l0_0)] ++ ([T.sc (.int .i64 l0_1)] ++ ([T.sc (.int .i64 l0_2)] ++ ([T.sc (.int .i64 l0_3)] ++ ([T.sc (.int .i64 l0_4)] ++ ([T.sl (List.map e_i64 l0_5_0) [], T.sl (List.map e_i64 l0_5_1) []] ++ ([T.sc (.string l0_6)] ++ ([T.sl (List.map e124 l0_7) []] ++ ([T.sc (.int .i64 l0_8)] ++ ([T.sc (.int .i64 l0_9)] ++ ([T.sc (.int .i64 l0_10)] ++ ([T.sl (List.map e_i64 l0_11) []] ++ ([T.sl (List.map e128 l0_12) []] ++ ([])))))))))))))) rfl (TellsL.step rfl (TellsL.cast (o' := 0) (k' := 1) (vs := [T.sc (.int .i64 l0_0)]) T0_0 rfl (by kernel_rfl) rfl) (TellsL.step rfl (TellsL.cast (o' := 1) (k' := 1) (vs := [T.sc (.int .i64 l0_1)]) T0_1 rfl (by kernel_rfl) rfl) (TellsL.step rfl (TellsL.cast (o' := 2) (k' := 1) (vs := [T.sc (.int .i64 l0_2)]) T0_2 rfl (by kernel_rfl) rfl) (TellsL.step rfl (TellsL.cast (o' := 3) (k' := 1) (vs := [T.sc (.int .i64 l0_3)]) T0_3 rfl (by kernel_rfl) rfl) (TellsL.step rfl (TellsL.cast (o' := 4) (k' := 1) (vs := [T.sc (.int .i64 l0_4)]) T0_4 rfl (by kernel_rfl) rfl) (TellsL.step rfl (TellsL.cast (o' := 5) (k' := 2) (vs := [T.sl (List.map e_i64 l0_5_0) [], T.sl (List.map e_i64 l0_5_1) []]) (TellsL.top (us := [T.sl (List.map e_i64 l0_5_0) []] ++ ([T.sl (List.map e_i64 l0_5_1) []] ++ ([]))) rfl (TellsL.step rfl (TellsL.cast (o' := 0) (k' := 1) (vs := [T.sl (List.map e_i64 l0_5_0) []]) T0_5_0 rfl (by kernel_rfl) rfl) (TellsL.step rfl (TellsL.cast (o' := 1) (k' := 1) (vs := [T.sl (List.map e_i64 l0_5_1) []]) T0_5_1 rfl (by kernel_rfl) rfl) (TellsL.fin hl0_5)))) rfl (by kernel_rfl) rfl) (TellsL.step rfl (TellsL.cast (o' := 7) (k' := 1) (vs := [T.sc (.string l0_6)]) T0_6 rfl (by kernel_rfl) rfl) (TellsL.step rfl (TellsL.cast (o' := 8) (k' := 1) (vs := [T.sl (List.map e124 l0_7) []]) T0_7 rfl (by kernel_rfl) rfl) (TellsL.step rfl (TellsL.cast (o' := 9) (k' := 1) (vs := [T.sc (.int .i64 l0_8)]) T0_8 rfl (by kernel_rfl) rfl) (TellsL.step rfl (TellsL.cast (o' := 10) (k' := 1) (vs := [T.sc (.int .i64 l0_9)]) T0_9 rfl (by kernel_rfl) rfl) (TellsL.step rfl (TellsL.cast (o' := 11) (k' := 1) (vs := [T.sc (.int .i64 l0_10)]) T0_10 rfl (by kernel_rfl) rfl) (TellsL.step rfl (TellsL.cast (o' := 12) (k' := 1) (vs := [T.sl (List.map e_i64 l0_11) []]) T0_11 rfl (by kernel_rfl) rfl) (TellsL.step rfl (TellsL.cast (o' := 13) (k' := 1) (vs := [T.sl (List.map e128 l0_12) []]) T0_12 rfl (by kernel_rfl) rfl) (TellsL.fin hl0))))))))))))))
  obtain ⟨l1, rfl, rfl, rfl, w1⟩ := open_int Tryz.underlying2 (hval 1 2 v1 rfl rfl) h1
  obtain ⟨l2, rfl, rfl, rfl, w2⟩ := open_string Tryz.underlying9 (hval 2 9 v2 rfl rfl) h2
  obtain ⟨k, hk⟩ := Ev.val (law4_ev l0_0 l0_1 l0_2 l0_3 l0_4 l0_5_0 l0_5_1 l0_6 l0_7 l0_8 l0_9 l0_10 l0_11 l0_12 l1 l2 ⟨w0_5_0.1, w0_5_1.1, w0_6, ⟨w0_7.1, fun x hx => (w0_7.2 x hx).2.2⟩, w0_11.1, w0_12.1⟩)
  have HA : Args W _ [T.agg [T.sc (.int .i64 l0_0), T.sc (.int .i64 l0_1), T.sc (.int .i64 l0_2), T.sc (.int .i64 l0_3), T.sc (.int .i64 l0_4), T.sl (List.map e_i64 l0_5_0) [], T.sl (List.map e_i64 l0_5_1) [], T.sc (.string l0_6), T.sl (List.map e124 l0_7) [], T.sc (.int .i64 l0_8), T.sc (.int .i64 l0_9), T.sc (.int .i64 l0_10), T.sl (List.map e_i64 l0_11) [], T.sl (List.map e128 l0_12) []], T.sc (.int .i64 l1), T.sc (.string l2)] := (Args.cons (frV_agg A0 rfl) (Args.cons ⟨rfl, rfl⟩ (Args.cons ⟨rfl, rfl⟩ Args.nil)))
  refine (law_calls (P := Tryz.prog) (C := C0) (prim := P0) (by kernel_rfl) (by kernel_rfl) prims_ok HA (glob_laid hL (by kernel_rfl) (by kernel_rfl)) (f4_okT hk)).mono fun e W' ⟨he, bel0⟩ => ?_
  have bel : Below W.heap.size W W' := bel0
  subst he
  exact ⟨_, rfl, _, _, _, [], _, [], hW', trodAll_mk1 (shut_bool Tryz.underlying4 _), (trodAll_cons_mk (Below.trod laidOut (by kernel_rfl) (of_decide_eq_true (by kernel_rfl)) k0 bel lt0) (trodAll_cons_mk (shut_int Tryz.underlying2 w1) (trodAll_cons_mk (shut_string Tryz.underlying9 w2) trodAll_mk0))), rfl, bel.frame _, fun h => by cases h⟩
theorem over : Rows.fnExactProposeRow.holds Tryz.pinned (OpenSpec.ofChange Rows.fnExactProposeSpec) :=
  OpenClaim.holds_of_wide 4 Tryz.f4 rfl rfl rfl rfl rfl rfl rfl ⟨rfl, rfl, rfl, rfl, rfl⟩ rfl rfl rfl rfl rfl (by kernel_rfl) Tryz.func4 (by kernel_rfl)
    (of_decide_eq_true (by kernel_rfl)) (by unfold Func.isWrapper; first | (rw [if_pos (by decide +kernel)]; kernel_rfl) | (rw [if_neg (by decide +kernel)]; exact ⟨rfl, rfl⟩))
    (fun os started H enc _ => lifted os started H enc)
theorem proved : Rows.FnExactProposeCardSaid :=
  Claim7.holds_tied_plain_at .later [] [.data, .data, .data, .data, .sentinel, .sentinel, .pinned] true (true, "58a9b81b242a43b58e191d3220ad142ffcad4be1b3b26a93fba7e69b7741055d") true
    over (fun _ h => by cases h) (by kernel_rfl) (fun _ h => by cases h) fnExactPropose_row_tie rfl ⟨rfl, rfl⟩ (by kernel_rfl) rfl
    (fun f fn hf hfn => by
      obtain rfl : f = 4 := Option.some.inj ((show Tryz.prog.funcNamed "loop.example/g00141/laws.FnExactPropose" = some 4 by kernel_rfl).symm.trans hf) |>.symm
      obtain rfl : fn = Tryz.f4 := (Option.some.inj (Tryz.func4.symm.trans hfn)).symm
      exact ⟨by kernel_rfl, fun j t ht => by
        rw [Tryz.params4] at ht
        have hm : t ∈ [43, 2, 9] := by simpa using Array.mem_of_getElem? ht
        have hall : ([43, 2, 9].all fun u => !Tryz.prog.wantsStandIn u) = true := by kernel_rfl
        exact (show Tryz.prog.wantsStandIn t = false by simpa using List.all_eq_true.1 hall t hm)⟩)
    (by kernel_rfl)
#print axioms proved
end Go.Proofs.YtmjmoagmolgacaaGreatDoor.fnExactPropose
namespace Go.Proofs.YtmjmoagmolgacaaGreatDoor
/-- The row, under a short name, for the claim. -/
theorem fnExactPropose_holds : Rows.FnExactProposeCardSaid := fnExactPropose.proved
end Go.Proofs.YtmjmoagmolgacaaGreatDoor
