/- The law FnExactNodeNew holds of the given program: for every input the call returns true, and each argument reads afterwards as it read before. No condition is added to the given statement. -/
import Derived.Test.YtbfgmnjhikaagaaGreatDoorRows
import Derived.Test.YtbfgmnjhikaagaaGreatDoorCards
import Derived.Test.YtbfgmnjhikaagaaGreatDoorTie
import Derived.LaidMore
import Derived.SevenTiedAt
import Derived.Stop.Joined
import Derived.Lay
import Derived.MakeChecks
import Derived.WalkKit
import Derived.ProofKit
import Derived.OpenShut
import Derived.ShutString
import Derived.ChangeOld
import Derived.Below
import Derived.SizedLaws
import Derived.Test.YtbfgmnjhikaagaaGreatDoorCFnExactNodeNew4
namespace Go.Proofs.YtbfgmnjhikaagaaGreatDoor.P
open Go Go.Proofs.YtbfgmnjhikaagaaGreatDoor.PM Go.Proofs
end Go.Proofs.YtbfgmnjhikaagaaGreatDoor.P
namespace Go.Proofs.YtbfgmnjhikaagaaGreatDoor.fnExactNodeNew
open Go Go.ChangeShapes Go.WideShapes Go.ChangeAt Go.RowKit Go.Proofs.YtbfgmnjhikaagaaGreatDoor Go.Proofs.YtbfgmnjhikaagaaGreatDoor.PM Go.Proofs.YtbfgmnjhikaagaaGreatDoor.P
open Go.ChangeMaps (open_string shut_string)
theorem own : ownKnob Tryz.prog.godebug = none := by kernel_rfl
theorem laidOut : laidOutB Tryz.prog = true := by kernel_rfl
set_option linter.unusedVariables false in
set_option maxHeartbeats 4000000 in
set_option maxRecDepth 100000 in
theorem lifted (os : Os) (started : os.Started) (H : Type) (enc : TypeId × Value → H) :
    ReturnsInHanded {} Tryz.checked os 6 .any (fun w args => (Rows.fnExactNodeNewSpec.pre enc Tryz.prog Tryz.f6 [] false w args ∧ laidMetH Tryz.prog Rows.fnExactNodeNewRow.laid w) ∧ sizedMet enc Tryz.prog Tryz.f6 (OpenSpec.ofChange Rows.fnExactNodeNewSpec) false w args)
      (Rows.fnExactNodeNewSpec.post enc Tryz.prog Tryz.f6 false true false false) := by
  refine returnsInHanded_of_change_and (C := Tryz.checked) (X := fun w _ => laidMetH Tryz.prog Rows.fnExactNodeNewRow.laid w) (fun _ _ _ hh h => h.of_heap hh) own started (by kernel_rfl) Tryz.func6
    (ChangeSpec.witness_shaped (enc := enc) (C := Tryz.checked) (os := os) (X := fun w _ => laidMetH Tryz.prog Rows.fnExactNodeNewRow.laid w) false (World.laidAll Tryz.prog os Rows.fnExactNodeNewRow.laid) #[.int .i64 0, .agg #[.slice none 0 0, .slice none 0 0]] 8 (World.laidAll_os _ _ _) (World.shaped_of_ZipB (by kernel_rfl) (by kernel_rfl)) (by kernel_rfl) (by kernel_rfl) (by kernel_rfl) (by rw [MakeChecks.laidMetH_plain _ _ _ (by kernel_rfl)]; exact laidMet_laidAll _ (by kernel_rfl) (by kernel_rfl))) ?_
  intro W base args ds gs before hval0 hW _ _ hL _
  have hval : ∀ (j : Nat) t v, Tryz.f6.params[j]? = some t → args[j]? = some v → Value.okWide Tryz.prog W .any base t v := hval0
  have hW' := hW
  obtain ⟨p, q, hA0, hV, rfl, hfz, hnd⟩ := hW
  have hA : DataW.TrodAll enc Tryz.prog W 0 (fun _ => true) true Tryz.f6.params.toList args.toList ds p := hA0
  rw [Tryz.params6] at hA hval
  obtain ⟨v0, vs0, d0, ds0, p0, q0, hargs, rfl, rfl, h0, r0⟩ := trodAll_cons hA
  obtain ⟨v1, vs1, d1, ds1, p1, q1, rfl, rfl, rfl, h1, r1⟩ := trodAll_cons r0
  obtain ⟨rfl, rfl, rfl⟩ := trodAll_nil r1
  obtain rfl : args = #[v0, v1] := by cases args; simp_all
  obtain ⟨rfl, rfl⟩ := trodVars_none hV
  obtain ⟨l0, rfl, rfl, rfl, w0⟩ := open_int Tryz.underlying2 (hval 0 2 v0 rfl rfl) h0
  have k1 := h1
  have lt1 : ∀ x ∈ p1, x.block < W.heap.size := by obtain ⟨m, hm⟩ := k1; exact DataW.trod_lt m _ _ _ hm
  obtain ⟨fu1, hf1⟩ := h1
  obtain ⟨cs1, rfl, sz1⟩ := okWide_struct Tryz.underlying24 (hval 1 24 v1 rfl rfl)
  have hl1 : cs1.toList.length = 2 := by rw [Array.length_toList, sz1]; kernel_rfl
  obtain ⟨_, fu1, F1⟩ := trod_fields Tryz.underlying24 hf1
  obtain ⟨y1_0, hz1_0⟩ := F1 0 _ rfl
  obtain ⟨l1_0, T1_0, w1_0⟩ := (Opens.slice (k := 1) Tryz.underlying22 (Opens.int (k := .i64) (e := e_i64) Tryz.underlying2 (fun _ => rfl)) (by kernel_rfl) (by decide) (fun _ => rfl)) H enc W 0 _ _ _ _ _ hz1_0
  obtain ⟨y1_1, hz1_1⟩ := F1 1 _ rfl
  obtain ⟨l1_1, T1_1, w1_1⟩ := (Opens.slice (k := 1) Tryz.underlying22 (Opens.int (k := .i64) (e := e_i64) Tryz.underlying2 (fun _ => rfl)) (by kernel_rfl) (by decide) (fun _ => rfl)) H enc W 0 _ _ _ _ _ hz1_1
  have A1 : TellsL W cs1.toList [T.sl (List.map e_i64 l1_0) [], T.sl (List.map e_i64 l1_1) []] := TellsL.top (us := [T.sl (List.map e_i64 l1_0) []] ++ ([T.sl (List.map e_i64 l1_1) []] ++ ([]))) rfl (TellsL.step rfl (TellsL.cast (o' := 0) (k' := 1) (vs := [T.sl (List.map e_i64 l1_0) []]) T1_0 rfl (by kernel_rfl) rfl) (TellsL.step rfl (TellsL.cast (o' := 1) (k' := 1) (vs := [T.sl (List.map e_i64 l1_1) []]) T1_1 rfl (by kernel_rfl) rfl) (TellsL.fin hl1)))
  obtain ⟨k, hk⟩ := Ev.val (law6_ev l0 l1_0 l1_1 w1_0.1 w1_1.1)
  have HA : Args W _ [T.sc (.int .i64 l0), T.agg [T.sl (List.map e_i64 l1_0) [], T.sl (List.map e_i64 l1_1) []]] := (Args.cons ⟨rfl, rfl⟩ (Args.cons (frV_agg A1 rfl) Args.nil))
  refine (law_calls (P := Tryz.prog) (C := C0) (prim := P0) (by kernel_rfl) (by kernel_rfl) prims_ok HA (glob_laid hL (by kernel_rfl) (by kernel_rfl)) (f6_okT hk)).mono fun e W' ⟨he, bel0⟩ => ?_
  have bel : Below W.heap.size W W' := bel0
  subst he
  exact ⟨_, rfl, _, _, _, [], _, [], hW', trodAll_mk1 (shut_bool Tryz.underlying4 _), (trodAll_cons_mk (shut_int Tryz.underlying2 w0) (trodAll_cons_mk (Below.trod laidOut (by kernel_rfl) (of_decide_eq_true (by kernel_rfl)) k1 bel lt1) trodAll_mk0)), rfl, bel.frame _, fun h => by cases h⟩
theorem over : Rows.fnExactNodeNewRow.holds Tryz.pinned (OpenSpec.ofChange Rows.fnExactNodeNewSpec) :=
  OpenClaim.holds_of_wide 6 Tryz.f6 rfl rfl rfl rfl rfl rfl rfl ⟨rfl, rfl, rfl, rfl, rfl⟩ rfl rfl rfl rfl rfl (by kernel_rfl) Tryz.func6 (by kernel_rfl)
    (of_decide_eq_true (by kernel_rfl)) (by unfold Func.isWrapper; first | (rw [if_pos (by decide +kernel)]; kernel_rfl) | (rw [if_neg (by decide +kernel)]; exact ⟨rfl, rfl⟩))
    (fun os started H enc _ => lifted os started H enc)
theorem proved : Rows.FnExactNodeNewCardSaid :=
  Claim7.holds_tied_plain_at .later [] [.data, .data, .data, .data, .sentinel, .sentinel, .pinned] true (true, "a6ba8d38061c69fd48ac94311f6345a740b6093659df377a9e39fa0f645efb89") true
    over (fun _ h => by cases h) (by kernel_rfl) (fun _ h => by cases h) fnExactNodeNew_row_tie rfl ⟨rfl, rfl⟩ (by kernel_rfl) rfl
    (fun f fn hf hfn => by
      obtain rfl : f = 6 := Option.some.inj ((show Tryz.prog.funcNamed "loop.example/g00141/laws.FnExactNodeNew" = some 6 by kernel_rfl).symm.trans hf) |>.symm
      obtain rfl : fn = Tryz.f6 := (Option.some.inj (Tryz.func6.symm.trans hfn)).symm
      exact ⟨by kernel_rfl, fun j t ht => by
        rw [Tryz.params6] at ht
        have hm : t ∈ [2, 24] := by simpa using Array.mem_of_getElem? ht
        have hall : ([2, 24].all fun u => !Tryz.prog.wantsStandIn u) = true := by kernel_rfl
        exact (show Tryz.prog.wantsStandIn t = false by simpa using List.all_eq_true.1 hall t hm)⟩)
    (by kernel_rfl)
#print axioms proved
end Go.Proofs.YtbfgmnjhikaagaaGreatDoor.fnExactNodeNew
namespace Go.Proofs.YtbfgmnjhikaagaaGreatDoor
/-- The row, under a short name, for the claim. -/
theorem fnExactNodeNew_holds : Rows.FnExactNodeNewCardSaid := fnExactNodeNew.proved
end Go.Proofs.YtbfgmnjhikaagaaGreatDoor
