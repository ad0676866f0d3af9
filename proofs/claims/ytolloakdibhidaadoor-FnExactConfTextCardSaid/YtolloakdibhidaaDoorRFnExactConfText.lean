/- The law FnExactConfText holds of the given program: for every input the call returns true, and each argument reads afterwards as it read before. No condition is added to the given statement. -/
import Derived.Test.YtolloakdibhidaaDoorRows
import Derived.Test.YtolloakdibhidaaDoorCards
import Derived.Test.YtolloakdibhidaaDoorTie
import Derived.LaidMore
import Derived.SevenTiedAt
import Derived.Stop.Joined
import Derived.WalkKit
import Derived.ProofKit
import Derived.OpenShut
import Derived.ShutString
import Derived.ChangeOld
import Derived.Below
import Derived.SizedLaws
import Derived.Test.YtolloakdibhidaaDoorCFnExactConfTextL
import Derived.Test.YtolloakdibhidaaDoorCFnExactConfTextF0
import Derived.Test.YtolloakdibhidaaDoorCFnExactConfTextF1
import Derived.Test.YtolloakdibhidaaDoorCFnExactConfTextF2
import Derived.Test.YtolloakdibhidaaDoorCFnExactConfTextF3
namespace Go.Proofs.YtolloakdibhidaaDoor.P
open Go Go.Proofs.YtolloakdibhidaaDoor.PM Go.Proofs
end Go.Proofs.YtolloakdibhidaaDoor.P
namespace Go.Proofs.YtolloakdibhidaaDoor.fnExactConfText
open Go Go.ChangeShapes Go.WideShapes Go.ChangeAt Go.RowKit Go.Proofs.YtolloakdibhidaaDoor Go.Proofs.YtolloakdibhidaaDoor.PM Go.Proofs.YtolloakdibhidaaDoor.P
open Go.ChangeMaps (open_string shut_string)
theorem own : ownKnob Tryd.prog.godebug = none := by kernel_rfl
theorem laidOut : laidOutB Tryd.prog = true := by kernel_rfl
theorem door_met (os : Os) (args : Array Value) : laidMetH Tryd.prog Rows.fnExactConfTextRow.laid ((World.doorLaid Tryd.prog 400 os).forCall (fun _ _ => 0) ⟨#[], args, []⟩).memory :=
  laidMetH_of_parts3 (fuel := 8) (laidMet_of_run' 8 (by kernel_rfl) (by kernel_rfl)) (by kernel_rfl) (by kernel_rfl)
set_option linter.unusedVariables false in
set_option maxHeartbeats 4000000 in
set_option maxRecDepth 100000 in
theorem lifted (os : Os) (started : os.Started) (H : Type) (enc : TypeId × Value → H) :
    ReturnsInHanded {} Tryd.checked os 3 .any (fun w args => (Rows.fnExactConfTextSpec.pre enc Tryd.prog Tryd.f3 [] false w args ∧ laidMetH Tryd.prog Rows.fnExactConfTextRow.laid w) ∧ sizedMet enc Tryd.prog Tryd.f3 (OpenSpec.ofChange Rows.fnExactConfTextSpec) false w args)
      (Rows.fnExactConfTextSpec.post enc Tryd.prog Tryd.f3 false true false false) := by
  refine returnsInHanded_of_change_and (C := Tryd.checked) (X := fun w _ => laidMetH Tryd.prog Rows.fnExactConfTextRow.laid w) (fun _ _ _ hh h => h.of_heap hh) own started (by kernel_rfl) Tryd.func3
    (ChangeSpec.witness_shaped (enc := enc) (C := Tryd.checked) (os := os) (X := fun w _ => laidMetH Tryd.prog Rows.fnExactConfTextRow.laid w) false (World.doorLaid Tryd.prog 400 os) #[.agg #[.slice none 0 0, .slice none 0 0]] 8 rfl (World.shaped_of_RefB (by kernel_rfl) (by kernel_rfl)) (by kernel_rfl) (by kernel_rfl) (by kernel_rfl) (door_met os _)) ?_
  intro W base args ds gs before hval0 hW _ _ hL _
  have hval : ∀ (j : Nat) t v, Tryd.f3.params[j]? = some t → args[j]? = some v → Value.okWide Tryd.prog W .any base t v := hval0
  have hW' := hW
  obtain ⟨p, q, hA0, hV, rfl, hfz, hnd⟩ := hW
  have hA : DataW.TrodAll enc Tryd.prog W 0 (fun _ => true) true Tryd.f3.params.toList args.toList ds p := hA0
  rw [Tryd.params3] at hA hval
  obtain ⟨v0, vs0, d0, ds0, p0, q0, hargs, rfl, rfl, h0, r0⟩ := trodAll_cons hA
  obtain ⟨rfl, rfl, rfl⟩ := trodAll_nil r0
  obtain rfl : args = #[v0] := by cases args; simp_all
  obtain ⟨rfl, rfl⟩ := trodVars_none hV
  have k0 := h0
  have lt0 : ∀ x ∈ p0, x.block < W.heap.size := by obtain ⟨m, hm⟩ := k0; exact DataW.trod_lt m _ _ _ hm
  obtain ⟨fu0, hf0⟩ := h0
  obtain ⟨cs0, rfl, sz0⟩ := okWide_struct Tryd.underlying24 (hval 0 24 v0 rfl rfl)
  have hl0 : cs0.toList.length = 2 := by rw [Array.length_toList, sz0]; kernel_rfl
  obtain ⟨_, fu0, F0⟩ := trod_fields Tryd.underlying24 hf0
  obtain ⟨y0_0, hz0_0⟩ := F0 0 _ rfl
  obtain ⟨l0_0, T0_0, w0_0⟩ := (Opens.slice (k := 1) Tryd.underlying22 (Opens.int (k := .i64) (e := e_i64) Tryd.underlying2 (fun _ => rfl)) (by kernel_rfl) (by decide) (fun _ => rfl)) H enc W 0 _ _ _ _ _ hz0_0
  obtain ⟨y0_1, hz0_1⟩ := F0 1 _ rfl
  obtain ⟨l0_1, T0_1, w0_1⟩ := (Opens.slice (k := 1) Tryd.underlying22 (Opens.int (k := .i64) (e := e_i64) Tryd.underlying2 (fun _ => rfl)) (by kernel_rfl) (by decide) (fun _ => rfl)) H enc W 0 _ _ _ _ _ hz0_1
  have A0 : TellsL W cs0.toList [T.sl (List.map e_i64 l0_0) [], T.sl (List.map e_i64 l0_1) []] := TellsL.top (us := [T.sl (List.map e_i64 l0_0) []] ++ ([T.sl (List.map e_i64 l0_1) []] ++ ([]))) rfl (TellsL.step rfl (TellsL.cast (o' := 0) (k' := 1) (vs := [T.sl (List.map e_i64 l0_0) []]) T0_0 rfl (by kernel_rfl) rfl) (TellsL.step rfl (TellsL.cast (o' := 1) (k' := 1) (vs := [T.sl (List.map e_i64 l0_1) []]) T0_1 rfl (by kernel_rfl) rfl) (TellsL.fin hl0)))
  obtain ⟨k, hk⟩ := Ev.val (law3 l0_0 l0_1 w0_0 w0_1)
  have HA : Args W _ [T.agg [T.sl (List.map e_i64 l0_0) [], T.sl (List.map e_i64 l0_1) []]] := (Args.cons (frV_agg A0 rfl) Args.nil)
  refine (law_calls (P := Tryd.prog) (C := C0) (prim := P0) (by kernel_rfl) (by kernel_rfl) prim_none HA (f3_ok hk)).mono fun e W' ⟨he, bel0⟩ => ?_
  have bel : Below W.heap.size W W' := bel0
  subst he
  exact ⟨_, rfl, _, _, _, [], _, [], hW', trodAll_mk1 (shut_bool Tryd.underlying4 _), (trodAll_cons_mk (Below.trod laidOut (by kernel_rfl) (of_decide_eq_true (by kernel_rfl)) k0 bel lt0) trodAll_mk0), rfl, bel.frame _, fun h => by cases h⟩
theorem over : Rows.fnExactConfTextRow.holds Tryd.pinned (OpenSpec.ofChange Rows.fnExactConfTextSpec) :=
  OpenClaim.holds_of_wide 3 Tryd.f3 rfl rfl rfl rfl rfl rfl rfl ⟨rfl, rfl, rfl, rfl, rfl⟩ rfl rfl rfl rfl rfl (by kernel_rfl) Tryd.func3 (by kernel_rfl)
    (of_decide_eq_true (by kernel_rfl)) (by unfold Func.isWrapper; first | (rw [if_pos (by decide +kernel)]; kernel_rfl) | (rw [if_neg (by decide +kernel)]; exact ⟨rfl, rfl⟩))
    (fun os started H enc _ => lifted os started H enc)
theorem proved : Rows.FnExactConfTextCardSaid :=
  Claim7.holds_tied_plain_at .later [] [.data, .data, .data] true (true, "cb7a405d659971175e61bb6804c5aee422b8040bd3dd19f3fb3a02b43e27388c") true
    over (fun _ h => by cases h) (by kernel_rfl) (fun _ h => by cases h) fnExactConfText_row_tie rfl ⟨rfl, rfl⟩ (by kernel_rfl) rfl
    (fun f fn hf hfn => by
      obtain rfl : f = 3 := Option.some.inj ((show Tryd.prog.funcNamed "loop.example/g00141/laws.FnExactConfText" = some 3 by kernel_rfl).symm.trans hf) |>.symm
      obtain rfl : fn = Tryd.f3 := (Option.some.inj (Tryd.func3.symm.trans hfn)).symm
      exact ⟨by kernel_rfl, fun j t ht => by
        rw [Tryd.params3] at ht
        have hm : t ∈ [24] := by simpa using Array.mem_of_getElem? ht
        have hall : ([24].all fun u => !Tryd.prog.wantsStandIn u) = true := by kernel_rfl
        exact (show Tryd.prog.wantsStandIn t = false by simpa using List.all_eq_true.1 hall t hm)⟩)
    (by kernel_rfl)
#print axioms proved
end Go.Proofs.YtolloakdibhidaaDoor.fnExactConfText
namespace Go.Proofs.YtolloakdibhidaaDoor
/-- The row, under a short name, for the claim. -/
theorem fnExactConfText_holds : Rows.FnExactConfTextCardSaid := fnExactConfText.proved
end Go.Proofs.YtolloakdibhidaaDoor
