/- The law FnReplaced holds of the given program: for every input the call returns true, and each argument reads afterwards as it read before. No condition is added to the given statement. -/
import Derived.Test.YtfjoamlgbegpgaaRows
import Derived.WalkKit
import Derived.ProofKit
import Derived.OpenShut
import Derived.ShutString
import Derived.ChangeOld
import Derived.Below
import Derived.SizedLaws
import Derived.Test.YtfjoamlgbegpgaaCFnReplaced5
namespace Go.Proofs.Ytfjoamlgbegpgaa.P
open Go Go.Proofs.Ytfjoamlgbegpgaa.PM Go.Proofs
end Go.Proofs.Ytfjoamlgbegpgaa.P
namespace Go.Proofs.Ytfjoamlgbegpgaa.fnReplaced
open Go Go.ChangeShapes Go.WideShapes Go.ChangeAt Go.RowKit Go.Proofs.Ytfjoamlgbegpgaa Go.Proofs.Ytfjoamlgbegpgaa.PM Go.Proofs.Ytfjoamlgbegpgaa.P
open Go.ChangeMaps (open_string shut_string)
theorem own : ownKnob Try.prog.godebug = none := by kernel_rfl
theorem laidOut : laidOutB Try.prog = true := by kernel_rfl
set_option linter.unusedVariables false in
set_option maxHeartbeats 4000000 in
set_option maxRecDepth 100000 in
theorem lifted (os : Os) (started : os.Started) (H : Type) (enc : TypeId × Value → H) :
    ReturnsInHanded {} Try.checked os 6 .any (Rows.fnReplacedSpec.pre6 enc Try.prog Try.f6 Rows.fnReplacedRow.domain false) (Rows.fnReplacedSpec.post enc Try.prog Try.f6 false true false false) := by
  refine returnsInHanded_of_change_sized (C := Try.checked) own started (by kernel_rfl) Try.func6
    (ChangeSpec.witness6 (enc := enc) (C := Try.checked) false ⟨#[], #[.slice none 0 0], []⟩ 8 (by kernel_rfl) (by kernel_rfl) (by kernel_rfl) (by kernel_rfl)) ?_
  intro W base args ds gs before hval0 hW hcnd hsz0 _
  have hval : ∀ (j : Nat) t v, Try.f6.params[j]? = some t → args[j]? = some v → Value.okWide Try.prog W .any base t v := hval0
  have hW' := hW
  obtain ⟨p, q, hA0, hV, rfl, hfz, hnd⟩ := hW
  have hA : DataW.TrodAll enc Try.prog W 0 (fun _ => true) true Try.f6.params.toList args.toList ds p := hA0
  rw [Try.params6] at hA hval
  obtain ⟨v0, vs0, d0, ds0, p0, q0, hargs, rfl, rfl, h0, r0⟩ := trodAll_cons hA
  obtain ⟨rfl, rfl, rfl⟩ := trodAll_nil r0
  obtain rfl : args = #[v0] := by cases args; simp_all
  obtain ⟨rfl, rfl⟩ := trodVars_none hV
  have k0 := h0
  have lt0 : ∀ x ∈ p0, x.block < W.heap.size := by obtain ⟨m, hm⟩ := k0; exact DataW.trod_lt m _ _ _ hm
  obtain ⟨fu0, hf0⟩ := h0
  obtain ⟨a0, len0, cap0, rfl⟩ := okWide_slice Try.underlying38 (hval 0 38 v0 rfl rfl)
  obtain ⟨l0, T0, w0⟩ := (Opens.slice (k := 1) Try.underlying38 (Opens.int (k := .u8) (e := e_u8) Try.underlying5 (fun _ => rfl)) (by kernel_rfl) (by decide) (fun _ => rfl)) H enc W 0 _ _ _ _ _ hf0
  obtain ⟨k, hk⟩ := Ev.val (law6_ev l0 (fun x hx => u8_of (w0.2 x hx)))
  have HA : Args W _ [T.sl (List.map e_u8 l0) []] := (Args.cons (frV_one (fun cs h => by cases h) T0 rfl) Args.nil)
  refine (law_calls (P := Try.prog) (C := CC0) (prim := P0) (by kernel_rfl) (by kernel_rfl) prims_ok HA (f6_okT hk)).mono fun e W' ⟨he, bel0⟩ => ?_
  have bel : Below W.heap.size W W' := bel0
  subst he
  exact ⟨_, rfl, _, _, _, [], _, [], hW', trodAll_mk1 (shut_bool Try.underlying4 _), (trodAll_cons_mk (Below.trod laidOut (by kernel_rfl) (of_decide_eq_true (by kernel_rfl)) k0 bel lt0) trodAll_mk0), rfl, bel.frame _, fun h => by cases h⟩
theorem over : Rows.fnReplacedRow.holds Try.pinned (OpenSpec.ofChange Rows.fnReplacedSpec) :=
  OpenClaim.holds_of_wide 6 Try.f6 rfl rfl rfl rfl rfl rfl rfl ⟨rfl, rfl, rfl, rfl, rfl⟩ rfl rfl rfl rfl rfl (by kernel_rfl) Try.func6 (by kernel_rfl)
    (of_decide_eq_true (by kernel_rfl)) (by unfold Func.isWrapper; first | (rw [if_pos (by decide +kernel)]; kernel_rfl) | (rw [if_neg (by decide +kernel)]; exact ⟨rfl, rfl⟩))
    (fun os started H enc _ => lifted os started H enc)
theorem proved : Rows.FnReplacedSaid := over
#print axioms proved
end Go.Proofs.Ytfjoamlgbegpgaa.fnReplaced
namespace Go.Proofs.Ytfjoamlgbegpgaa
/-- The row, under a short name, for the claim. -/
theorem fnReplaced_holds : Rows.FnReplacedSaid := fnReplaced.proved
end Go.Proofs.Ytfjoamlgbegpgaa
