/- The law FnExactReplace holds of the given program: for every input the call returns true, and each argument reads afterwards as it read before. No condition is added to the given statement. -/
import Derived.Test.YtfjoamlgbegpgaaRows
import Derived.Test.YtfjoamlgbegpgaaCFnExactReplace4
import Derived.Test.YtfjoamlgbegpgaaCFnExactReplace5
import Derived.WalkKit
import Derived.ProofKit
import Derived.OpenShut
import Derived.ShutString
import Derived.ChangeOld
import Derived.Below
import Derived.SizedLaws
namespace Go.Proofs.Ytfjoamlgbegpgaa.fnExactReplace
open Go.ChangeShapes Go.WideShapes Go.ChangeAt Go.RowKit Go.Proofs.Ytfjoamlgbegpgaa.Q Go.Proofs.YtfjoamlgbegpgaaW.PrintWords
open Go.ChangeMaps (open_string shut_string)
theorem own : ownKnob Try.prog.godebug = none := by kernel_rfl
theorem laidOut : laidOutB Try.prog = true := by kernel_rfl
theorem cells3 (l : List Value) (h : l.length = 3) : ∃ u0 u1 u2 : Value, l = [u0, u1, u2] := by
  match l, h with
  | [u0, u1, u2], _ => exact ⟨u0, u1, u2, rfl⟩
set_option linter.unusedVariables false in
set_option maxHeartbeats 4000000 in
set_option maxRecDepth 100000 in
theorem lifted (os : Os) (started : os.Started) (H : Type) (enc : TypeId × Value → H) :
    ReturnsInHanded {} Try.checked os 9 .any (Rows.fnExactReplaceSpec.pre6 enc Try.prog Try.f9 Rows.fnExactReplaceRow.domain false) (Rows.fnExactReplaceSpec.post enc Try.prog Try.f9 false true false false) := by
  refine returnsInHanded_of_change_sized (C := Try.checked) own started (by kernel_rfl) Try.func9
    (ChangeSpec.witness6 (enc := enc) (C := Try.checked) false ⟨#[], #[.agg #[.slice none 0 0, .slice none 0 0, .slice none 0 0], .string ByteArray.empty, .string ByteArray.empty], []⟩ 8 (by kernel_rfl) (by kernel_rfl) (by kernel_rfl) (by kernel_rfl)) ?_
  intro W base args ds gs before hval0 hW hcnd hsz0 _
  have hval : ∀ (j : Nat) t v, Try.f9.params[j]? = some t → args[j]? = some v → Value.okWide Try.prog W .any base t v := hval0
  have hW' := hW
  obtain ⟨p, q, hA0, hV, rfl, hfz, hnd⟩ := hW
  have hA : DataW.TrodAll enc Try.prog W 0 (fun _ => true) true Try.f9.params.toList args.toList ds p := hA0
  rw [Try.params9] at hA hval
  obtain ⟨v0, vs0, d0, ds0, p0, q0, hargs, rfl, rfl, h0, r0⟩ := trodAll_cons hA
  obtain ⟨v1, vs1, d1, ds1, p1, q1, rfl, rfl, rfl, h1, r1⟩ := trodAll_cons r0
  obtain ⟨v2, vs2, d2, ds2, p2, q2, rfl, rfl, rfl, h2, r2⟩ := trodAll_cons r1
  obtain ⟨rfl, rfl, rfl⟩ := trodAll_nil r2
  obtain rfl : args = #[v0, v1, v2] := by cases args; simp_all
  obtain ⟨rfl, rfl⟩ := trodVars_none hV
  have k0 := h0
  have lt0 : ∀ x ∈ p0, x.block < W.heap.size := by obtain ⟨m, hm⟩ := k0; exact DataW.trod_lt m _ _ _ hm
  obtain ⟨fu0, hf0⟩ := h0
  obtain ⟨cs0, rfl, sz0⟩ := okWide_struct Try.underlying25 (hval 0 25 v0 rfl rfl)
  obtain ⟨u0_0, u0_1, u0_2, q0⟩ := cells3 cs0.toList (by rw [Array.length_toList, sz0]; kernel_rfl)
  obtain rfl : cs0 = #[u0_0, u0_1, u0_2] := by rw [← Array.toList_inj]; exact q0
  clear q0
  obtain ⟨_, fu0, F0⟩ := trod_fields Try.underlying25 hf0
  obtain ⟨y0_0, hz0_0⟩ := F0 0 _ rfl
  obtain ⟨l0_0, ⟨A0_0, c0_0, e0_0, hc0_0, hr0_0⟩, w0_0⟩ := (Opens.slice Try.underlying22 opens106 (by kernel_rfl)) H enc W 0 _ _ _ _ _ hz0_0
  obtain rfl : u0_0 = .slice A0_0 l0_0.length c0_0 := by have e := e0_0; first | exact (List.cons.inj e).1 | exact (List.cons.inj (show [_] = [_] from e)).1 | simpa using e
  clear e0_0
  obtain ⟨y0_1, hz0_1⟩ := F0 1 _ rfl
  obtain ⟨l0_1, ⟨A0_1, c0_1, e0_1, hc0_1, hr0_1⟩, w0_1⟩ := (Opens.slice Try.underlying22 opens106 (by kernel_rfl)) H enc W 0 _ _ _ _ _ hz0_1
  obtain rfl : u0_1 = .slice A0_1 l0_1.length c0_1 := by have e := e0_1; first | exact (List.cons.inj e).1 | exact (List.cons.inj (show [_] = [_] from e)).1 | simpa using e
  clear e0_1
  obtain ⟨y0_2, hz0_2⟩ := F0 2 _ rfl
  obtain ⟨l0_2, ⟨A0_2, c0_2, e0_2, hc0_2, hr0_2⟩, w0_2⟩ := (Opens.slice Try.underlying23 opens108 (by kernel_rfl)) H enc W 0 _ _ _ _ _ hz0_2
  obtain rfl : u0_2 = .slice A0_2 l0_2.length c0_2 := by have e := e0_2; first | exact (List.cons.inj e).1 | exact (List.cons.inj (show [_] = [_] from e)).1 | simpa using e
  clear e0_2
  obtain ⟨a1, rfl, rfl, rfl, w1⟩ := open_string Try.underlying9 (hval 1 9 v1 rfl rfl) h1
  obtain ⟨a2, rfl, rfl, rfl, w2⟩ := open_string Try.underlying9 (hval 2 9 v2 rfl rfl) h2
  clear hA0 hval0 hsz0
  obtain ⟨k, hk⟩ := Ev.val (law_FnExactReplace.ev l0_0 l0_1 l0_2 a1 a2 w0_0 w0_1 w0_2 w1 w2)
  refine (laws_FnExactReplace.calls k _ _ l0_0 _ _ l0_1 _ _ l0_2 a1 a2 W hr0_0 hc0_0 hr0_1 hc0_1 hr0_2 hc0_2 hk).mono fun e W' ⟨he, bel0⟩ => ?_
  have bel : Below W.heap.size W W' := bel0
  subst he
  exact ⟨_, rfl, _, _, _, [], _, [], hW', trodAll_mk1 (shut_bool Try.underlying4 _), (trodAll_cons_mk (Below.trod laidOut (by kernel_rfl) (of_decide_eq_true (by kernel_rfl)) k0 bel lt0) (trodAll_cons_mk (shut_string Try.underlying9 w1) (trodAll_cons_mk (shut_string Try.underlying9 w2) trodAll_mk0))), rfl, bel.frame _, fun h => by cases h⟩
theorem over : Rows.fnExactReplaceRow.holds Try.pinned (OpenSpec.ofChange Rows.fnExactReplaceSpec) :=
  OpenClaim.holds_of_wide 9 Try.f9 rfl rfl rfl rfl rfl rfl rfl ⟨rfl, rfl, rfl, rfl, rfl⟩ rfl rfl rfl rfl rfl (by kernel_rfl) Try.func9 (by kernel_rfl)
    (of_decide_eq_true (by kernel_rfl)) (by unfold Func.isWrapper; first | (rw [if_pos (by decide +kernel)]; kernel_rfl) | (rw [if_neg (by decide +kernel)]; exact ⟨rfl, rfl⟩))
    (fun os started H enc _ => lifted os started H enc)
theorem proved : Rows.FnExactReplaceSaid := over
#print axioms proved
end Go.Proofs.Ytfjoamlgbegpgaa.fnExactReplace
namespace Go.Proofs.Ytfjoamlgbegpgaa
/-- The row, under a short name, for the claim. -/
theorem fnExactReplace_holds : Rows.FnExactReplaceSaid := fnExactReplace.proved
end Go.Proofs.Ytfjoamlgbegpgaa
