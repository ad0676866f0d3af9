/- The law FnExactSaveEntries holds of the given program: for every input the call returns true, and each argument reads afterwards as it read before. No condition is added to the given statement. -/
import Derived.Test.YtopnfhlgaiocpaaGreatRows
import Derived.WalkKit
import Derived.ProofKit
import Derived.OpenShut
import Derived.ShutString
import Derived.ChangeOld
import Derived.Below
import Derived.SizedLaws
import Derived.Test.YtopnfhlgaiocpaaGreatCFnExactSaveEntries5
namespace Go.Proofs.YtopnfhlgaiocpaaGreat.P
open Go Go.Proofs.YtopnfhlgaiocpaaGreat.PM Go.Proofs
def okT75 (x : S75) : Prop := (okS) x.f0 ∧ (okS) x.f1
theorem opens75 : Opens Tryz.prog 75 e75 okT75 := by
  intro H enc W base spare held fuel cs y h
  have hl : cs.length = 2 := (trod_fields Tryz.underlying75 h).1.trans (by kernel_rfl)
  obtain ⟨_, fu, F⟩ := trod_fields Tryz.underlying75 h
  obtain ⟨y_0, hz_0⟩ := F 0 _ rfl
  obtain ⟨l_0, T_0, w_0⟩ := (Opens.string (e := eStr) Tryz.underlying9 (fun _ => rfl)) H enc W base _ _ _ _ _ hz_0
  obtain ⟨y_1, hz_1⟩ := F 1 _ rfl
  obtain ⟨l_1, T_1, w_1⟩ := (Opens.string (e := eStr) Tryz.underlying9 (fun _ => rfl)) H enc W base _ _ _ _ _ hz_1
  exact ⟨⟨l_0, l_1⟩, (TellsL.top (us := [T.sc (.string l_0)] ++ ([T.sc (.string l_1)] ++ ([]))) rfl (TellsL.step rfl (TellsL.cast (o' := 0) (k' := 1) (vs := [T.sc (.string l_0)]) T_0 rfl (by kernel_rfl) rfl) (TellsL.step rfl (TellsL.cast (o' := 1) (k' := 1) (vs := [T.sc (.string l_1)]) T_1 rfl (by kernel_rfl) rfl) (TellsL.fin hl)))), w_0, w_1⟩
def okT77 (x : S77) : Prop := (okI .i64) x.f0 ∧ (okS) x.f1 ∧ (okS) x.f2 ∧ (okS) x.f3
theorem opens77 : Opens Tryz.prog 77 e77 okT77 := by
  intro H enc W base spare held fuel cs y h
  have hl : cs.length = 4 := (trod_fields Tryz.underlying77 h).1.trans (by kernel_rfl)
  obtain ⟨_, fu, F⟩ := trod_fields Tryz.underlying77 h
  obtain ⟨y_0, hz_0⟩ := F 0 _ rfl
  obtain ⟨l_0, T_0, w_0⟩ := (Opens.int (k := .i64) (e := e_i64) Tryz.underlying2 (fun _ => rfl)) H enc W base _ _ _ _ _ hz_0
  obtain ⟨y_1, hz_1⟩ := F 1 _ rfl
  obtain ⟨l_1, T_1, w_1⟩ := (Opens.string (e := eStr) Tryz.underlying9 (fun _ => rfl)) H enc W base _ _ _ _ _ hz_1
  obtain ⟨y_2, hz_2⟩ := F 2 _ rfl
  obtain ⟨l_2, T_2, w_2⟩ := (Opens.string (e := eStr) Tryz.underlying9 (fun _ => rfl)) H enc W base _ _ _ _ _ hz_2
  obtain ⟨y_3, hz_3⟩ := F 3 _ rfl
  obtain ⟨l_3, T_3, w_3⟩ := (Opens.string (e := eStr) Tryz.underlying9 (fun _ => rfl)) H enc W base _ _ _ _ _ hz_3
  exact ⟨⟨l_0, l_1, l_2, l_3⟩, (TellsL.top (us := [T.sc (.int .i64 l_0)] ++ ([T.sc (.string l_1)] ++ ([T.sc (.string l_2)] ++ ([T.sc (.string l_3)] ++ ([]))))) rfl (TellsL.step rfl (TellsL.cast (o' := 0) (k' := 1) (vs := [T.sc (.int .i64 l_0)]) T_0 rfl (by kernel_rfl) rfl) (TellsL.step rfl (TellsL.cast (o' := 1) (k' := 1) (vs := [T.sc (.string l_1)]) T_1 rfl (by kernel_rfl) rfl) (TellsL.step rfl (TellsL.cast (o' := 2) (k' := 1) (vs := [T.sc (.string l_2)]) T_2 rfl (by kernel_rfl) rfl) (TellsL.step rfl (TellsL.cast (o' := 3) (k' := 1) (vs := [T.sc (.string l_3)]) T_3 rfl (by kernel_rfl) rfl) (TellsL.fin hl)))))), w_0, w_1, w_2, w_3⟩
def okT47 (x : S47) : Prop := (okI .i64) x.f0 ∧ (okI .i64) x.f1 ∧ (okS) x.f2
theorem opens47 : Opens Tryz.prog 47 e47 okT47 := by
  intro H enc W base spare held fuel cs y h
  have hl : cs.length = 3 := (trod_fields Tryz.underlying47 h).1.trans (by kernel_rfl)
  obtain ⟨_, fu, F⟩ := trod_fields Tryz.underlying47 h
  obtain ⟨y_0, hz_0⟩ := F 0 _ rfl
  obtain ⟨l_0, T_0, w_0⟩ := (Opens.int (k := .i64) (e := e_i64) Tryz.underlying2 (fun _ => rfl)) H enc W base _ _ _ _ _ hz_0
  obtain ⟨y_1, hz_1⟩ := F 1 _ rfl
  obtain ⟨l_1, T_1, w_1⟩ := (Opens.int (k := .i64) (e := e_i64) Tryz.underlying2 (fun _ => rfl)) H enc W base _ _ _ _ _ hz_1
  obtain ⟨y_2, hz_2⟩ := F 2 _ rfl
  obtain ⟨l_2, T_2, w_2⟩ := (Opens.string (e := eStr) Tryz.underlying9 (fun _ => rfl)) H enc W base _ _ _ _ _ hz_2
  exact ⟨⟨l_0, l_1, l_2⟩, (TellsL.top (us := [T.sc (.int .i64 l_0)] ++ ([T.sc (.int .i64 l_1)] ++ ([T.sc (.string l_2)] ++ ([])))) rfl (TellsL.step rfl (TellsL.cast (o' := 0) (k' := 1) (vs := [T.sc (.int .i64 l_0)]) T_0 rfl (by kernel_rfl) rfl) (TellsL.step rfl (TellsL.cast (o' := 1) (k' := 1) (vs := [T.sc (.int .i64 l_1)]) T_1 rfl (by kernel_rfl) rfl) (TellsL.step rfl (TellsL.cast (o' := 2) (k' := 1) (vs := [T.sc (.string l_2)]) T_2 rfl (by kernel_rfl) rfl) (TellsL.fin hl))))), w_0, w_1, w_2⟩
end Go.Proofs.YtopnfhlgaiocpaaGreat.P
namespace Go.Proofs.YtopnfhlgaiocpaaGreat.fnExactSaveEntries
open Go Go.ChangeShapes Go.WideShapes Go.ChangeAt Go.RowKit Go.Proofs.YtopnfhlgaiocpaaGreat Go.Proofs.YtopnfhlgaiocpaaGreat.PM Go.Proofs.YtopnfhlgaiocpaaGreat.P
open Go.ChangeMaps (open_string shut_string)
theorem own : ownKnob Tryz.prog.godebug = none := by kernel_rfl
theorem laidOut : laidOutB Tryz.prog = true := by kernel_rfl
set_option linter.unusedVariables false in
set_option maxHeartbeats 4000000 in
set_option maxRecDepth 100000 in
theorem lifted (os : Os) (started : os.Started) (H : Type) (enc : TypeId × Value → H) :
    ReturnsInHanded {} Tryz.checked os 3 .any (Rows.fnExactSaveEntriesSpec.pre6 enc Tryz.prog Tryz.f3 Rows.fnExactSaveEntriesRow.domain false) (Rows.fnExactSaveEntriesSpec.post enc Tryz.prog Tryz.f3 false true false false) := by
  refine returnsInHanded_of_change_sized (C := Tryz.checked) own started (by kernel_rfl) Tryz.func3
    (ChangeSpec.witness6 (enc := enc) (C := Tryz.checked) false ⟨#[], #[.agg #[.slice none 0 0, .slice none 0 0, .slice none 0 0], .int .i64 0, .slice none 0 0], []⟩ 8 (by kernel_rfl) (by kernel_rfl) (by kernel_rfl) (by kernel_rfl)) ?_
  intro W base args ds gs before hval0 hW hcnd hsz0 _
  have hval : ∀ (j : Nat) t v, Tryz.f3.params[j]? = some t → args[j]? = some v → Value.okWide Tryz.prog W .any base t v := hval0
  have hW' := hW
  obtain ⟨p, q, hA0, hV, rfl, hfz, hnd⟩ := hW
  have hA : DataW.TrodAll enc Tryz.prog W 0 (fun _ => true) true Tryz.f3.params.toList args.toList ds p := hA0
  rw [Tryz.params3] at hA hval
  obtain ⟨v0, vs0, d0, ds0, p0, q0, hargs, rfl, rfl, h0, r0⟩ := trodAll_cons hA
  obtain ⟨v1, vs1, d1, ds1, p1, q1, rfl, rfl, rfl, h1, r1⟩ := trodAll_cons r0
  obtain ⟨v2, vs2, d2, ds2, p2, q2, rfl, rfl, rfl, h2, r2⟩ := trodAll_cons r1
  obtain ⟨rfl, rfl, rfl⟩ := trodAll_nil r2
  obtain rfl : args = #[v0, v1, v2] := by cases args; simp_all
  obtain ⟨rfl, rfl⟩ := trodVars_none hV
  have k0 := h0
  have lt0 : ∀ x ∈ p0, x.block < W.heap.size := by obtain ⟨m, hm⟩ := k0; exact DataW.trod_lt m _ _ _ hm
  obtain ⟨fu0, hf0⟩ := h0
  obtain ⟨cs0, rfl, sz0⟩ := okWide_struct Tryz.underlying25 (hval 0 25 v0 rfl rfl)
  have hl0 : cs0.toList.length = 3 := by rw [Array.length_toList, sz0]; kernel_rfl
  obtain ⟨_, fu0, F0⟩ := trod_fields Tryz.underlying25 hf0
  obtain ⟨y0_0, hz0_0⟩ := F0 0 _ rfl
  obtain ⟨l0_0, T0_0, w0_0⟩ := (Opens.slice (k := 2) Tryz.underlying22 opens75 (by kernel_rfl) (by decide) (fun _ => rfl)) H enc W 0 _ _ _ _ _ hz0_0
  obtain ⟨y0_1, hz0_1⟩ := F0 1 _ rfl
  obtain ⟨l0_1, T0_1, w0_1⟩ := (Opens.slice (k := 2) Tryz.underlying22 opens75 (by kernel_rfl) (by decide) (fun _ => rfl)) H enc W 0 _ _ _ _ _ hz0_1
  obtain ⟨y0_2, hz0_2⟩ := F0 2 _ rfl
  obtain ⟨l0_2, T0_2, w0_2⟩ := (Opens.slice (k := 4) Tryz.underlying23 opens77 (by kernel_rfl) (by decide) (fun _ => rfl)) H enc W 0 _ _ _ _ _ hz0_2
  have A0 : TellsL W cs0.toList [T.sl (List.map e75 l0_0) [], T.sl (List.map e75 l0_1) [], T.sl (List.map e77 l0_2) []] := TellsL.top (us := [T.sl (List.map e75 l0_0) []] ++ ([T.sl (List.map e75 l0_1) []] ++ ([T.sl (List.map e77 l0_2) []] ++ ([])))) rfl (TellsL.step rfl (TellsL.cast (o' := 0) (k' := 1) (vs := [T.sl (List.map e75 l0_0) []]) T0_0 rfl (by kernel_rfl) rfl) (TellsL.step rfl (TellsL.cast (o' := 1) (k' := 1) (vs := [T.sl (List.map e75 l0_1) []]) T0_1 rfl (by kernel_rfl) rfl) (TellsL.step rfl (TellsL.cast (o' := 2) (k' := 1) (vs := [T.sl (List.map e77 l0_2) []]) T0_2 rfl (by kernel_rfl) rfl) (TellsL.fin hl0))))
  obtain ⟨l1, rfl, rfl, rfl, w1⟩ := open_int Tryz.underlying2 (hval 1 2 v1 rfl rfl) h1
  have k2 := h2
  have lt2 : ∀ x ∈ p2, x.block < W.heap.size := by obtain ⟨m, hm⟩ := k2; exact DataW.trod_lt m _ _ _ hm
  obtain ⟨fu2, hf2⟩ := h2
  obtain ⟨a2, len2, cap2, rfl⟩ := okWide_slice Tryz.underlying26 (hval 2 26 v2 rfl rfl)
  obtain ⟨l2, T2, w2⟩ := (Opens.slice (k := 3) Tryz.underlying26 opens47 (by kernel_rfl) (by decide) (fun _ => rfl)) H enc W 0 _ _ _ _ _ hf2
  obtain ⟨k, hk⟩ := Ev.val (law3_ev l0_0 l0_1 l0_2 l1 l2 ⟨w0_0.1, fun x hx => w0_0.2 x hx⟩ ⟨w0_1.1, fun x hx => w0_1.2 x hx⟩ ⟨w0_2.1, fun x hx => (w0_2.2 x hx).2⟩ w2.1 (fun x hx => (w2.2 x hx).2.2))
  have HA : Args W _ [T.agg [T.sl (List.map e75 l0_0) [], T.sl (List.map e75 l0_1) [], T.sl (List.map e77 l0_2) []], T.sc (.int .i64 l1), T.sl (List.map e47 l2) []] := (Args.cons (frV_agg A0 rfl) (Args.cons ⟨rfl, rfl⟩ (Args.cons (frV_one (fun cs h => by cases h) T2 rfl) Args.nil)))
  refine (law_calls (P := Tryz.prog) (C := CC0) (prim := P0) (by kernel_rfl) (by kernel_rfl) prims_ok HA (glob_none (by kernel_rfl)) (f3_okT hk)).mono fun e W' ⟨he, bel0⟩ => ?_
  have bel : Below W.heap.size W W' := bel0
  subst he
  exact ⟨_, rfl, _, _, _, [], _, [], hW', trodAll_mk1 (shut_bool Tryz.underlying4 _), (trodAll_cons_mk (Below.trod laidOut (by kernel_rfl) (of_decide_eq_true (by kernel_rfl)) k0 bel lt0) (trodAll_cons_mk (shut_int Tryz.underlying2 w1) (trodAll_cons_mk (Below.trod laidOut (by kernel_rfl) (of_decide_eq_true (by kernel_rfl)) k2 bel lt2) trodAll_mk0))), rfl, bel.frame _, fun h => by cases h⟩
theorem over : Rows.fnExactSaveEntriesRow.holds Tryz.pinned (OpenSpec.ofChange Rows.fnExactSaveEntriesSpec) :=
  OpenClaim.holds_of_wide 3 Tryz.f3 rfl rfl rfl rfl rfl rfl rfl ⟨rfl, rfl, rfl, rfl, rfl⟩ rfl rfl rfl rfl rfl (by kernel_rfl) Tryz.func3 (by kernel_rfl)
    (of_decide_eq_true (by kernel_rfl)) (by unfold Func.isWrapper; first | (rw [if_pos (by decide +kernel)]; kernel_rfl) | (rw [if_neg (by decide +kernel)]; exact ⟨rfl, rfl⟩))
    (fun os started H enc _ => lifted os started H enc)
theorem proved : Rows.FnExactSaveEntriesSaid := over
#print axioms proved
end Go.Proofs.YtopnfhlgaiocpaaGreat.fnExactSaveEntries
namespace Go.Proofs.YtopnfhlgaiocpaaGreat
/-- The row, under a short name, for the claim. -/
theorem fnExactSaveEntries_holds : Rows.FnExactSaveEntriesSaid := fnExactSaveEntries.proved
end Go.Proofs.YtopnfhlgaiocpaaGreat
