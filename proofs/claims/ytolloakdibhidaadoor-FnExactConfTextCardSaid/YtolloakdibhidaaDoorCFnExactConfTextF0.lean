/- Part of the proof of FnExactConfText: no statement of its own. -/
import Derived.Test.YtolloakdibhidaaDoorCFnExactConfTextB
set_option linter.unusedVariables false
set_option linter.unusedSimpArgs false
namespace Go.Proofs.YtolloakdibhidaaDoor.P
open Go Go.Proofs.YtolloakdibhidaaDoor.PM Go.Proofs
attribute [local simp] execK_seq execK_region execK_ret execK_skip execK_exit execK_block execK_cond condK_bool seqK_normal seqK_ret seqK_exit blockK_normal blockK_ret blockK_exit giveK_normal giveK_ret regionK clearK_none clearK_some normR_mk normR_def freshR fresh1 nextK_normal nextK_ret nextK_exit
  regionR runOps stepR wantR opR evalT lift lift1 Rd.run Rd.run_bind wrOk putT putAll putIn lookIn guardR Rd.ofOption obj buildSliceR mapR close close1 view1 plainB T.width T.cells room appendR strR newsR elemsR setAll most Ob.kill Ob.gone pure findK FCert.predsOf logsR Log.bare meets
  loadR storeR takeCells closeIf cellT splice T.withCells buildR fillR chk undT giveR resR outAll outOne outCell outCells outMany reachN refs refs1 posIn srcN validB mapV mapA mapC mapOb pickTmps lenR sliceR bound hiB loB makeSliceR copyR
  ev_add ev_sub ev_mul ev_quo ev_rem ev_sadd ev_eql ev_neq ev_lss ev_leq ev_gtr ev_geq ev_seql ev_sneq ev_slss ev_sleq ev_sgtr ev_sgeq ev_not ev_neg ev_unxor ev_conv scOf bsize_mk bytesOf bytesOf_map bytesOf_append eqSc eqFs strOf ev_min ev_and ev_or ev_xor ev_andNot ev_shl ev_shr indexAddrR intOf callR passAll passT pass1 reach passOb backN backS noSrc flatL verOf at_map byteAt_eq wid_append wid_nil wid_cons List.take_of_length_le wStr w_i64 w_u8 eStr eBool e_i64 e_u8 List.range_succ bytesL
  sz2 ag2 by2 ze2 sz3 ag3 by3 ze3 sz4 ag4 by4 ze4 sz5 ag5 by5 ze5 sz9 ag9 by9 ze9 sz22 ag22 by22 ze22 el22 sz24 ag24 by24 ze24 fs24 sz27 ag27 by27 ze27 fs27 sz45 ag45 by45 ze45 el45 sz63 ag63 by63 ze63 sz64 ag64 by64 ze64 ck3 ck4 ck9 ck22 ck27 ft24_0 ft24_1 ft27_0 ft27_1 Tryd.underlying2 Tryd.underlying5 Tryd.underlying9 Tryd.underlying22 Tryd.underlying45 Tryd.underlying64
attribute [local simp] get_Int get_Str get_Bool get_byte 
set_option maxRecDepth 100000
set_option maxHeartbeats 4000000
theorem ok14 : okCode (C0 14) Tryd.f14.body.get! = true := by kernel_rfl
theorem f14_ok {k : Nat} {a0_0 : List Int} {a1_0 : Int} {r : Int} (h : f14 k a0_0 a1_0 = some r) : callT Tryd.prog C0 P0 14 [T.sl (List.map e_i64 a0_0) [], T.sc (.int .i64 a1_0)] [] = some (T.sc (.int .i64 r), []) := by
 rw [callK_eq rfl Tryd.func14 rfl ok14]
 unfold f14 at h
 rcases ite_some h with ⟨c1', h⟩ | ⟨c1', h⟩
 ·
  obtain rfl := Option.some.inj h
  simp [C0, c14, Tryd.f14, c1']
 ·
  obtain rfl := Option.some.inj h
  simp [C0, c14, Tryd.f14, c1']
theorem ok5 : okCode (C0 5) Tryd.f5.body.get! = true := by kernel_rfl
theorem f5_ok {k : Nat} {a0_0 : List Int} {a0_1 : List Int} {a1_0 : Int} {r : Int} (h : f5 k a0_0 a0_1 a1_0 = some r) : callT Tryd.prog C0 P0 5 [T.agg [T.sl (List.map e_i64 a0_0) [], T.sl (List.map e_i64 a0_1) []], T.sc (.int .i64 a1_0)] [] = some (T.sc (.int .i64 r), []) := by
 rw [callK_eq rfl Tryd.func5 rfl ok5]
 unfold f5 at h
 obtain ⟨t1, d1', h⟩ := bind_l h
 replace d1' := f14_ok d1'
 rcases ite_some h with ⟨c2', h⟩ | ⟨c2', h⟩
 ·
  obtain rfl := Option.some.inj h
  simp [C0, c5, c14, Tryd.f5, d1', c2']
 ·
  obtain ⟨t2, d3', h⟩ := bind_l h
  replace d3' := f14_ok d3'
  rcases ite_some h with ⟨c4', h⟩ | ⟨c4', h⟩
  ·
   obtain rfl := Option.some.inj h
   simp [C0, c5, c14, Tryd.f5, d1', c2', d3', c4']
  ·
   obtain rfl := Option.some.inj h
   simp [C0, c5, c14, Tryd.f5, d1', c2', d3', c4']
theorem ok36 : okCode (C0 36) Tryd.f36.body.get! = true := by kernel_rfl
theorem f36_ok {k : Nat} {a0_0 : Int} {a1_0 : Int} {a2_0 : Int} {r : Bool} (h : f36 k a0_0 a1_0 a2_0 = some r) : callT Tryd.prog C0 P0 36 [T.sc (.int .i64 a0_0), T.sc (.int .i64 a1_0), T.sc (.int .i64 a2_0)] [] = some (T.sc (.bool r), []) := by
 rw [callK_eq rfl Tryd.func36 rfl ok36]
 unfold f36 at h
 rcases ite_some h with ⟨c1', h⟩ | ⟨c1', h⟩
 ·
  obtain rfl := Option.some.inj h
  simp [C0, c36, Tryd.f36, c1']
 ·
  obtain rfl := Option.some.inj h
  simp [C0, c36, Tryd.f36, c1']
theorem ok26 : okCode (C0 26) Tryd.f26.body.get! = true := by kernel_rfl
theorem f26_ok {k : Nat} {a0_0 : List Int} {a1_0 : Int} {r : Bool} (h : f26 k a0_0 a1_0 = some r) : callT Tryd.prog C0 P0 26 [T.sl (List.map e_i64 a0_0) [], T.sc (.int .i64 a1_0)] [] = some (T.sc (.bool r), []) := by
 rw [callK_eq rfl Tryd.func26 rfl ok26]
 unfold f26 at h
 rcases ite_some h with ⟨c1', h⟩ | ⟨c1', h⟩
 ·
  obtain rfl := Option.some.inj h
  simp [C0, c26, c36, Tryd.f26, c1']
 ·
  simp [C0, c26, c36, Tryd.f26, c1']
  refine loop_ind (α := (List Int) × Int) k (fun x s => normR [(0, 0), (5, 0)] s = stf26_4 x.1 x.2) (fun k x => f26.l4 k x.1 x.2) (fun r => (some (T.sc (.bool r), []) : Option (T × List Ob))) (fun x => by simp only [f26.l4]) _ ?_ (a0_0, 0) _ ?_ h
  · rintro n2' ⟨x0, x5⟩ s hn2' hs2' h ih4
    simp only [f26.l4] at h
    simp only [stf26_4] at hs2'
    rcases ite_some h with ⟨c3', h⟩ | ⟨c3', h⟩
    ·
     obtain ⟨c4', h⟩ := ite_l h
     obtain ⟨t1, d5', h⟩ := bind_l h
     replace d5' := f36_ok d5'
     rcases ite_some h with ⟨c6', h⟩ | ⟨c6', h⟩
     ·
      rcases ite_some h with ⟨c7', h⟩ | ⟨c7', h⟩
      ·
       obtain ⟨c8', h⟩ := ite_l h
       obtain ⟨c9', h⟩ := ite_l h
       rcases ite_some h with ⟨c10', h⟩ | ⟨c10', h⟩
       ·
        obtain rfl := Option.some.inj h
        simp [C0, c26, c36, Tryd.f26, c1', hs2', c3', c4', d5', c6', c7', c8', c9', c10']
       ·
        simp [C0, c26, c36, Tryd.f26, c1', hs2', c3', c4', d5', c6', c7', c8', c9', c10']
        refine ih4 _ (x0, (IntKind.i64.wrap (x5 + 1))) _ (by omega) ?_ h
        simp [stf26_4, c1', hs2', c3', c4', d5', c6', c7', c8', c9', c10']
      ·
       simp [C0, c26, c36, Tryd.f26, c1', hs2', c3', c4', d5', c6', c7']
       refine ih4 _ (x0, (IntKind.i64.wrap (x5 + 1))) _ (by omega) ?_ h
       simp [stf26_4, c1', hs2', c3', c4', d5', c6', c7']
     ·
      obtain rfl := Option.some.inj h
      simp [C0, c26, c36, Tryd.f26, c1', hs2', c3', c4', d5', c6']
    ·
     obtain rfl := Option.some.inj h
     simp [C0, c26, c36, Tryd.f26, c1', hs2', c3']
  · simp [stf26_4, c1']
theorem ok27 : okCode (C0 27) Tryd.f27.body.get! = true := by kernel_rfl
theorem f27_ok {k : Nat} {a0_0 : List Int} {a1_0 : Int} {r : Bool} (h : f27 k a0_0 a1_0 = some r) : callT Tryd.prog C0 P0 27 [T.sl (List.map e_i64 a0_0) [], T.sc (.int .i64 a1_0)] [] = some (T.sc (.bool r), []) := by
 rw [callK_eq rfl Tryd.func27 rfl ok27]
 unfold f27 at h
 simp [C0, c27, Tryd.f27]
 refine loop_ind (α := (List Int) × Int × Int) k (fun x s => normR [(0, 0), (1, 0), (5, 0)] s = stf27_2 x.1 x.2.1 x.2.2) (fun k x => f27.l2 k x.1 x.2.1 x.2.2) (fun r => (some (T.sc (.bool r), []) : Option (T × List Ob))) (fun x => by simp only [f27.l2]) _ ?_ (a0_0, a1_0, 0) _ ?_ h
 · rintro n1' ⟨x0, x1, x5⟩ s hn1' hs1' h ih2
   simp only [f27.l2] at h
   simp only [stf27_2] at hs1'
   rcases ite_some h with ⟨c2', h⟩ | ⟨c2', h⟩
   ·
    obtain ⟨c3', h⟩ := ite_l h
    rcases ite_some h with ⟨c4', h⟩ | ⟨c4', h⟩
    ·
     obtain rfl := Option.some.inj h
     simp [C0, c27, Tryd.f27, hs1', c2', c3', c4']
    ·
     simp [C0, c27, Tryd.f27, hs1', c2', c3', c4']
     refine ih2 _ (x0, x1, (IntKind.i64.wrap (x5 + 1))) _ (by omega) ?_ h
     simp [stf27_2, hs1', c2', c3', c4']
   ·
    obtain rfl := Option.some.inj h
    simp [C0, c27, Tryd.f27, hs1', c2']
 · simp [stf27_2]
theorem ok15 : okCode (C0 15) Tryd.f15.body.get! = true := by kernel_rfl
theorem f15_ok {k : Nat} {a0_0 : List Int} {a0_1 : List Int} {r : Bool} (h : f15 k a0_0 a0_1 = some r) : callT Tryd.prog C0 P0 15 [T.agg [T.sl (List.map e_i64 a0_0) [], T.sl (List.map e_i64 a0_1) []]] [] = some (T.sc (.bool r), []) := by
 rw [callK_eq rfl Tryd.func15 rfl ok15]
 unfold f15 at h
 rcases ite_some h with ⟨c1', h⟩ | ⟨c1', h⟩
 ·
  obtain rfl := Option.some.inj h
  simp [C0, c15, c26, c27, Tryd.f15, c1']
 ·
  obtain ⟨t1, d2', h⟩ := bind_l h
  replace d2' := f26_ok d2'
  rcases ite_some h with ⟨c3', h⟩ | ⟨c3', h⟩
  ·
   obtain ⟨t2, d4', h⟩ := bind_l h
   replace d4' := f26_ok d4'
   rcases ite_some h with ⟨c5', h⟩ | ⟨c5', h⟩
   ·
    simp [C0, c15, c26, c27, Tryd.f15, c1', d2', c3', d4', c5']
    refine loop_ind (α := Int × (List Int) × (List Int)) k (fun x s => normR [(1, 0), (3, 0)] s = stf15_4 x.1 x.2.1 x.2.2) (fun k x => f15.l4 k x.1 x.2.1 x.2.2) (fun r => (some (T.sc (.bool r), []) : Option (T × List Ob))) (fun x => by simp only [f15.l4]) _ ?_ (0, a0_0, a0_1) _ ?_ h
    · rintro n6' ⟨x3, b0_0, b0_1⟩ s hn6' hs6' h ih4
      simp only [f15.l4] at h
      simp only [stf15_4] at hs6'
      rcases ite_some h with ⟨c7', h⟩ | ⟨c7', h⟩
      ·
       obtain ⟨c8', h⟩ := ite_l h
       obtain ⟨t3, d9', h⟩ := bind_l h
       replace d9' := f27_ok d9'
       rcases ite_some h with ⟨c10', h⟩ | ⟨c10', h⟩
       ·
        obtain rfl := Option.some.inj h
        simp [C0, c15, c26, c27, Tryd.f15, c1', d2', c3', d4', c5', hs6', c7', c8', d9', c10']
       ·
        simp [C0, c15, c26, c27, Tryd.f15, c1', d2', c3', d4', c5', hs6', c7', c8', d9', c10']
        refine ih4 _ ((IntKind.i64.wrap (x3 + 1)), b0_0, b0_1) _ (by omega) ?_ h
        simp [stf15_4, c1', d2', c3', d4', c5', hs6', c7', c8', d9', c10']
      ·
       obtain rfl := Option.some.inj h
       simp [C0, c15, c26, c27, Tryd.f15, c1', d2', c3', d4', c5', hs6', c7']
    · simp [stf15_4, c1', d2', c3', d4', c5']
   ·
    obtain rfl := Option.some.inj h
    simp [C0, c15, c26, c27, Tryd.f15, c1', d2', c3', d4', c5']
  ·
   obtain rfl := Option.some.inj h
   simp [C0, c15, c26, c27, Tryd.f15, c1', d2', c3']
theorem ok16 : okCode (C0 16) Tryd.f16.body.get! = true := by kernel_rfl
theorem f16_ok {k : Nat} {a0_0 : Int} {r : ByteArray} (h : f16 k a0_0 = some r) : callT Tryd.prog C0 P0 16 [T.sc (.int .i64 a0_0)] [] = some (T.sc (.string r), []) := by
 rw [callK_eq rfl Tryd.func16 rfl ok16]
 unfold f16 at h
 rcases ite_some h with ⟨c1', h⟩ | ⟨c1', h⟩
 ·
  obtain rfl := Option.some.inj h
  simp [C0, c16, Tryd.f16, c1']
 ·
  simp [C0, c16, Tryd.f16, c1']
  refine loop_ind (α := Int × ByteArray) k (fun x s => normR [(0, 0), (3, 0)] s = stf16_4 x.1 x.2) (fun k x => f16.l4 k x.1 x.2) (fun r => (some (T.sc (.string r), []) : Option (T × List Ob))) (fun x => by simp only [f16.l4]) _ ?_ (a0_0, (⟨#[]⟩ : ByteArray)) _ ?_ h
  · rintro n2' ⟨x0, x3⟩ s hn2' hs2' h ih4
    simp only [f16.l4] at h
    simp only [stf16_4] at hs2'
    rcases ite_some h with ⟨c3', h⟩ | ⟨c3', h⟩
    ·
     obtain ⟨c4', h⟩ := ite_l h
     simp [C0, c16, Tryd.f16, c1', hs2', c3', c4']
     refine ih4 _ ((IntKind.i64.wrap (x0.tdiv 10)), ((strOf ([(IntKind.u8.wrap (IntKind.i64.wrap (48 + (x0.tmod 10))))] : List Int)) ++ x3)) _ (by omega) ?_ h
     simp [stf16_4, c1', hs2', c3', c4']
    ·
     obtain rfl := Option.some.inj h
     simp [C0, c16, Tryd.f16, c1', hs2', c3']
  · simp [stf16_4, c1']
end Go.Proofs.YtolloakdibhidaaDoor.P
