/- Part of the proof of FnExactConfText: no statement of its own. -/
import Derived.Test.YtolloakdibhidaaDoorCFnExactConfTextB
import Derived.Test.YtolloakdibhidaaDoorCFnExactConfTextF0
set_option linter.unusedVariables false
set_option linter.unusedSimpArgs false
namespace Go.Proofs.YtolloakdibhidaaDoor.P
open Go Go.Proofs.YtolloakdibhidaaDoor.PM Go.Proofs
attribute [local simp] execK_seq execK_region execK_ret execK_skip execK_exit execK_block execK_cond condK_bool seqK_normal seqK_ret seqK_exit blockK_normal blockK_ret blockK_exit giveK_normal giveK_ret regionK clearK_none clearK_some normR_mk normR_def freshR fresh1 nextK_normal nextK_ret nextK_exit
  regionR runOps stepR wantR opR evalT lift lift1 Rd.run Rd.run_bind wrOk putT putAll putIn lookIn guardR Rd.ofOption obj buildSliceR mapR close close1 view1 plainB T.width T.cells room appendR strR newsR elemsR setAll most Ob.kill Ob.gone pure findK FCert.predsOf logsR Log.bare meets
  loadR storeR takeCells closeIf cellT splice T.withCells buildR fillR chk undT giveR resR outAll outOne outCell outCells outMany reachN refs refs1 posIn srcN validB mapV mapA mapC mapOb pickTmps lenR sliceR bound hiB loB makeSliceR copyR
  ev_add ev_sub ev_mul ev_quo ev_rem ev_sadd ev_eql ev_neq ev_lss ev_leq ev_gtr ev_geq ev_seql ev_sneq ev_slss ev_sleq ev_sgtr ev_sgeq ev_not ev_neg ev_unxor ev_conv scOf bsize_mk bytesOf bytesOf_map bytesOf_append eqSc eqFs strOf ev_min ev_and ev_or ev_xor ev_andNot ev_shl ev_shr indexAddrR intOf callR passAll passT pass1 reach passOb backN backS noSrc flatL verOf at_map byteAt_eq wid_append wid_nil wid_cons List.take_of_length_le wStr w_i64 w_u8 eStr eBool e_i64 e_u8 List.range_succ bytesL
  sz2 ag2 by2 ze2 sz3 ag3 by3 ze3 sz4 ag4 by4 ze4 sz5 ag5 by5 ze5 sz9 ag9 by9 ze9 sz22 ag22 by22 ze22 el22 sz24 ag24 by24 ze24 fs24 sz27 ag27 by27 ze27 fs27 sz45 ag45 by45 ze45 el45 sz63 ag63 by63 ze63 sz64 ag64 by64 ze64 ck3 ck4 ck9 ck22 ck27 ft24_0 ft24_1 ft27_0 ft27_1 Tryd.underlying2 Tryd.underlying5 Tryd.underlying9 Tryd.underlying22 Tryd.underlying45 Tryd.underlying64
attribute [local simp] get_Int get_Str get_Bool get_byte 
set_option maxRecDepth 100000
set_option maxHeartbeats 4000000
theorem ok6 : okCode (C0 6) Tryd.f6.body.get! = true := by kernel_rfl
theorem f6_ok {k : Nat} {a0_0 : List Int} {a0_1 : List Int} {r : ByteArray} (h : f6 k a0_0 a0_1 = some r) : callT Tryd.prog C0 P0 6 [T.agg [T.sl (List.map e_i64 a0_0) [], T.sl (List.map e_i64 a0_1) []]] [] = some (T.sc (.string r), []) := by
 rw [callK_eq rfl Tryd.func6 rfl ok6]
 unfold f6 at h
 obtain ⟨t1, d1', h⟩ := bind_l h
 replace d1' := f15_ok d1'
 rcases ite_some h with ⟨c2', h⟩ | ⟨c2', h⟩
 ·
  simp [C0, c6, c15, c16, Tryd.f6, d1', c2']
  refine loop_ind (α := ByteArray × Int × (List Int) × (List Int)) k (fun x s => normR [(1, 0), (3, 0), (4, 0)] s = stf6_5 x.1 x.2.1 x.2.2.1 x.2.2.2) (fun k x => f6.l5 k x.1 x.2.1 x.2.2.1 x.2.2.2) (fun r => (some (T.sc (.string r), []) : Option (T × List Ob))) (fun x => by simp only [f6.l5]) _ ?_ ((⟨#[118]⟩ : ByteArray), 0, a0_0, a0_1) _ ?_ h
  · rintro n3' ⟨x3, x4, b0_0, b0_1⟩ s hn3' hs3' h ih5
    simp only [f6.l5] at h
    simp only [stf6_5] at hs3'
    rcases ite_some h with ⟨c4', h⟩ | ⟨c4', h⟩
    ·
     obtain ⟨c5', h⟩ := ite_l h
     obtain ⟨c6', h⟩ := ite_l h
     obtain ⟨t2, d7', h⟩ := bind_l h
     replace d7' := f16_ok d7'
     obtain ⟨c8', h⟩ := ite_l h
     simp [C0, c6, c15, c16, Tryd.f6, d1', c2', hs3', c4', c5', c6', d7', c8']
     refine ih5 _ (((x3 ++ (⟨#[32]⟩ : ByteArray)) ++ t2), (IntKind.i64.wrap (x4 + 1)), b0_0, b0_1) _ (by omega) ?_ h
     simp [stf6_5, d1', c2', hs3', c4', c5', c6', d7', c8']
    ·
     rcases ite_some h with ⟨c9', h⟩ | ⟨c9', h⟩
     ·
      have c9'' : 0 < b0_1.length := Int.natCast_pos.1 c9'
      obtain ⟨c10', h⟩ := ite_l h
      simp [C0, c6, c15, c16, Tryd.f6, d1', c2', hs3', c4', c9', c9'', c10']
      refine loop_ind (α := ByteArray × Int × (List Int) × (List Int)) n3' (fun x s => normR [(1, 0), (3, 0), (5, 0)] s = stf6_11 x.1 x.2.1 x.2.2.1 x.2.2.2) (fun k x => f6.l11 k x.1 x.2.1 x.2.2.1 x.2.2.2) (fun r => (some (T.sc (.string r), []) : Option (T × List Ob))) (fun x => by simp only [f6.l11]) _ ?_ ((x3 ++ (⟨#[32, 108]⟩ : ByteArray)), 0, b0_0, b0_1) _ ?_ h
      · rintro n11' ⟨x3, x5, b0_0, b0_1⟩ s hn11' hs11' h ih11
        simp only [f6.l11] at h
        simp only [stf6_11] at hs11'
        rcases ite_some h with ⟨c12', h⟩ | ⟨c12', h⟩
        ·
         obtain ⟨c13', h⟩ := ite_l h
         obtain ⟨c14', h⟩ := ite_l h
         obtain ⟨t3, d15', h⟩ := bind_l h
         replace d15' := f16_ok d15'
         obtain ⟨c16', h⟩ := ite_l h
         simp [C0, c6, c15, c16, Tryd.f6, d1', c2', hs3', c4', c9', c9'', c10', hs11', c12', c13', c14', d15', c16']
         refine ih11 _ (((x3 ++ (⟨#[32]⟩ : ByteArray)) ++ t3), (IntKind.i64.wrap (x5 + 1)), b0_0, b0_1) _ (by omega) ?_ h
         simp [stf6_11, d1', c2', hs3', c4', c9', c9'', c10', hs11', c12', c13', c14', d15', c16']
        ·
         obtain rfl := Option.some.inj h
         simp [C0, c6, c15, c16, Tryd.f6, d1', c2', hs3', c4', c9', c9'', c10', hs11', c12']
      · simp [stf6_11, d1', c2', hs3', c4', c9', c9'', c10']
     ·
      have c9'' : ¬ 0 < b0_1.length := fun h => c9' (Int.natCast_pos.2 h)
      simp [C0, c6, c15, c16, Tryd.f6, d1', c2', hs3', c4', c9', c9'']
      refine loop_ind (α := ByteArray × Int × (List Int) × (List Int)) n3' (fun x s => normR [(1, 0), (3, 0), (5, 0)] s = stf6_11 x.1 x.2.1 x.2.2.1 x.2.2.2) (fun k x => f6.l11 k x.1 x.2.1 x.2.2.1 x.2.2.2) (fun r => (some (T.sc (.string r), []) : Option (T × List Ob))) (fun x => by simp only [f6.l11]) _ ?_ (x3, 0, b0_0, b0_1) _ ?_ h
      · rintro n17' ⟨x3, x5, b0_0, b0_1⟩ s hn17' hs17' h ih11
        simp only [f6.l11] at h
        simp only [stf6_11] at hs17'
        rcases ite_some h with ⟨c18', h⟩ | ⟨c18', h⟩
        ·
         obtain ⟨c19', h⟩ := ite_l h
         obtain ⟨c20', h⟩ := ite_l h
         obtain ⟨t3, d21', h⟩ := bind_l h
         replace d21' := f16_ok d21'
         obtain ⟨c22', h⟩ := ite_l h
         simp [C0, c6, c15, c16, Tryd.f6, d1', c2', hs3', c4', c9', c9'', hs17', c18', c19', c20', d21', c22']
         refine ih11 _ (((x3 ++ (⟨#[32]⟩ : ByteArray)) ++ t3), (IntKind.i64.wrap (x5 + 1)), b0_0, b0_1) _ (by omega) ?_ h
         simp [stf6_11, d1', c2', hs3', c4', c9', c9'', hs17', c18', c19', c20', d21', c22']
        ·
         obtain rfl := Option.some.inj h
         simp [C0, c6, c15, c16, Tryd.f6, d1', c2', hs3', c4', c9', c9'', hs17', c18']
      · simp [stf6_11, d1', c2', hs3', c4', c9', c9'']
  · simp [stf6_5, d1', c2']
 ·
  obtain rfl := Option.some.inj h
  simp [C0, c6, c15, c16, Tryd.f6, d1', c2']
theorem ok17 : okCode (C0 17) Tryd.f17.body.get! = true := by kernel_rfl
theorem f17_ok {k : Nat} {a0_0 : List Int} {r : (List Int)} (h : f17 k a0_0 = some r) : callT Tryd.prog C0 P0 17 [T.sl (List.map e_i64 a0_0) []] [] = some (T.win 0 0 r.length, [Ob.mkRow 1 (List.map e_i64 r)]) := by
 rw [callK_eq rfl Tryd.func17 rfl ok17]
 unfold f17 at h
 obtain ⟨c1', h⟩ := ite_l h
 obtain ⟨c2', h⟩ := ite_l h
 obtain ⟨c3', h⟩ := ite_l h
 obtain ⟨c4', h⟩ := ite_l h
 simp [C0, c17, Tryd.f17, c1', c2', c3', c4']
 refine loop_ind (α := (List Int) × (List Int) × Int) k (fun x s => normR [(0, 0), (3, 0), (4, 0)] s = stf17_3 x.1 x.2.1 x.2.2) (fun k x => f17.l3 k x.1 x.2.1 x.2.2) (fun r => (some (T.win 0 0 r.length, [Ob.mkRow 1 (List.map e_i64 r)]) : Option (T × List Ob))) (fun x => by simp only [f17.l3]) _ ?_ ((List.replicate (a0_0.length : Int).toNat 0), a0_0, 0) _ ?_ h
 · rintro n5' ⟨q0, x0, x4⟩ s hn5' hs5' h ih3
   simp only [f17.l3] at h
   simp only [stf17_3] at hs5'
   rcases ite_some h with ⟨c6', h⟩ | ⟨c6', h⟩
   ·
    obtain ⟨c7', h⟩ := ite_l h
    obtain ⟨c8', h⟩ := ite_l h
    simp [C0, c17, Tryd.f17, c1', c2', c3', c4', hs5', c6', c7', c8']
    refine ih3 _ ((q0.set x4.toNat (at' x0 x4)), x0, (IntKind.i64.wrap (x4 + 1))) _ (by omega) ?_ h
    simp [stf17_3, c1', c2', c3', c4', hs5', c6', c7', c8']
   ·
    obtain rfl := Option.some.inj h
    simp [C0, c17, Tryd.f17, c1', c2', c3', c4', hs5', c6']
 · simp [stf17_3, c1', c2', c3', c4']
theorem ok7 : okCode (C0 7) Tryd.f7.body.get! = true := by kernel_rfl
theorem f7_ok {k : Nat} {a0_0 : List Int} {a0_1 : List Int} {r : (List Int) × (List Int)} (h : f7 k a0_0 a0_1 = some r) : callT Tryd.prog C0 P0 7 [T.agg [T.sl (List.map e_i64 a0_0) [], T.sl (List.map e_i64 a0_1) []]] [] = some (T.agg [T.win 0 0 r.1.length, T.win 1 0 r.2.length], [Ob.mkRow 1 (List.map e_i64 r.1), Ob.mkRow 1 (List.map e_i64 r.2)]) := by
 rw [callK_eq rfl Tryd.func7 rfl ok7]
 unfold f7 at h
 obtain ⟨t1, d1', h⟩ := bind_l h
 replace d1' := f17_ok d1'
 obtain ⟨t2, d2', h⟩ := bind_l h
 replace d2' := f17_ok d2'
 obtain rfl := Option.some.inj h
 simp [C0, c7, c17, Tryd.f7, d1', d2']
theorem ok44 : okCode (C0 44) Tryd.f44.body.get! = true := by kernel_rfl
theorem f44_ok {k : Nat} {a0_0 : Int} {a1_0 : Int} {a2_0 : Int} {r : Bool} (h : f44 k a0_0 a1_0 a2_0 = some r) : callT Tryd.prog C0 P0 44 [T.sc (.int .i64 a0_0), T.sc (.int .i64 a1_0), T.sc (.int .i64 a2_0)] [] = some (T.sc (.bool r), []) := by
 rw [callK_eq rfl Tryd.func44 rfl ok44]
 unfold f44 at h
 rcases ite_some h with ⟨c1', h⟩ | ⟨c1', h⟩
 ·
  obtain rfl := Option.some.inj h
  simp [C0, c44, Tryd.f44, c1']
 ·
  obtain rfl := Option.some.inj h
  simp [C0, c44, Tryd.f44, c1']
theorem ok37 : okCode (C0 37) Tryd.f37.body.get! = true := by kernel_rfl
theorem f37_ok {k : Nat} {a0_0 : Int} {r : Bool} (h : f37 k a0_0 = some r) : callT Tryd.prog C0 P0 37 [T.sc (.int .i64 a0_0)] [] = some (T.sc (.bool r), []) := by
 rw [callK_eq rfl Tryd.func37 rfl ok37]
 unfold f37 at h
 obtain ⟨t1, d1', h⟩ := bind_l h
 replace d1' := f44_ok d1'
 obtain rfl := Option.some.inj h
 simp [C0, c37, c44, Tryd.f37, d1']
theorem ok28 : okCode (C0 28) Tryd.f28.body.get! = true := by kernel_rfl
theorem f28_ok {k : Nat} {a0_0 : List Int} {r : Bool} (h : f28 k a0_0 = some r) : callT Tryd.prog C0 P0 28 [T.sl (List.map e_i64 a0_0) []] [] = some (T.sc (.bool r), []) := by
 rw [callK_eq rfl Tryd.func28 rfl ok28]
 unfold f28 at h
 simp [C0, c28, c37, Tryd.f28]
 refine loop_ind (α := (List Int) × (List Int) × Int × Int) k (fun x s => normR [(0, 0), (5, 0), (6, 0), (7, 0)] s = stf28_2 x.1 x.2.1 x.2.2.1 x.2.2.2) (fun k x => f28.l2 k x.1 x.2.1 x.2.2.1 x.2.2.2) (fun r => (some (T.sc (.bool r), []) : Option (T × List Ob))) (fun x => by simp only [f28.l2]) _ ?_ (a0_0, a0_0, (a0_0.length : Int), 0) _ ?_ h
 · rintro n1' ⟨x0, x5, x6, x7⟩ s hn1' hs1' h ih2
   simp only [f28.l2] at h
   simp only [stf28_2] at hs1'
   rcases ite_some h with ⟨c2', h⟩ | ⟨c2', h⟩
   ·
    obtain ⟨c3', h⟩ := ite_l h
    obtain ⟨c4', h⟩ := ite_l h
    obtain ⟨t1, d5', h⟩ := bind_l h
    replace d5' := f37_ok d5'
    rcases ite_some h with ⟨c6', h⟩ | ⟨c6', h⟩
    ·
     rcases ite_some h with ⟨c7', h⟩ | ⟨c7', h⟩
     ·
      obtain ⟨c8', h⟩ := ite_l h
      obtain ⟨c9', h⟩ := ite_l h
      rcases ite_some h with ⟨c10', h⟩ | ⟨c10', h⟩
      ·
       obtain rfl := Option.some.inj h
       simp [C0, c28, c37, Tryd.f28, hs1', c2', c3', c4', d5', c6', c7', c8', c9', c10']
      ·
       simp [C0, c28, c37, Tryd.f28, hs1', c2', c3', c4', d5', c6', c7', c8', c9', c10']
       refine ih2 _ (x0, x5, x6, (IntKind.i64.wrap (x7 + 1))) _ (by omega) ?_ h
       simp [stf28_2, hs1', c2', c3', c4', d5', c6', c7', c8', c9', c10']
     ·
      simp [C0, c28, c37, Tryd.f28, hs1', c2', c3', c4', d5', c6', c7']
      refine ih2 _ (x0, x5, x6, (IntKind.i64.wrap (x7 + 1))) _ (by omega) ?_ h
      simp [stf28_2, hs1', c2', c3', c4', d5', c6', c7']
    ·
     obtain rfl := Option.some.inj h
     simp [C0, c28, c37, Tryd.f28, hs1', c2', c3', c4', d5', c6']
   ·
    obtain rfl := Option.some.inj h
    simp [C0, c28, c37, Tryd.f28, hs1', c2']
 · simp [stf28_2]
theorem ok39 : okCode (C0 39) Tryd.f39.body.get! = true := by kernel_rfl
theorem f39_ok {k : Nat} {a0_0 : List Int} {a1_0 : Int} {r : Int} (h : f39 k a0_0 a1_0 = some r) : callT Tryd.prog C0 P0 39 [T.sl (List.map e_i64 a0_0) [], T.sc (.int .i64 a1_0)] [] = some (T.sc (.int .i64 r), []) := by
 rw [callK_eq rfl Tryd.func39 rfl ok39]
 unfold f39 at h
 simp [C0, c39, Tryd.f39]
 refine loop_ind (α := (List Int) × Int × Int × Int) k (fun x s => normR [(0, 0), (1, 0), (7, 0), (8, 0)] s = stf39_2 x.1 x.2.1 x.2.2.1 x.2.2.2) (fun k x => f39.l2 k x.1 x.2.1 x.2.2.1 x.2.2.2) (fun r => (some (T.sc (.int .i64 r), []) : Option (T × List Ob))) (fun x => by simp only [f39.l2]) _ ?_ (a0_0, a1_0, (a0_0.length : Int), 0) _ ?_ h
 · rintro n1' ⟨x0, x1, x7, x8⟩ s hn1' hs1' h ih2
   simp only [f39.l2] at h
   simp only [stf39_2] at hs1'
   rcases ite_some h with ⟨c2', h⟩ | ⟨c2', h⟩
   ·
    obtain ⟨c3', h⟩ := ite_l h
    obtain ⟨c4', h⟩ := ite_l h
    rcases ite_some h with ⟨c5', h⟩ | ⟨c5', h⟩
    ·
     obtain rfl := Option.some.inj h
     simp [C0, c39, Tryd.f39, hs1', c2', c3', c4', c5']
    ·
     simp [C0, c39, Tryd.f39, hs1', c2', c3', c4', c5']
     refine ih2 _ (x0, x1, x7, (IntKind.i64.wrap (x8 + 1))) _ (by omega) ?_ h
     simp [stf39_2, hs1', c2', c3', c4', c5']
   ·
    obtain rfl := Option.some.inj h
    simp [C0, c39, Tryd.f39, hs1', c2']
 · simp [stf39_2]
theorem ok31 : okCode (C0 31) Tryd.f31.body.get! = true := by kernel_rfl
theorem f31_ok {k : Nat} {a0_0 : List Int} {a1_0 : Int} {r : Bool} (h : f31 k a0_0 a1_0 = some r) : callT Tryd.prog C0 P0 31 [T.sl (List.map e_i64 a0_0) [], T.sc (.int .i64 a1_0)] [] = some (T.sc (.bool r), []) := by
 rw [callK_eq rfl Tryd.func31 rfl ok31]
 unfold f31 at h
 obtain ⟨t1, d1', h⟩ := bind_l h
 replace d1' := f39_ok d1'
 obtain rfl := Option.some.inj h
 simp [C0, c31, c39, Tryd.f31, d1']
theorem ok30 : okCode (C0 30) Tryd.f30.body.get! = true := by kernel_rfl
theorem f30_ok {k : Nat} {a0_0 : Int} {o0_0 : List Int} {o0_1 : List Int} {r : Bool} (h : f30 k a0_0 o0_0 o0_1 = some r) : callT Tryd.prog C0 P0 30 [T.sc (.int .i64 a0_0), T.ptr 0 0 0] [Ob.mkBox 2 (T.agg [T.sl (List.map e_i64 o0_0) [], T.sl (List.map e_i64 o0_1) []])] = some (T.sc (.bool r), [Ob.mkBox 2 (T.agg [T.sl (List.map e_i64 o0_0) [], T.sl (List.map e_i64 o0_1) []])]) := by
 rw [callK_eq rfl Tryd.func30 rfl ok30]
 unfold f30 at h
 obtain ⟨t1, d1', h⟩ := bind_l h
 replace d1' := f31_ok d1'
 obtain rfl := Option.some.inj h
 simp [C0, c30, c31, Tryd.f30, d1']
end Go.Proofs.YtolloakdibhidaaDoor.P
