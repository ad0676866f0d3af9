/- Part of the proof of FnExactCrash: no statement of its own. -/
import Derived.Test.YtfjoamlgbegpgaaCFnExactCrashB
import Derived.Test.YtfjoamlgbegpgaaCFnExactCrashF10
set_option linter.unusedVariables false
set_option linter.unusedSimpArgs false
namespace Go.Proofs.Ytfjoamlgbegpgaa.P
open Go Go.Proofs.Ytfjoamlgbegpgaa.PM Go.Proofs
attribute [local simp] execK_seq execK_region execK_ret execK_skip execK_exit execK_block execK_cond condK_bool seqK_normal seqK_ret seqK_exit blockK_normal blockK_ret blockK_exit giveK_normal giveK_ret regionK clearK_none clearK_some normR_mk normR_def freshR fresh1 nextK_normal nextK_ret nextK_exit
  regionR runOps stepR wantR opR evalT lift lift1 Rd.run Rd.run_bind wrOk putT putAll putIn lookIn guardR Rd.ofOption obj buildSliceR mapR close close1 view1 plainB T.width T.cells room appendR strR newsR elemsR setAll most Ob.kill Ob.gone pure findK FCert.predsOf logsR Log.bare meets
  loadR storeR takeCells closeIf cellT splice T.withCells buildR fillR chk undT giveR resR outAll outOne outCell outCells outMany reachN refs refs1 posIn srcN validB mapV mapA mapC mapOb pickTmps lenR sliceR bound hiB loB makeSliceR copyR
  ev_add ev_sub ev_mul ev_quo ev_rem ev_sadd ev_eql ev_neq ev_lss ev_leq ev_gtr ev_geq ev_seql ev_sneq ev_slss ev_sleq ev_sgtr ev_sgeq ev_not ev_neg ev_unxor ev_conv scOf bsize_mk bytesOf bytesOf_map bytesOf_append eqSc eqFs strOf ev_min ev_and ev_or ev_xor ev_andNot ev_shl ev_shr indexAddrR intOf callR passAll passT pass1 reach passOb backN backS noSrc flatL verOf at_map byteAt_eq wid_append wid_nil wid_cons List.take_of_length_le wStr w_i64 w_u8 eStr eBool e_i64 e_u8 List.range_succ bytesL
  sz2 ag2 by2 ze2 sz3 ag3 by3 ze3 sz4 ag4 by4 ze4 sz5 ag5 by5 ze5 sz9 ag9 by9 ze9 sz22 ag22 by22 ze22 el22 sz23 ag23 by23 ze23 el23 sz25 ag25 by25 ze25 fs25 sz28 ag28 by28 ze28 el28 sz29 ag29 by29 ze29 el29 sz31 ag31 by31 ze31 fs31 sz38 ag38 by38 ze38 el38 sz40 ag40 by40 ze40 el40 sz51 ag51 by51 ze51 sz73 ag73 by73 ze73 fs73 sz80 ag80 by80 ze80 fs80 sz81 ag81 by81 sz89 ag89 by89 ze89 el89 sz106 ag106 by106 ze106 fs106 sz108 ag108 by108 ze108 fs108 sz120 ag120 by120 ze120 fs120 sz145 ag145 by145 ze145 ck2 ck3 ck4 ck9 ck28 ck29 ck31 ck40 ck73 ck80 ck81 ck145 eq80 ft25_0 ft25_1 ft25_2 ft31_0 ft31_1 ft31_2 ft73_0 ft73_1 ft73_2 ft73_3 ft80_0 ft80_1 ft106_0 ft106_1 ft108_0 ft108_1 ft108_2 ft108_3 ft120_0 ft120_1 Try.underlying2 Try.underlying3 Try.underlying4 Try.underlying5 Try.underlying9 Try.underlying22 Try.underlying23 Try.underlying28 Try.underlying29 Try.underlying38 Try.underlying40 Try.underlying51 Try.underlying145 w73 w80 w106 w108 e73 e80 e106 e108
attribute [local simp] get_Int get_Str get_Bool get_byte g73 g80 g106 g108
set_option maxRecDepth 100000
set_option maxHeartbeats 4000000
theorem ok71 : okCode (C0 71) Try.f71.body.get! = true := by kernel_rfl
theorem f71_ok {k : Nat} {a0_0 : List S73} {a1_0 : Int} {r : Int} (h : f71 k a0_0 a1_0 = some r) : callT Try.prog C0 P0 71 [T.sl (List.map e73 a0_0) [], T.sc (.int .i64 a1_0)] [] = some (T.sc (.int .i64 r), []) := by
 rw [callK_eq rfl Try.func71 rfl ok71]
 unfold f71 at h
 simp [C0, c71, c105, Try.f71]
 refine loop_ind (α := (List S73) × Int × Int) k (fun x s => normR [(0, 0), (1, 0), (5, 0)] s = stf71_2 x.1 x.2.1 x.2.2) (fun k x => f71.l2 k x.1 x.2.1 x.2.2) (fun r => (some (T.sc (.int .i64 r), []) : Option (T × List Ob))) (fun x => by simp only [f71.l2]) _ ?_ (a0_0, a1_0, 0) _ ?_ h
 · rintro n1' ⟨x0, x1, x5⟩ s hn1' hs1' h ih2
   simp only [f71.l2] at h
   simp only [stf71_2] at hs1'
   rcases ite_some h with ⟨c2', h⟩ | ⟨c2', h⟩
   ·
    obtain ⟨c3', h⟩ := ite_l h
    rcases ite_some h with ⟨c4', h⟩ | ⟨c4', h⟩
    ·
     obtain ⟨t1, d5', h⟩ := bind_l h
     replace d5' := f105_ok d5'
     rcases ite_some h with ⟨c6', h⟩ | ⟨c6', h⟩
     ·
      obtain ⟨t2, d7', h⟩ := bind_l h
      replace d7' := f105_ok d7'
      rcases ite_some h with ⟨c8', h⟩ | ⟨c8', h⟩
      ·
       obtain ⟨t3, d9', h⟩ := bind_l h
       replace d9' := f105_ok d9'
       rcases ite_some h with ⟨c10', h⟩ | ⟨c10', h⟩
       ·
        simp [C0, c71, c105, Try.f71, hs1', c2', c3', eq_true c4', d5', c6', d7', c8', d9', c10']
        refine ih2 _ (x0, (IntKind.i64.wrap ((IntKind.i64.wrap ((IntKind.i64.wrap ((IntKind.i64.wrap (x1 + 1)) + 1)) + 1)) + 1)), (IntKind.i64.wrap (x5 + 1))) _ (by omega) ?_ h
        simp [stf71_2, hs1', c2', c3', eq_true c4', d5', c6', d7', c8', d9', c10']
       ·
        obtain rfl := Option.some.inj h
        simp [C0, c71, c105, Try.f71, hs1', c2', c3', eq_true c4', d5', c6', d7', c8', d9', c10']
      ·
       obtain rfl := Option.some.inj h
       simp [C0, c71, c105, Try.f71, hs1', c2', c3', eq_true c4', d5', c6', d7', c8']
     ·
      obtain rfl := Option.some.inj h
      simp [C0, c71, c105, Try.f71, hs1', c2', c3', eq_true c4', d5', c6']
    ·
     obtain rfl := Option.some.inj h
     simp [C0, c71, c105, Try.f71, hs1', c2', c3', c4']
   ·
    obtain rfl := Option.some.inj h
    simp [C0, c71, c105, Try.f71, hs1', c2']
 · simp [stf71_2]
theorem ok30 : okCode (C0 30) Try.f30.body.get! = true := by kernel_rfl
theorem f30_ok {k : Nat} {a0_0 : List S80} {a0_1 : List S80} {a0_2 : List S73} {a1_0 : Int} {r : Int} (h : f30 k a0_0 a0_1 a0_2 a1_0 = some r) : callT Try.prog C0 P0 30 [T.agg [T.sl (List.map e80 a0_0) [], T.sl (List.map e80 a0_1) [], T.sl (List.map e73 a0_2) []], T.sc (.int .i64 a1_0)] [] = some (T.sc (.int .i64 r), []) := by
 rw [callK_eq rfl Try.func30 rfl ok30]
 unfold f30 at h
 obtain ⟨t1, d1', h⟩ := bind_l h
 replace d1' := f70_ok d1'
 rcases ite_some h with ⟨c2', h⟩ | ⟨c2', h⟩
 ·
  obtain rfl := Option.some.inj h
  simp [C0, c30, c70, c71, Try.f30, d1', c2']
 ·
  obtain ⟨t2, d3', h⟩ := bind_l h
  replace d3' := f70_ok d3'
  rcases ite_some h with ⟨c4', h⟩ | ⟨c4', h⟩
  ·
   obtain rfl := Option.some.inj h
   simp [C0, c30, c70, c71, Try.f30, d1', c2', d3', c4']
  ·
   obtain ⟨t3, d5', h⟩ := bind_l h
   replace d5' := f71_ok d5'
   rcases ite_some h with ⟨c6', h⟩ | ⟨c6', h⟩
   ·
    obtain rfl := Option.some.inj h
    simp [C0, c30, c70, c71, Try.f30, d1', c2', d3', c4', d5', c6']
   ·
    obtain rfl := Option.some.inj h
    simp [C0, c30, c70, c71, Try.f30, d1', c2', d3', c4', d5', c6']
theorem ok31 : okCode (C0 31) Try.f31.body.get! = true := by kernel_rfl
theorem f31_ok {k : Nat} {a0_0 : List Int} {r : (List Int)} (h : f31 k a0_0 = some r) : callT Try.prog C0 P0 31 [T.sl (List.map e_i64 a0_0) []] [] = some (T.win 0 0 r.length, [Ob.mkRow 1 (List.map e_i64 r)]) := by
 rw [callK_eq rfl Try.func31 rfl ok31]
 unfold f31 at h
 obtain ⟨c1', h⟩ := ite_l h
 obtain ⟨c2', h⟩ := ite_l h
 obtain ⟨c3', h⟩ := ite_l h
 obtain ⟨c4', h⟩ := ite_l h
 simp [C0, c31, Try.f31, c1', c2', c3', c4']
 refine loop_ind (α := (List Int) × (List Int) × Int) k (fun x s => normR [(0, 0), (3, 0), (4, 0)] s = stf31_3 x.1 x.2.1 x.2.2) (fun k x => f31.l3 k x.1 x.2.1 x.2.2) (fun r => (some (T.win 0 0 r.length, [Ob.mkRow 1 (List.map e_i64 r)]) : Option (T × List Ob))) (fun x => by simp only [f31.l3]) _ ?_ ((List.replicate (a0_0.length : Int).toNat 0), a0_0, 0) _ ?_ h
 · rintro n5' ⟨q0, x0, x4⟩ s hn5' hs5' h ih3
   simp only [f31.l3] at h
   simp only [stf31_3] at hs5'
   rcases ite_some h with ⟨c6', h⟩ | ⟨c6', h⟩
   ·
    obtain ⟨c7', h⟩ := ite_l h
    obtain ⟨c8', h⟩ := ite_l h
    simp [C0, c31, Try.f31, c1', c2', c3', c4', hs5', c6', c7', c8']
    refine ih3 _ ((q0.set x4.toNat (at' x0 x4)), x0, (IntKind.i64.wrap (x4 + 1))) _ (by omega) ?_ h
    simp [stf31_3, c1', c2', c3', c4', hs5', c6', c7', c8']
   ·
    obtain rfl := Option.some.inj h
    simp [C0, c31, Try.f31, c1', c2', c3', c4', hs5', c6']
 · simp [stf31_3, c1', c2', c3', c4']
theorem ok32 : okCode (C0 32) Try.f32.body.get! = true := by kernel_rfl
theorem f32_ok {k : Nat} {a0_0 : List Int} {a1_0 : List Int} {r : Bool} (h : f32 k a0_0 a1_0 = some r) : callT Try.prog C0 P0 32 [T.sl (List.map e_i64 a0_0) [], T.sl (List.map e_i64 a1_0) []] [] = some (T.sc (.bool r), []) := by
 rw [callK_eq rfl Try.func32 rfl ok32]
 unfold f32 at h
 rcases ite_some h with ⟨c1', h⟩ | ⟨c1', h⟩
 ·
  simp [C0, c32, Try.f32, eq_true c1']
  refine loop_ind (α := (List Int) × (List Int) × Int) k (fun x s => normR [(0, 0), (1, 0), (5, 0)] s = stf32_4 x.1 x.2.1 x.2.2) (fun k x => f32.l4 k x.1 x.2.1 x.2.2) (fun r => (some (T.sc (.bool r), []) : Option (T × List Ob))) (fun x => by simp only [f32.l4]) _ ?_ (a0_0, a1_0, 0) _ ?_ h
  · rintro n2' ⟨x0, x1, x5⟩ s hn2' hs2' h ih4
    simp only [f32.l4] at h
    simp only [stf32_4] at hs2'
    rcases ite_some h with ⟨c3', h⟩ | ⟨c3', h⟩
    ·
     obtain ⟨c4', h⟩ := ite_l h
     obtain ⟨c5', h⟩ := ite_l h
     rcases ite_some h with ⟨c6', h⟩ | ⟨c6', h⟩
     ·
      simp [C0, c32, Try.f32, eq_true c1', hs2', c3', c4', c5', eq_true c6']
      refine ih4 _ (x0, x1, (IntKind.i64.wrap (x5 + 1))) _ (by omega) ?_ h
      simp [stf32_4, eq_true c1', hs2', c3', c4', c5', eq_true c6']
     ·
      obtain rfl := Option.some.inj h
      simp [C0, c32, Try.f32, eq_true c1', hs2', c3', c4', c5', c6']
    ·
     obtain rfl := Option.some.inj h
     simp [C0, c32, Try.f32, eq_true c1', hs2', c3']
  · simp [stf32_4, eq_true c1']
 ·
  obtain rfl := Option.some.inj h
  simp [C0, c32, Try.f32, c1']
theorem ok33 : okCode (C0 33) Try.f33.body.get! = true := by kernel_rfl
theorem f33_ok {k : Nat} {a1_0 : Int} {o0 : List Int} {r : Int × (List Int)} (h : f33 k a1_0 o0 = some r) : callT Try.prog C0 P0 33 [T.win 0 0 o0.length, T.sc (.int .i64 a1_0)] [Ob.mkRow 1 (List.map e_i64 o0)] = some (T.sc (.int .i64 r.1), [Ob.mkRow 1 (List.map e_i64 r.2)]) := by
 rw [callK_eq rfl Try.func33 rfl ok33]
 unfold f33 at h
 simp [C0, c33, Try.f33]
 refine loop_ind (α := (List Int) × Int × Int) k (fun x s => normR [(0, 0), (1, 0), (5, 0)] s = stf33_2 x.1 x.2.1 x.2.2) (fun k x => f33.l2 k x.1 x.2.1 x.2.2) (fun r => (some (T.sc (.int .i64 r.1), [Ob.mkRow 1 (List.map e_i64 r.2)]) : Option (T × List Ob))) (fun x => by simp only [f33.l2]) _ ?_ (o0, a1_0, 0) _ ?_ h
 · rintro n1' ⟨q0, x1, x5⟩ s hn1' hs1' h ih2
   simp only [f33.l2] at h
   simp only [stf33_2] at hs1'
   rcases ite_some h with ⟨c2', h⟩ | ⟨c2', h⟩
   ·
    obtain ⟨c3', h⟩ := ite_l h
    simp [C0, c33, Try.f33, hs1', c2', c3']
    refine ih2 _ ((q0.set x5.toNat x1), (IntKind.i64.wrap (x1 + 1)), (IntKind.i64.wrap (x5 + 1))) _ (by omega) ?_ h
    simp [stf33_2, hs1', c2', c3']
   ·
    obtain rfl := Option.some.inj h
    simp [C0, c33, Try.f33, hs1', c2']
 · simp [stf33_2]
end Go.Proofs.Ytfjoamlgbegpgaa.P
