/- Part of proofs of this seat: no statement of its own. -/
import Derived.Test.YtfjoamlgbegpgaaDB
import Derived.Test.YtfjoamlgbegpgaaDF0
import Derived.Test.YtfjoamlgbegpgaaDF1
import Derived.Test.YtfjoamlgbegpgaaDF10
set_option linter.unusedVariables false
set_option linter.unusedSimpArgs false
namespace Go.Proofs.Ytfjoamlgbegpgaa.P
open Go Go.Proofs.Ytfjoamlgbegpgaa.PM Go.Proofs
attribute [local simp] execK_seq execK_region execK_ret execK_skip execK_exit execK_block execK_cond condK_bool seqK_normal seqK_ret seqK_exit blockK_normal blockK_ret blockK_exit giveK_normal giveK_ret regionK clearK_none clearK_some normR_mk normR_def freshR fresh1 nextK_normal nextK_ret nextK_exit
  regionR runOps stepR wantR opR evalT lift lift1 Rd.run Rd.run_bind wrOk putT putAll putIn lookIn guardR Rd.ofOption obj buildSliceR mapR close close1 view1 plainB T.width T.cells room appendR strR newsR elemsR setAll most Ob.kill Ob.gone pure findK FCert.predsOf logsR Log.bare meets
  loadR storeR takeCells closeIf cellT splice T.withCells buildR fillR chk undT giveR resR outAll outOne outCell outCells outMany reachN refs refs1 posIn srcN validB mapV mapA mapC mapOb pickTmps lenR sliceR bound hiB loB makeSliceR copyR
  ev_add ev_sub ev_mul ev_quo ev_rem ev_sadd ev_eql ev_neq ev_lss ev_leq ev_gtr ev_geq ev_seql ev_sneq ev_slss ev_sleq ev_sgtr ev_sgeq ev_not ev_neg ev_unxor ev_conv scOf bsize_mk bytesOf bytesOf_map bytesOf_append eqSc eqFs strOf ev_min ev_and ev_or ev_xor ev_andNot ev_shl ev_shr indexAddrR intOf callR passAll passT pass1 reach passOb backN backS noSrc flatL verOf at_map byteAt_eq wid_append wid_nil wid_cons List.take_of_length_le wStr w_i64 w_u8 eStr eBool e_i64 e_u8 List.range_succ bytesL
  sz2 ag2 by2 ze2 sz3 ag3 by3 ze3 sz4 ag4 by4 ze4 sz5 ag5 by5 ze5 sz9 ag9 by9 ze9 sz22 ag22 by22 ze22 el22 sz23 ag23 by23 ze23 el23 sz25 ag25 by25 ze25 fs25 sz28 ag28 by28 ze28 el28 sz29 ag29 by29 ze29 el29 sz31 ag31 by31 ze31 fs31 sz38 ag38 by38 ze38 el38 sz40 ag40 by40 ze40 el40 sz51 ag51 by51 ze51 sz58 ag58 by58 ze58 el58 sz60 ag60 by60 ze60 fs60 sz73 ag73 by73 ze73 fs73 sz80 ag80 by80 ze80 fs80 sz81 ag81 by81 sz89 ag89 by89 ze89 el89 sz104 ag104 by104 ze104 fs104 sz106 ag106 by106 ze106 fs106 sz108 ag108 by108 ze108 fs108 sz120 ag120 by120 ze120 fs120 sz128 ag128 by128 ze128 el128 sz136 ag136 by136 ze136 fs136 sz141 ag141 by141 ze141 fs141 sz143 ag143 by143 ze143 sz145 ag145 by145 ze145 ck2 ck3 ck4 ck9 ck28 ck29 ck31 ck38 ck40 ck58 ck60 ck73 ck80 ck81 ck104 ck128 ck136 ck143 ck145 eq80 ft25_0 ft25_1 ft25_2 ft31_0 ft31_1 ft31_2 ft60_0 ft60_1 ft60_2 ft73_0 ft73_1 ft73_2 ft73_3 ft80_0 ft80_1 ft104_0 ft104_1 ft106_0 ft106_1 ft108_0 ft108_1 ft108_2 ft108_3 ft120_0 ft120_1 ft136_0 ft136_1 ft136_2 Try.underlying2 Try.underlying3 Try.underlying4 Try.underlying5 Try.underlying9 Try.underlying22 Try.underlying23 Try.underlying28 Try.underlying29 Try.underlying38 Try.underlying40 Try.underlying51 Try.underlying58 Try.underlying128 Try.underlying143 Try.underlying145 w73 w80 w104 w106 w108 w136 e73 e80 e104 e106 e108 e136
attribute [local simp] get_Int get_Str get_Bool get_byte g73 g80 g104 g106 g108 g136
set_option maxRecDepth 100000
set_option maxHeartbeats 4000000
theorem ok13 : okCode (C0 13) Try.f13.body.get! = true := by kernel_rfl
theorem f13_ok {k : Nat} {a0_0 : List S80} {a0_1 : List S80} {a0_2 : List S73} {r : Bool} (h : f13 k a0_0 a0_1 a0_2 = some r) : callT Try.prog C0 P0 13 [T.agg [T.sl (List.map e80 a0_0) [], T.sl (List.map e80 a0_1) [], T.sl (List.map e73 a0_2) []]] [] = some (T.sc (.bool r), []) := by
 rw [callK_eq rfl Try.func13 rfl ok13]
 unfold f13 at h
 obtain ⟨t1, d1', h⟩ := bind_l h
 replace d1' := f43_ok d1'
 rcases ite_some h with ⟨c2', h⟩ | ⟨c2', h⟩
 ·
  obtain ⟨t2, d3', h⟩ := bind_l h
  replace d3' := f43_ok d3'
  rcases ite_some h with ⟨c4', h⟩ | ⟨c4', h⟩
  ·
   rcases ite_some h with ⟨c5', h⟩ | ⟨c5', h⟩
   ·
    obtain rfl := Option.some.inj h
    simp [C0, c13, c43, c44, c45, c46, Try.f13, d1', c2', d3', c4', c5']
   ·
    simp [C0, c13, c43, c44, c45, c46, Try.f13, d1', c2', d3', c4', c5']
    refine loop_ind (α := (List S80) × Int × (List S80) × (List S80) × (List S73)) k (fun x s => normR [(1, 0), (3, 1), (4, 0)] s = stf13_5 x.1 x.2.1 x.2.2.1 x.2.2.2.1 x.2.2.2.2) (fun k x => f13.l5 k x.1 x.2.1 x.2.2.1 x.2.2.2.1 x.2.2.2.2) (fun r => (some (T.sc (.bool r), []) : Option (T × List Ob))) (fun x => by simp only [f13.l5]) _ ?_ (a0_1, 0, a0_0, a0_1, a0_2) _ ?_ h
    · rintro n6' ⟨x3, x4, b0_0, b0_1, b0_2⟩ s hn6' hs6' h ih5
      simp only [f13.l5] at h
      simp only [stf13_5] at hs6'
      rcases ite_some h with ⟨c7', h⟩ | ⟨c7', h⟩
      ·
       obtain ⟨c8', h⟩ := ite_l h
       obtain ⟨t3, d9', h⟩ := bind_l h
       replace d9' := f44_ok d9'
       rcases ite_some h with ⟨c10', h⟩ | ⟨c10', h⟩
       ·
        obtain ⟨t4, d11', h⟩ := bind_l h
        replace d11' := f45_ok d11'
        rcases ite_some h with ⟨c12', h⟩ | ⟨c12', h⟩
        ·
         obtain ⟨t5, d13', h⟩ := bind_l h
         replace d13' := f43_ok d13'
         rcases ite_some h with ⟨c14', h⟩ | ⟨c14', h⟩
         ·
          simp [C0, c13, c43, c44, c45, c46, Try.f13, d1', c2', d3', c4', c5', hs6', c7', c8', d9', c10', d11', c12', d13', c14']
          refine ih5 _ (t3.2, (IntKind.i64.wrap (x4 + 1)), b0_0, b0_1, b0_2) _ (by omega) ?_ h
          simp [stf13_5, d1', c2', d3', c4', c5', hs6', c7', c8', d9', c10', d11', c12', d13', c14']
         ·
          obtain rfl := Option.some.inj h
          simp [C0, c13, c43, c44, c45, c46, Try.f13, d1', c2', d3', c4', c5', hs6', c7', c8', d9', c10', d11', c12', d13', c14']
        ·
         obtain rfl := Option.some.inj h
         simp [C0, c13, c43, c44, c45, c46, Try.f13, d1', c2', d3', c4', c5', hs6', c7', c8', d9', c10', d11', c12']
       ·
        obtain rfl := Option.some.inj h
        simp [C0, c13, c43, c44, c45, c46, Try.f13, d1', c2', d3', c4', c5', hs6', c7', c8', d9', c10']
      ·
       obtain ⟨t6, d15', h⟩ := bind_l h
       replace d15' := f46_ok d15'
       obtain rfl := Option.some.inj h
       simp [C0, c13, c43, c44, c45, c46, Try.f13, d1', c2', d3', c4', c5', hs6', c7', d15']
    · simp [stf13_5, d1', c2', d3', c4', c5']
  ·
   obtain rfl := Option.some.inj h
   simp [C0, c13, c43, c44, c45, c46, Try.f13, d1', c2', d3', c4']
 ·
  obtain rfl := Option.some.inj h
  simp [C0, c13, c43, c44, c45, c46, Try.f13, d1', c2']
theorem ok118 : okCode (C0 118) Try.f118.body.get! = true := by kernel_rfl
theorem f118_ok {k : Nat} {a0_0 : List S80} {a1_0 : ByteArray} {r : Int × Bool} (h : f118 k a0_0 a1_0 = some r) : callT Try.prog C0 P0 118 [T.sl (List.map e80 a0_0) [], T.sc (.string a1_0), T.fn 119 []] [] = some (T.tup [T.sc (.int .i64 r.1), T.sc (.bool r.2)], []) := by
 rw [callK_eq rfl Try.func118 rfl ok118]
 unfold f118 at h
 simp [C0, c118, c119, Try.f118]
 refine loop_ind (α := (List S80) × ByteArray × Int × Int × Int) k (fun x s => normR [(0, 0), (1, 0), (2, 0), (8, 0), (9, 0), (10, 0)] s = stf118_3 x.1 x.2.1 x.2.2.1 x.2.2.2.1 x.2.2.2.2) (fun k x => f118.l3 k x.1 x.2.1 x.2.2.1 x.2.2.2.1 x.2.2.2.2) (fun r => (some (T.tup [T.sc (.int .i64 r.1), T.sc (.bool r.2)], []) : Option (T × List Ob))) (fun x => by simp only [f118.l3]) _ ?_ (a0_0, a1_0, (a0_0.length : Int), 0, (a0_0.length : Int)) _ ?_ h
 · rintro n1' ⟨x0, x1, x8, x9, x10⟩ s hn1' hs1' h ih3
   simp only [f118.l3] at h
   simp only [stf118_3] at hs1'
   rcases ite_some h with ⟨c2', h⟩ | ⟨c2', h⟩
   ·
    obtain ⟨c3', h⟩ := ite_l h
    obtain ⟨c4', h⟩ := ite_l h
    obtain ⟨t1, d5', h⟩ := bind_l h
    replace d5' := f119_ok d5'
    rcases ite_some h with ⟨c6', h⟩ | ⟨c6', h⟩
    ·
     simp [C0, c118, c119, Try.f118, hs1', c2', c3', c4', d5', c6']
     refine ih3 _ (x0, x1, x8, (IntKind.i64.wrap ((IntKind.i64.wrap (shrI .u64 (IntKind.u64.wrap (IntKind.i64.wrap (x9 + x10))) 1)) + 1)), x10) _ (by omega) ?_ h
     simp [stf118_3, hs1', c2', c3', c4', d5', c6']
    ·
     simp [C0, c118, c119, Try.f118, hs1', c2', c3', c4', d5', c6']
     refine ih3 _ (x0, x1, x8, x9, (IntKind.i64.wrap (shrI .u64 (IntKind.u64.wrap (IntKind.i64.wrap (x9 + x10))) 1))) _ (by omega) ?_ h
     simp [stf118_3, hs1', c2', c3', c4', d5', c6']
   ·
    rcases ite_some h with ⟨c7', h⟩ | ⟨c7', h⟩
    ·
     obtain ⟨c8', h⟩ := ite_l h
     obtain ⟨c9', h⟩ := ite_l h
     obtain ⟨t2, d10', h⟩ := bind_l h
     replace d10' := f119_ok d10'
     obtain rfl := Option.some.inj h
     simp [C0, c118, c119, Try.f118, hs1', c2', c7', c8', c9', d10']
    ·
     obtain rfl := Option.some.inj h
     simp [C0, c118, c119, Try.f118, hs1', c2', c7']
 · simp [stf118_3]
theorem ok99 : okCode (C0 99) Try.f99.body.get! = true := by kernel_rfl
theorem f99_ok {k : Nat} {a0_0 : List S80} {a1_0 : ByteArray} {a1_1 : ByteArray} {r : (List S80)} (h : f99 k a0_0 a1_0 a1_1 = some r) : callT Try.prog C0 P0 99 [T.sl (List.map e80 a0_0) [], T.agg [T.sc (.string a1_0), T.sc (.string a1_1)]] [] = some (T.win 0 0 r.length, [Ob.mkRow 2 (List.map e80 r)]) := by
 rw [callK_eq rfl Try.func99 rfl ok99]
 unfold f99 at h
 obtain ⟨t1, d1', h⟩ := bind_l h
 replace d1' := f59_ok d1'
 obtain ⟨t2, d2', h⟩ := bind_l h
 replace d2' := f118_ok d2'
 rcases ite_some h with ⟨c3', h⟩ | ⟨c3', h⟩
 ·
  obtain ⟨c4', h⟩ := ite_l h
  obtain ⟨c5', h⟩ := ite_l h
  obtain rfl := Option.some.inj h
  simp [C0, c99, c59, c118, c121, Try.f99, d1', d2', c3', c4', c5']
 ·
  obtain ⟨t3, d6', h⟩ := bind_l h
  replace d6' := f121_ok d6'
  simp at d6'
  obtain rfl := Option.some.inj h
  simp [C0, c99, c59, c118, c121, Try.f99, d1', d2', c3', d6']
theorem ok89 : okCode (C0 89) Try.f89.body.get! = true := by kernel_rfl
theorem f89_ok {k : Nat} {a0_0 : Int} {a0_1 : ByteArray} {a0_2 : ByteArray} {a0_3 : ByteArray} {r : Bool} (h : f89 k a0_0 a0_1 a0_2 a0_3 = some r) : callT Try.prog C0 P0 89 [T.agg [T.sc (.int .i64 a0_0), T.sc (.string a0_1), T.sc (.string a0_2), T.sc (.string a0_3)]] [] = some (T.sc (.bool r), []) := by
 rw [callK_eq rfl Try.func89 rfl ok89]
 unfold f89 at h
 rcases ite_some h with ⟨c1', h⟩ | ⟨c1', h⟩
 ·
  obtain ⟨t1, d2', h⟩ := bind_l h
  replace d2' := f101_ok d2'
  rcases ite_some h with ⟨c3', h⟩ | ⟨c3', h⟩
  ·
   obtain rfl := Option.some.inj h
   simp [C0, c89, c101, Try.f89, eq_true c1', d2', c3']
  ·
   obtain rfl := Option.some.inj h
   simp [C0, c89, c101, Try.f89, eq_true c1', d2', c3']
 ·
  rcases ite_some h with ⟨c4', h⟩ | ⟨c4', h⟩
  ·
   obtain ⟨t2, d5', h⟩ := bind_l h
   replace d5' := f101_ok d5'
   rcases ite_some h with ⟨c6', h⟩ | ⟨c6', h⟩
   ·
    obtain ⟨t3, d7', h⟩ := bind_l h
    replace d7' := f101_ok d7'
    rcases ite_some h with ⟨c8', h⟩ | ⟨c8', h⟩
    ·
     obtain rfl := Option.some.inj h
     simp [C0, c89, c101, Try.f89, c1', eq_true c4', d5', c6', d7', c8']
    ·
     obtain rfl := Option.some.inj h
     simp [C0, c89, c101, Try.f89, c1', eq_true c4', d5', c6', d7', c8']
   ·
    obtain rfl := Option.some.inj h
    simp [C0, c89, c101, Try.f89, c1', eq_true c4', d5', c6']
  ·
   rcases ite_some h with ⟨c9', h⟩ | ⟨c9', h⟩
   ·
    obtain ⟨t4, d10', h⟩ := bind_l h
    replace d10' := f101_ok d10'
    rcases ite_some h with ⟨c11', h⟩ | ⟨c11', h⟩
    ·
     rcases ite_some h with ⟨c12', h⟩ | ⟨c12', h⟩
     ·
      obtain rfl := Option.some.inj h
      simp [C0, c89, c101, Try.f89, c1', c4', eq_true c9', d10', c11', c12']
     ·
      obtain rfl := Option.some.inj h
      simp [C0, c89, c101, Try.f89, c1', c4', eq_true c9', d10', c11', c12']
    ·
     obtain rfl := Option.some.inj h
     simp [C0, c89, c101, Try.f89, c1', c4', eq_true c9', d10', c11']
   ·
    obtain rfl := Option.some.inj h
    simp [C0, c89, c101, Try.f89, c1', c4', c9']
end Go.Proofs.Ytfjoamlgbegpgaa.P
