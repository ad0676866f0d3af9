/- Part of proofs of this seat: no statement of its own. -/
import Derived.Test.YtfjoamlgbegpgaaDB
import Derived.Test.YtfjoamlgbegpgaaDF0
import Derived.Test.YtfjoamlgbegpgaaDF1
import Derived.Test.YtfjoamlgbegpgaaDF10
import Derived.Test.YtfjoamlgbegpgaaDF11
import Derived.Test.YtfjoamlgbegpgaaDF21
set_option linter.unusedVariables false
set_option linter.unusedSimpArgs false
namespace Go.Proofs.Ytfjoamlgbegpgaa.P
open Go Go.Proofs.Ytfjoamlgbegpgaa.PM Go.Proofs
attribute [local simp] execK_seq execK_region execK_ret execK_skip execK_exit execK_block execK_cond condK_bool seqK_normal seqK_ret seqK_exit blockK_normal blockK_ret blockK_exit giveK_normal giveK_ret regionK clearK_none clearK_some normR_mk normR_def freshR fresh1 nextK_normal nextK_ret nextK_exit
  regionR runOps stepR wantR opR evalT lift lift1 Rd.run Rd.run_bind wrOk putT putAll putIn lookIn guardR Rd.ofOption obj buildSliceR mapR close close1 view1 plainB T.width T.cells room appendR strR newsR elemsR setAll most Ob.kill Ob.gone pure findK FCert.predsOf logsR Log.bare meets
  loadR storeR takeCells closeIf cellT splice T.withCells buildR fillR chk undT giveR resR outAll outOne outCell outCells outMany reachN refs refs1 posIn srcN validB mapV mapA mapC mapOb pickTmps lenR sliceR bound hiB loB makeSliceR copyR
  ev_add ev_sub ev_mul ev_quo ev_rem ev_sadd ev_eql ev_neq ev_lss ev_leq ev_gtr ev_geq ev_seql ev_sneq ev_slss ev_sleq ev_sgtr ev_sgeq ev_not ev_neg ev_unxor ev_conv scOf bsize_mk bytesOf bytesOf_map bytesOf_append eqSc eqFs strOf ev_min ev_and ev_or ev_xor ev_andNot ev_shl ev_shr indexAddrR intOf callR passAll passT pass1 reach passOb backN backS noSrc flatL verOf at_map byteAt_eq wid_append wid_nil wid_cons List.take_of_length_le wStr w_i64 w_u8 eStr eBool e_i64 e_u8 List.range_succ bytesL
  sz2 ag2 by2 ze2 sz3 ag3 by3 ze3 sz4 ag4 by4 ze4 sz5 ag5 by5 ze5 sz9 ag9 by9 ze9 sz22 ag22 by22 ze22 el22 sz23 ag23 by23 ze23 el23 sz25 ag25 by25 ze25 fs25 sz28 ag28 by28 ze28 el28 sz29 ag29 by29 ze29 el29 sz31 ag31 by31 ze31 fs31 sz38 ag38 by38 ze38 el38 sz40 ag40 by40 ze40 el40 sz51 ag51 by51 ze51 sz58 ag58 by58 ze58 el58 sz60 ag60 by60 ze60 fs60 sz73 ag73 by73 ze73 fs73 sz80 ag80 by80 ze80 fs80 sz81 ag81 by81 sz89 ag89 by89 ze89 el89 sz104 ag104 by104 ze104 fs104 sz106 ag106 by106 ze106 fs106 sz108 ag108 by108 ze108 fs108 sz120 ag120 by120 ze120 fs120 sz128 ag128 by128 ze128 el128 sz136 ag136 by136 ze136 fs136 sz141 ag141 by141 ze141 fs141 sz143 ag143 by143 ze143 sz145 ag145 by145 ze145 ck2 ck3 ck4 ck9 ck28 ck29 ck31 ck38 ck40 ck58 ck60 ck73 ck80 ck81 ck104 ck128 ck136 ck143 ck145 eq80 ft25_0 ft25_1 ft25_2 ft31_0 ft31_1 ft31_2 ft60_0 ft60_1 ft60_2 ft73_0 ft73_1 ft73_2 ft73_3 ft80_0 ft80_1 ft104_0 ft104_1 ft106_0 ft106_1 ft108_0 ft108_1 ft108_2 ft108_3 ft120_0 ft120_1 ft136_0 ft136_1 ft136_2 Try.underlying2 Try.underlying3 Try.underlying4 Try.underlying5 Try.underlying9 Try.underlying22 Try.underlying23 Try.underlying28 Try.underlying29 Try.underlying38 Try.underlying40 Try.underlying51 Try.underlying58 Try.underlying128 Try.underlying143 Try.underlying145 w73 w80 w104 w106 w108 w136 e73 e80 e104 e106 e108 e136
attribute [local simp] get_Int get_Str get_Bool get_byte g73 g80 g104 g106 g108 g136
set_option maxRecDepth 100000
set_option maxHeartbeats 4000000
theorem ok28 : okCode (C0 28) Try.f28.body.get! = true := by kernel_rfl
theorem f28_ok {k : Nat} {a0_0 : List S80} {a0_1 : List S80} {a0_2 : List S73} {r : (List S80) × (List S80) × (List S73)} (h : f28 k a0_0 a0_1 a0_2 = some r) : callT Try.prog C0 P0 28 [T.agg [T.sl (List.map e80 a0_0) [], T.sl (List.map e80 a0_1) [], T.sl (List.map e73 a0_2) []]] [] = some (T.agg [T.win 0 0 r.1.length, T.win 1 0 r.2.1.length, T.win 2 0 r.2.2.length], [Ob.mkRow 2 (List.map e80 r.1), Ob.mkRow 2 (List.map e80 r.2.1), Ob.mkRow 4 (List.map e73 r.2.2)]) := by
 rw [callK_eq rfl Try.func28 rfl ok28]
 unfold f28 at h
 obtain ⟨t1, d1', h⟩ := bind_l h
 replace d1' := f13_ok d1'
 rcases ite_some h with ⟨c2', h⟩ | ⟨c2', h⟩
 ·
  obtain ⟨c3', h⟩ := ite_l h
  obtain ⟨c4', h⟩ := ite_l h
  obtain rfl := Option.some.inj h
  simp [C0, c28, c13, Try.f28, d1', c2', c3', c4']
 ·
  obtain rfl := Option.some.inj h
  simp [C0, c28, c13, Try.f28, d1', c2']
theorem ok66 : okCode (C0 66) Try.f66.body.get! = true := by kernel_rfl
theorem f66_ok {k : Nat} {a0_0 : List S80} {a0_1 : List S80} {a0_2 : List S73} {r : (List S80) × (List S80) × (List S73)} (h : f66 k a0_0 a0_1 a0_2 = some r) : callT Try.prog C0 P0 66 [T.agg [T.sl (List.map e80 a0_0) [], T.sl (List.map e80 a0_1) [], T.sl (List.map e73 a0_2) []]] [] = some (T.agg [T.win 0 0 r.1.length, T.win 1 0 r.2.1.length, T.win 2 0 r.2.2.length], [Ob.mkRow 2 (List.map e80 r.1), Ob.mkRow 2 (List.map e80 r.2.1), Ob.mkRow 4 (List.map e73 r.2.2)]) := by
 rw [callK_eq rfl Try.func66 rfl ok66]
 unfold f66 at h
 obtain ⟨c1', h⟩ := ite_l h
 obtain ⟨c2', h⟩ := ite_l h
 obtain ⟨c3', h⟩ := ite_l h
 obtain ⟨c4', h⟩ := ite_l h
 obtain ⟨c5', h⟩ := ite_l h
 obtain ⟨c6', h⟩ := ite_l h
 obtain rfl := Option.some.inj h
 simp [C0, c66, Try.f66, c1', c2', c3', c4', c5', c6']
theorem ok65 : okCode (C0 65) Try.f65.body.get! = true := by kernel_rfl
theorem f65_ok {k : Nat} {a0_0 : List S80} {a0_1 : List S80} {a0_2 : List S73} {a1_0 : Int} {a1_1 : ByteArray} {a1_2 : ByteArray} {a1_3 : ByteArray} {r : Int × (List S80) × (List S80) × (List S73)} (h : f65 k a0_0 a0_1 a0_2 a1_0 a1_1 a1_2 a1_3 = some r) : callT Try.prog C0 P0 65 [T.agg [T.sl (List.map e80 a0_0) [], T.sl (List.map e80 a0_1) [], T.sl (List.map e73 a0_2) []], T.agg [T.sc (.int .i64 a1_0), T.sc (.string a1_1), T.sc (.string a1_2), T.sc (.string a1_3)]] [] = some (T.tup [T.agg [T.win 0 0 r.2.1.length, T.win 1 0 r.2.2.1.length, T.win 2 0 r.2.2.2.length], T.sc (.int .i64 r.1)], [Ob.mkRow 2 (List.map e80 r.2.1), Ob.mkRow 2 (List.map e80 r.2.2.1), Ob.mkRow 4 (List.map e73 r.2.2.2)]) := by
 rw [callK_eq rfl Try.func65 rfl ok65]
 unfold f65 at h
 obtain ⟨t1, d1', h⟩ := bind_l h
 replace d1' := f45_ok d1'
 rcases ite_some h with ⟨c2', h⟩ | ⟨c2', h⟩
 ·
  obtain ⟨t2, d3', h⟩ := bind_l h
  replace d3' := f44_ok d3'
  rcases ite_some h with ⟨c4', h⟩ | ⟨c4', h⟩
  ·
   rcases ite_some h with ⟨c5', h⟩ | ⟨c5', h⟩
   ·
    obtain ⟨t3, d6', h⟩ := bind_l h
    replace d6' := f66_ok d6'
    obtain rfl := Option.some.inj h
    simp (maxSteps := 2000000) [C0, c65, c43, c44, c45, c66, Try.f65, d1', c2', d3', c4', eq_true c5', d6']
   ·
    obtain ⟨t4, d7', h⟩ := bind_l h
    replace d7' := f43_ok d7'
    rcases ite_some h with ⟨c8', h⟩ | ⟨c8', h⟩
    ·
     obtain ⟨t5, d9', h⟩ := bind_l h
     replace d9' := f66_ok d9'
     obtain ⟨c10', h⟩ := ite_l h
     obtain ⟨c11', h⟩ := ite_l h
     obtain rfl := Option.some.inj h
     simp (maxSteps := 2000000) [C0, c65, c43, c44, c45, c66, Try.f65, d1', c2', d3', c4', c5', d7', c8', d9', c10', c11']
    ·
     obtain ⟨t6, d12', h⟩ := bind_l h
     replace d12' := f66_ok d12'
     obtain rfl := Option.some.inj h
     simp (maxSteps := 2000000) [C0, c65, c43, c44, c45, c66, Try.f65, d1', c2', d3', c4', c5', d7', c8', d12']
  ·
   obtain ⟨t7, d13', h⟩ := bind_l h
   replace d13' := f66_ok d13'
   obtain rfl := Option.some.inj h
   simp (maxSteps := 2000000) [C0, c65, c43, c44, c45, c66, Try.f65, d1', c2', d3', c4', d13']
 ·
  obtain ⟨t8, d14', h⟩ := bind_l h
  replace d14' := f66_ok d14'
  obtain rfl := Option.some.inj h
  simp (maxSteps := 2000000) [C0, c65, c43, c44, c45, c66, Try.f65, d1', c2', d14']
theorem ok24 : okCode (C0 24) Try.f24.body.get! = true := by kernel_rfl
theorem f24_ok {k : Nat} {a0_0 : List S80} {a0_1 : List S80} {a0_2 : List S73} {r : (List S80) × (List S80) × (List S73)} (h : f24 k a0_0 a0_1 a0_2 = some r) : callT Try.prog C0 P0 24 [T.agg [T.sl (List.map e80 a0_0) [], T.sl (List.map e80 a0_1) [], T.sl (List.map e73 a0_2) []]] [] = some (T.agg [T.win 0 0 r.1.length, T.win 1 0 r.2.1.length, T.win 2 0 r.2.2.length], [Ob.mkRow 2 (List.map e80 r.1), Ob.mkRow 2 (List.map e80 r.2.1), Ob.mkRow 4 (List.map e73 r.2.2)]) := by
 rw [callK_eq rfl Try.func24 rfl ok24]
 unfold f24 at h
 obtain ⟨t1, d1', h⟩ := bind_l h
 replace d1' := f49_ok d1'
 rcases ite_some h with ⟨c2', h⟩ | ⟨c2', h⟩
 ·
  obtain ⟨t2, d3', h⟩ := bind_l h
  replace d3' := f59_ok d3'
  obtain rfl := Option.some.inj h
  simp [C0, c24, c49, c59, Try.f24, d1', c2', d3']
 ·
  obtain rfl := Option.some.inj h
  simp [C0, c24, c49, c59, Try.f24, d1', c2']
end Go.Proofs.Ytfjoamlgbegpgaa.P
