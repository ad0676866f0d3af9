/- Part of proofs of this seat: no statement of its own. -/
import Derived.Test.YtfjoamlgbegpgaaDB
import Derived.Test.YtfjoamlgbegpgaaDF3
import Derived.Test.YtfjoamlgbegpgaaDF11
set_option linter.unusedVariables false
set_option linter.unusedSimpArgs false
namespace Go.Proofs.Ytfjoamlgbegpgaa.P
open Go Go.Proofs.Ytfjoamlgbegpgaa.PM Go.Proofs
attribute [local simp] execK_seq execK_region execK_ret execK_skip execK_exit execK_block execK_cond condK_bool seqK_normal seqK_ret seqK_exit blockK_normal blockK_ret blockK_exit giveK_normal giveK_ret regionK clearK_none clearK_some normR_mk normR_def freshR fresh1 nextK_normal nextK_ret nextK_exit
  regionR runOps stepR wantR opR evalT lift lift1 Rd.run Rd.run_bind wrOk putT putAll putIn lookIn guardR Rd.ofOption obj buildSliceR mapR close close1 view1 plainB T.width T.cells room appendR strR newsR elemsR setAll most Ob.kill Ob.gone pure findK FCert.predsOf logsR Log.bare meets
  loadR storeR takeCells closeIf cellT splice T.withCells buildR fillR chk undT giveR resR outAll outOne outCell outCells outMany reachN refs refs1 posIn srcN validB mapV mapA mapC mapOb pickTmps lenR sliceR bound hiB loB makeSliceR copyR
  ev_add ev_sub ev_mul ev_quo ev_rem ev_sadd ev_eql ev_neq ev_lss ev_leq ev_gtr ev_geq ev_seql ev_sneq ev_slss ev_sleq ev_sgtr ev_sgeq ev_not ev_neg ev_unxor ev_conv scOf bsize_mk bytesOf bytesOf_map bytesOf_append eqSc eqFs strOf ev_min ev_and ev_or ev_xor ev_andNot ev_shl ev_shr indexAddrR intOf callR passAll passT pass1 reach passOb backN backS noSrc flatL verOf at_map byteAt_eq wid_append wid_nil wid_cons List.take_of_length_le wStr w_i64 w_u8 eStr eBool e_i64 e_u8 List.range_succ bytesL
  sz2 ag2 by2 ze2 sz3 ag3 by3 ze3 sz4 ag4 by4 ze4 sz5 ag5 by5 ze5 sz9 ag9 by9 ze9 sz22 ag22 by22 ze22 el22 sz23 ag23 by23 ze23 el23 sz25 ag25 by25 ze25 fs25 sz28 ag28 by28 ze28 el28 sz29 ag29 by29 ze29 el29 sz31 ag31 by31 ze31 fs31 sz38 ag38 by38 ze38 el38 sz40 ag40 by40 ze40 el40 sz51 ag51 by51 ze51 sz58 ag58 by58 ze58 el58 sz60 ag60 by60 ze60 fs60 sz73 ag73 by73 ze73 fs73 sz80 ag80 by80 ze80 fs80 sz81 ag81 by81 sz89 ag89 by89 ze89 el89 sz104 ag104 by104 ze104 fs104 sz106 ag106 by106 ze106 fs106 sz108 ag108 by108 ze108 fs108 sz120 ag120 by120 ze120 fs120 sz128 ag128 by128 ze128 el128 sz136 ag136 by136 ze136 fs136 sz141 ag141 by141 ze141 fs141 sz143 ag143 by143 ze143 sz145 ag145 by145 ze145 ck2 ck3 ck4 ck9 ck28 ck29 ck31 ck38 ck40 ck58 ck60 ck73 ck80 ck81 ck104 ck128 ck136 ck143 ck145 eq80 ft25_0 ft25_1 ft25_2 ft31_0 ft31_1 ft31_2 ft60_0 ft60_1 ft60_2 ft73_0 ft73_1 ft73_2 ft73_3 ft80_0 ft80_1 ft104_0 ft104_1 ft106_0 ft106_1 ft108_0 ft108_1 ft108_2 ft108_3 ft120_0 ft120_1 ft136_0 ft136_1 ft136_2 Try.underlying2 Try.underlying3 Try.underlying4 Try.underlying5 Try.underlying9 Try.underlying22 Try.underlying23 Try.underlying28 Try.underlying29 Try.underlying38 Try.underlying40 Try.underlying51 Try.underlying58 Try.underlying128 Try.underlying143 Try.underlying145 w73 w80 w104 w106 w108 w136 e73 e80 e104 e106 e108 e136
attribute [local simp] get_Int get_Str get_Bool get_byte g73 g80 g104 g106 g108 g136
set_option maxRecDepth 100000
set_option maxHeartbeats 4000000
theorem ok19 : okCode (C0 19) Try.f19.body.get! = true := by kernel_rfl
theorem f19_ok {k : Nat} {a0_0 : List Int} {r : Bool} (h : f19 k a0_0 = some r) : callT Try.prog C0 P0 19 [T.sl (List.map e_u8 a0_0) []] [] = some (T.sc (.bool r), []) := by
 rw [callK_eq rfl Try.func19 rfl ok19]
 unfold f19 at h
 obtain rfl := Option.some.inj h
 simp [C0, c19, Try.f19]
theorem ok54 : okCode (C0 54) Try.f54.body.get! = true := by kernel_rfl
theorem f54_ok {k : Nat} {a0_0 : List Int} {r : (List Int) × Int} (h : f54 k a0_0 = some r) : callT Try.prog C0 P0 54 [T.sl (List.map e_u8 a0_0) []] [] = some (T.ptr 0 0 0, [Ob.mkBox 2 (T.agg [T.sl (List.map e_u8 r.1) [], T.sc (.int .i64 r.2)])]) := by
 rw [callK_eq rfl Try.func54 rfl ok54]
 unfold f54 at h
 obtain rfl := Option.some.inj h
 simp [C0, c54, Try.f54]
theorem ok102 : okCode (C0 102) Try.f102.body.get! = true := by kernel_rfl
theorem f102_ok {k : Nat} {o0_0 : List Int} {o0_1 : Int} {r : Int × Int} (h : f102 k o0_0 o0_1 = some r) : callT Try.prog C0 P0 102 [T.ptr 0 0 0] [Ob.mkBox 2 (T.agg [T.sl (List.map e_u8 o0_0) [], T.sc (.int .i64 o0_1)])] = some (T.sc (.int .i64 r.1), [Ob.mkBox 2 (T.agg [T.sl (List.map e_u8 o0_0) [], T.sc (.int .i64 r.2)])]) := by
 rw [callK_eq rfl Try.func102 rfl ok102]
 unfold f102 at h
 rcases ite_some h with ⟨c1', h⟩ | ⟨c1', h⟩
 ·
  obtain rfl := Option.some.inj h
  simp [C0, c102, Try.f102, c1']
 ·
  obtain ⟨c2', h⟩ := ite_l h
  obtain ⟨c3', h⟩ := ite_l h
  obtain rfl := Option.some.inj h
  simp [C0, c102, Try.f102, c1', c2', c3']
theorem ok63 : okCode (C0 63) Try.f63.body.get! = true := by kernel_rfl
theorem f63_ok {k : Nat} {a1_0 : Int} {o0_0 : List Int} {o0_1 : Int} {r : Int × Int} (h : f63 k a1_0 o0_0 o0_1 = some r) : callT Try.prog C0 P0 63 [T.ptr 0 0 0, T.sc (.int .i64 a1_0)] [Ob.mkBox 2 (T.agg [T.sl (List.map e_u8 o0_0) [], T.sc (.int .i64 o0_1)])] = some (T.sc (.int .i64 r.1), [Ob.mkBox 2 (T.agg [T.sl (List.map e_u8 o0_0) [], T.sc (.int .i64 r.2)])]) := by
 rw [callK_eq rfl Try.func63 rfl ok63]
 unfold f63 at h
 rcases ite_some h with ⟨c1', h⟩ | ⟨c1', h⟩
 ·
  obtain rfl := Option.some.inj h
  simp [C0, c63, c102, Try.f63, c1']
 ·
  rcases ite_some h with ⟨c2', h⟩ | ⟨c2', h⟩
  ·
   obtain ⟨t1, d3', h⟩ := bind_l h
   replace d3' := f102_ok d3'
   obtain ⟨c4', h⟩ := ite_l h
   obtain rfl := Option.some.inj h
   simp [C0, c63, c102, Try.f63, c1', c2', d3', c4']
  ·
   obtain ⟨t2, d5', h⟩ := bind_l h
   replace d5' := f102_ok d5'
   obtain ⟨t3, d6', h⟩ := bind_l h
   replace d6' := f102_ok d6'
   obtain ⟨c7', h⟩ := ite_l h
   obtain rfl := Option.some.inj h
   simp [C0, c63, c102, Try.f63, c1', c2', d5', d6', c7']
theorem ok56 : okCode (C0 56) Try.f56.body.get! = true := by kernel_rfl
theorem f56_ok {k : Nat} {a1_0 : Int} {o0_0 : List Int} {o0_1 : Int} {r : Bool × Int} (h : f56 k a1_0 o0_0 o0_1 = some r) : callT Try.prog C0 P0 56 [T.ptr 0 0 0, T.sc (.int .i64 a1_0)] [Ob.mkBox 2 (T.agg [T.sl (List.map e_u8 o0_0) [], T.sc (.int .i64 o0_1)])] = some (T.sc (.bool r.1), [Ob.mkBox 2 (T.agg [T.sl (List.map e_u8 o0_0) [], T.sc (.int .i64 r.2)])]) := by
 rw [callK_eq rfl Try.func56 rfl ok56]
 unfold f56 at h
 obtain ⟨t1, d1', h⟩ := bind_l h
 replace d1' := f63_ok d1'
 obtain rfl := Option.some.inj h
 simp [C0, c56, c63, Try.f56, d1']
theorem ok95 : okCode (C0 95) Try.f95.body.get! = true := by kernel_rfl
theorem f95_ok {k : Nat} {a1_0 : Int} {a2_0 : Int} {o0_0 : List Int} {o0_1 : Int} {r : Int × Int} (h : f95 k a1_0 a2_0 o0_0 o0_1 = some r) : callT Try.prog C0 P0 95 [T.ptr 0 0 0, T.sc (.int .i64 a1_0), T.sc (.int .i64 a2_0)] [Ob.mkBox 2 (T.agg [T.sl (List.map e_u8 o0_0) [], T.sc (.int .i64 o0_1)])] = some (T.sc (.int .i64 r.1), [Ob.mkBox 2 (T.agg [T.sl (List.map e_u8 o0_0) [], T.sc (.int .i64 r.2)])]) := by
 rw [callK_eq rfl Try.func95 rfl ok95]
 unfold f95 at h
 obtain ⟨c1', h⟩ := ite_l h
 rcases ite_some h with ⟨c2', h⟩ | ⟨c2', h⟩
 ·
  obtain ⟨t1, d3', h⟩ := bind_l h
  replace d3' := f63_ok d3'
  obtain rfl := Option.some.inj h
  simp [-Int.natCast_tdiv_eq_ediv, C0, c95, c63, Try.f95, c1', c2', d3']
 ·
  obtain ⟨t2, d4', h⟩ := bind_l h
  replace d4' := f63_ok d4'
  obtain rfl := Option.some.inj h
  simp [-Int.natCast_tdiv_eq_ediv, C0, c95, c63, Try.f95, c1', c2', d4']
theorem ok96 : okCode (C0 96) Try.f96.body.get! = true := by kernel_rfl
theorem f96_ok {k : Nat} {a0_0 : List S80} {a0_1 : List S80} {a0_2 : List S73} {a1_0 : Int} {a1_1 : ByteArray} {a1_2 : ByteArray} {a1_3 : ByteArray} {r : Int × (List S80) × (List S80) × (List S73)} (h : f96 k a0_0 a0_1 a0_2 a1_0 a1_1 a1_2 a1_3 = some r) : callT Try.prog C0 P0 96 [T.agg [T.sl (List.map e80 a0_0) [], T.sl (List.map e80 a0_1) [], T.sl (List.map e73 a0_2) []], T.agg [T.sc (.int .i64 a1_0), T.sc (.string a1_1), T.sc (.string a1_2), T.sc (.string a1_3)]] [] = some (T.tup [T.agg [T.win 0 0 r.2.1.length, T.win 1 0 r.2.2.1.length, T.win 2 0 r.2.2.2.length], T.sc (.int .i64 r.1)], [Ob.mkRow 2 (List.map e80 r.2.1), Ob.mkRow 2 (List.map e80 r.2.2.1), Ob.mkRow 4 (List.map e73 r.2.2.2)]) := by
 rw [callK_eq rfl Try.func96 rfl ok96]
 unfold f96 at h
 obtain ⟨t1, d1', h⟩ := bind_l h
 replace d1' := f13_ok d1'
 rcases ite_some h with ⟨c2', h⟩ | ⟨c2', h⟩
 ·
  obtain ⟨t2, d3', h⟩ := bind_l h
  replace d3' := f65_ok d3'
  obtain rfl := Option.some.inj h
  simp [C0, c96, c13, c65, Try.f96, d1', c2', d3']
 ·
  obtain rfl := Option.some.inj h
  simp [C0, c96, c13, c65, Try.f96, d1', c2']
theorem ok64 : okCode (C0 64) Try.f64.body.get! = true := by kernel_rfl
theorem f64_ok {k : Nat} {o0_0 : List Int} {o0_1 : Int} {r : ByteArray × Int} (h : f64 k o0_0 o0_1 = some r) : callT Try.prog C0 P0 64 [T.ptr 0 0 0] [Ob.mkBox 2 (T.agg [T.sl (List.map e_u8 o0_0) [], T.sc (.int .i64 o0_1)])] = some (T.sc (.string r.1), [Ob.mkBox 2 (T.agg [T.sl (List.map e_u8 o0_0) [], T.sc (.int .i64 r.2)])]) := by
 rw [callK_eq rfl Try.func64 rfl ok64]
 unfold f64 at h
 obtain ⟨t1, d1', h⟩ := bind_l h
 replace d1' := f63_ok d1'
 obtain ⟨c2', h⟩ := ite_l h
 obtain ⟨c3', h⟩ := ite_l h
 have c3'l := lit_get eStr ([(⟨#[]⟩ : ByteArray), (⟨#[97]⟩ : ByteArray), (⟨#[98]⟩ : ByteArray), (⟨#[97, 98, 99]⟩ : ByteArray), (⟨#[108, 97, 121, 101, 114]⟩ : ByteArray), (⟨#[99, 111, 110, 102, 105, 103]⟩ : ByteArray), (⟨#[122, 122, 57]⟩ : ByteArray), (⟨#[48]⟩ : ByteArray)] : List ByteArray) t1.1
 simp only [List.map_cons, List.map_nil, eStr] at c3'l
 obtain rfl := Option.some.inj h
 simp [C0, c64, c63, Try.f64, d1', c2', c3', c3'l]
theorem ok97 : okCode (C0 97) Try.f97.body.get! = true := by kernel_rfl
theorem f97_ok {k : Nat} {o0_0 : List Int} {o0_1 : Int} {r : Int × ByteArray × ByteArray × ByteArray × Int} (h : f97 k o0_0 o0_1 = some r) : callT Try.prog C0 P0 97 [T.ptr 0 0 0] [Ob.mkBox 2 (T.agg [T.sl (List.map e_u8 o0_0) [], T.sc (.int .i64 o0_1)])] = some (T.agg [T.sc (.int .i64 r.1), T.sc (.string r.2.1), T.sc (.string r.2.2.1), T.sc (.string r.2.2.2.1)], [Ob.mkBox 2 (T.agg [T.sl (List.map e_u8 o0_0) [], T.sc (.int .i64 r.2.2.2.2)])]) := by
 rw [callK_eq rfl Try.func97 rfl ok97]
 unfold f97 at h
 obtain ⟨t1, d1', h⟩ := bind_l h
 replace d1' := f63_ok d1'
 obtain ⟨c2', h⟩ := ite_l h
 obtain ⟨c3', h⟩ := ite_l h
 have c3'l := lit_get eStr ([(⟨#[108, 111, 103]⟩ : ByteArray), (⟨#[118, 111, 116, 101]⟩ : ByteArray), (⟨#[118, 111, 116, 101, 46, 110, 101, 119]⟩ : ByteArray), (⟨#[98]⟩ : ByteArray)] : List ByteArray) t1.1
 simp only [List.map_cons, List.map_nil, eStr] at c3'l
 obtain ⟨t2, d4', h⟩ := bind_l h
 replace d4' := f63_ok d4'
 rcases ite_some h with ⟨c5', h⟩ | ⟨c5', h⟩
 ·
  obtain ⟨t3, d6', h⟩ := bind_l h
  replace d6' := f63_ok d6'
  obtain ⟨c7', h⟩ := ite_l h
  obtain ⟨c8', h⟩ := ite_l h
  have c8'l := lit_get eStr ([(⟨#[108, 111, 103]⟩ : ByteArray), (⟨#[118, 111, 116, 101]⟩ : ByteArray), (⟨#[99]⟩ : ByteArray)] : List ByteArray) t3.1
  simp only [List.map_cons, List.map_nil, eStr] at c8'l
  obtain rfl := Option.some.inj h
  simp [C0, c97, c63, c64, Try.f97, d1', c2', c3', c3'l, d4', eq_true c5', d6', c7', c8', c8'l]
 ·
  rcases ite_some h with ⟨c9', h⟩ | ⟨c9', h⟩
  ·
   obtain rfl := Option.some.inj h
   simp [C0, c97, c63, c64, Try.f97, d1', c2', c3', c3'l, d4', c5', eq_true c9']
  ·
   obtain ⟨t4, d10', h⟩ := bind_l h
   replace d10' := f64_ok d10'
   obtain rfl := Option.some.inj h
   simp [C0, c97, c63, c64, Try.f97, d1', c2', c3', c3'l, d4', c5', c9', d10']
end Go.Proofs.Ytfjoamlgbegpgaa.P
