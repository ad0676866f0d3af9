/- Part of proofs of this seat: no statement of its own. -/
import Derived.Test.YtfjoamlgbegpgaaDB
import Derived.Test.YtfjoamlgbegpgaaDF2
import Derived.Test.YtfjoamlgbegpgaaDF19
import Derived.Test.YtfjoamlgbegpgaaDF21
set_option linter.unusedVariables false
set_option linter.unusedSimpArgs false
namespace Go.Proofs.Ytfjoamlgbegpgaa.P
open Go Go.Proofs.Ytfjoamlgbegpgaa.PM Go.Proofs
attribute [local simp] execK_seq execK_region execK_ret execK_skip execK_exit execK_block execK_cond condK_bool seqK_normal seqK_ret seqK_exit blockK_normal blockK_ret blockK_exit giveK_normal giveK_ret regionK clearK_none clearK_some normR_mk normR_def freshR fresh1 nextK_normal nextK_ret nextK_exit
  regionR runOps stepR wantR opR evalT lift lift1 Rd.run Rd.run_bind wrOk putT putAll putIn lookIn guardR Rd.ofOption obj buildSliceR mapR close close1 view1 plainB T.width T.cells room appendR strR newsR elemsR setAll most Ob.kill Ob.gone pure findK FCert.predsOf logsR Log.bare meets
  loadR storeR takeCells closeIf cellT splice T.withCells buildR fillR chk undT giveR resR outAll outOne outCell outCells outMany reachN refs refs1 posIn srcN validB mapV mapA mapC mapOb pickTmps lenR sliceR bound hiB loB makeSliceR copyR
  ev_add ev_sub ev_mul ev_quo ev_rem ev_sadd ev_eql ev_neq ev_lss ev_leq ev_gtr ev_geq ev_seql ev_sneq ev_slss ev_sleq ev_sgtr ev_sgeq ev_not ev_neg ev_unxor ev_conv scOf bsize_mk bytesOf bytesOf_map bytesOf_append eqSc eqFs strOf ev_min ev_and ev_or ev_xor ev_andNot ev_shl ev_shr indexAddrR intOf callR passAll passT pass1 reach passOb backN backS noSrc flatL verOf at_map byteAt_eq wid_append wid_nil wid_cons List.take_of_length_le wStr w_i64 w_u8 eStr eBool e_i64 e_u8 List.range_succ bytesL
  sz2 ag2 by2 ze2 sz3 ag3 by3 ze3 sz4 ag4 by4 ze4 sz5 ag5 by5 ze5 sz9 ag9 by9 ze9 sz22 ag22 by22 ze22 el22 sz23 ag23 by23 ze23 el23 sz25 ag25 by25 ze25 fs25 sz28 ag28 by28 ze28 el28 sz29 ag29 by29 ze29 el29 sz31 ag31 by31 ze31 fs31 sz38 ag38 by38 ze38 el38 sz40 ag40 by40 ze40 el40 sz51 ag51 by51 ze51 sz58 ag58 by58 ze58 el58 sz60 ag60 by60 ze60 fs60 sz73 ag73 by73 ze73 fs73 sz80 ag80 by80 ze80 fs80 sz81 ag81 by81 sz89 ag89 by89 ze89 el89 sz104 ag104 by104 ze104 fs104 sz106 ag106 by106 ze106 fs106 sz108 ag108 by108 ze108 fs108 sz120 ag120 by120 ze120 fs120 sz128 ag128 by128 ze128 el128 sz136 ag136 by136 ze136 fs136 sz141 ag141 by141 ze141 fs141 sz143 ag143 by143 ze143 sz145 ag145 by145 ze145 ck2 ck3 ck4 ck9 ck28 ck29 ck31 ck38 ck40 ck58 ck60 ck73 ck80 ck81 ck104 ck128 ck136 ck143 ck145 eq80 ft25_0 ft25_1 ft25_2 ft31_0 ft31_1 ft31_2 ft60_0 ft60_1 ft60_2 ft73_0 ft73_1 ft73_2 ft73_3 ft80_0 ft80_1 ft104_0 ft104_1 ft106_0 ft106_1 ft108_0 ft108_1 ft108_2 ft108_3 ft120_0 ft120_1 ft136_0 ft136_1 ft136_2 Try.underlying2 Try.underlying3 Try.underlying4 Try.underlying5 Try.underlying9 Try.underlying22 Try.underlying23 Try.underlying28 Try.underlying29 Try.underlying38 Try.underlying40 Try.underlying51 Try.underlying58 Try.underlying128 Try.underlying143 Try.underlying145 w73 w80 w104 w106 w108 w136 e73 e80 e104 e106 e108 e136
attribute [local simp] get_Int get_Str get_Bool get_byte g73 g80 g104 g106 g108 g136
set_option maxRecDepth 100000
set_option maxHeartbeats 4000000
theorem ok15 : okCode (C0 15) Try.f15.body.get! = true := by kernel_rfl
theorem f15_ok {k : Nat} {a0_0 : List S80} {a0_1 : List S80} {a0_2 : List S73} {r : Bool} (h : f15 k a0_0 a0_1 a0_2 = some r) : callT Try.prog C0 P0 15 [T.agg [T.sl (List.map e80 a0_0) [], T.sl (List.map e80 a0_1) [], T.sl (List.map e73 a0_2) []]] [] = some (T.sc (.bool r), []) := by
 rw [callK_eq rfl Try.func15 rfl ok15]
 unfold f15 at h
 obtain ⟨t1, d1', h⟩ := bind_l h
 replace d1' := f49_ok d1'
 obtain rfl := Option.some.inj h
 simp [C0, c15, c49, Try.f15, d1']
theorem ok117 : okCode (C0 117) Try.f117.body.get! = true := by kernel_rfl
theorem f117_ok {k : Nat} {o0_0 : List Int} {o0_1 : Int} {r : Int × (List Int) × Int} (h : f117 k o0_0 o0_1 = some r) : callT Try.prog C0 P0 117 [T.ptr 0 0 0] [Ob.mkBox 2 (T.agg [T.sl (List.map e_u8 o0_0) [], T.sc (.int .i64 o0_1)])] = some (T.sc (.int .u64 r.1), [Ob.mkBox 2 (T.agg [T.sl (List.map e_u8 r.2.1) [], T.sc (.int .i64 r.2.2)])]) := by
 rw [callK_eq rfl Try.func117 rfl ok117]
 unfold f117 at h
 simp [C0, c117, c102, Try.f117]
 refine loop_ind (α := Int × Int × (List Int) × Int) k (fun x s => normR [(0, 0), (3, 0), (4, 0)] s = stf117_3 x.1 x.2.1 x.2.2.1 x.2.2.2) (fun k x => f117.l3 k x.1 x.2.1 x.2.2.1 x.2.2.2) (fun r => (some (T.sc (.int .u64 r.1), [Ob.mkBox 2 (T.agg [T.sl (List.map e_u8 r.2.1) [], T.sc (.int .i64 r.2.2)])]) : Option (T × List Ob))) (fun x => by simp only [f117.l3]) _ ?_ (0, 0, o0_0, o0_1) _ ?_ h
 · rintro n1' ⟨x3, x4, b0_0, b0_1⟩ s hn1' hs1' h ih3
   simp only [f117.l3] at h
   simp only [stf117_3] at hs1'
   rcases ite_some h with ⟨c2', h⟩ | ⟨c2', h⟩
   ·
    obtain ⟨t1, d3', h⟩ := bind_l h
    replace d3' := f102_ok d3'
    simp [C0, c117, c102, Try.f117, hs1', c2', d3']
    refine ih3 _ ((orI .u64 (shlI .u64 x3 8) (IntKind.u64.wrap t1.1)), (IntKind.i64.wrap (x4 + 1)), b0_0, t1.2) _ (by omega) ?_ h
    simp [stf117_3, hs1', c2', d3']
   ·
    obtain rfl := Option.some.inj h
    simp [C0, c117, c102, Try.f117, hs1', c2']
 · simp [stf117_3]
theorem ok98 : okCode (C0 98) Try.f98.body.get! = true := by kernel_rfl
theorem f98_ok {k : Nat} {a1_0 : Int} {a2_0 : Int} {o0_0 : List Int} {o0_1 : Int} {r : Int × (List Int) × Int} (h : f98 k a1_0 a2_0 o0_0 o0_1 = some r) : callT Try.prog C0 P0 98 [T.ptr 0 0 0, T.sc (.int .i64 a1_0), T.sc (.int .i64 a2_0)] [Ob.mkBox 2 (T.agg [T.sl (List.map e_u8 o0_0) [], T.sc (.int .i64 o0_1)])] = some (T.sc (.int .i64 r.1), [Ob.mkBox 2 (T.agg [T.sl (List.map e_u8 r.2.1) [], T.sc (.int .i64 r.2.2)])]) := by
 rw [callK_eq rfl Try.func98 rfl ok98]
 unfold f98 at h
 obtain ⟨t1, d1', h⟩ := bind_l h
 replace d1' := f63_ok d1'
 rcases ite_some h with ⟨c2', h⟩ | ⟨c2', h⟩
 ·
  obtain rfl := Option.some.inj h
  simp [C0, c98, c63, c117, Try.f98, d1', eq_true c2']
 ·
  rcases ite_some h with ⟨c3', h⟩ | ⟨c3', h⟩
  ·
   obtain rfl := Option.some.inj h
   simp [C0, c98, c63, c117, Try.f98, d1', c2', eq_true c3']
  ·
   rcases ite_some h with ⟨c4', h⟩ | ⟨c4', h⟩
   ·
    obtain rfl := Option.some.inj h
    simp [C0, c98, c63, c117, Try.f98, d1', c2', c3', c4']
   ·
    obtain ⟨t2, d5', h⟩ := bind_l h
    replace d5' := f117_ok d5'
    obtain ⟨c6', h⟩ := ite_l h
    obtain rfl := Option.some.inj h
    simp [C0, c98, c63, c117, Try.f98, d1', c2', c3', c4', d5', c6']
theorem ok57 : okCode (C0 57) Try.f57.body.get! = true := by kernel_rfl
theorem f57_ok {k : Nat} {a1_0 : Int} {a2_0 : Int} {o0_0 : List Int} {o0_1 : Int} {r : Int × (List Int) × Int} (h : f57 k a1_0 a2_0 o0_0 o0_1 = some r) : callT Try.prog C0 P0 57 [T.ptr 0 0 0, T.sc (.int .i64 a1_0), T.sc (.int .i64 a2_0)] [Ob.mkBox 2 (T.agg [T.sl (List.map e_u8 o0_0) [], T.sc (.int .i64 o0_1)])] = some (T.sc (.int .i64 r.1), [Ob.mkBox 2 (T.agg [T.sl (List.map e_u8 r.2.1) [], T.sc (.int .i64 r.2.2)])]) := by
 rw [callK_eq rfl Try.func57 rfl ok57]
 unfold f57 at h
 obtain ⟨t1, d1', h⟩ := bind_l h
 replace d1' := f56_ok d1'
 rcases ite_some h with ⟨c2', h⟩ | ⟨c2', h⟩
 ·
  obtain ⟨t2, d3', h⟩ := bind_l h
  replace d3' := f63_ok d3'
  obtain ⟨c4', h⟩ := ite_l h
  obtain ⟨c5', h⟩ := ite_l h
  have c5'l := lit_get e_i64 ([(IntKind.i64.wrap (a1_0 - 1)), (IntKind.i64.wrap (a2_0 + 1)), (-9223372036854775808), 9223372036854775807] : List Int) t2.1
  simp only [List.map_cons, List.map_nil, e_i64] at c5'l
  obtain rfl := Option.some.inj h
  simp [C0, c57, c56, c63, c98, Try.f57, d1', c2', d3', c4', c5', c5'l]
 ·
  obtain ⟨t3, d6', h⟩ := bind_l h
  replace d6' := f98_ok d6'
  obtain rfl := Option.some.inj h
  simp [C0, c57, c56, c63, c98, Try.f57, d1', c2', d6']
theorem ok20 : okCode (C0 20) Try.f20.body.get! = true := by kernel_rfl
theorem f20_ok {k : Nat} {a0_0 : List Int} {r : (List S80) × (List S80) × (List S73) × (List Int) × Int} (h : f20 k a0_0 = some r) : callT Try.prog C0 P0 20 [T.sl (List.map e_u8 a0_0) []] [] = some (T.tup [T.agg [T.sl (List.map e80 r.1) [], T.sl (List.map e80 r.2.1) [], T.sl (List.map e73 r.2.2.1) []], T.sl (List.map e_i64 r.2.2.2.1) [], T.sc (.int .i64 r.2.2.2.2)], []) := by
 rw [callK_eq rfl Try.func20 rfl ok20]
 unfold f20 at h
 obtain ⟨t1, d1', h⟩ := bind_l h
 replace d1' := f54_ok d1'
 obtain ⟨t2, d2', h⟩ := bind_l h
 replace d2' := f55_ok d2'
 simp [C0, c20, c54, c55, c56, c57, Try.f20, d1', d2']
 refine loop_ind (α := (List Int) × Int × (List Int) × Int × (List S80) × (List S80) × (List S73)) k (fun x s => normR [(2, 0), (5, 0), (6, 0), (7, 0), (8, 0)] s = stf20_5 x.1 x.2.1 x.2.2.1 x.2.2.2.1 x.2.2.2.2.1 x.2.2.2.2.2.1 x.2.2.2.2.2.2) (fun k x => f20.l5 k x.1 x.2.1 x.2.2.1 x.2.2.2.1 x.2.2.2.2.1 x.2.2.2.2.2.1 x.2.2.2.2.2.2) (fun r => (some (T.tup [T.agg [T.sl (List.map e80 r.1) [], T.sl (List.map e80 r.2.1) [], T.sl (List.map e73 r.2.2.1) []], T.sl (List.map e_i64 r.2.2.2.1) [], T.sc (.int .i64 r.2.2.2.2)], []) : Option (T × List Ob))) (fun x => by simp only [f20.l5]) _ ?_ (([] : List Int), 0, t2.2.2.2.1, t2.2.2.2.2, t2.1, t2.2.1, t2.2.2.1) _ ?_ h
 · rintro n3' ⟨q3, x8, b1_0, b1_1, b2_0, b2_1, b2_2⟩ s hn3' hs3' h ih5
   simp only [f20.l5] at h
   simp only [stf20_5] at hs3'
   rcases ite_some h with ⟨c4', h⟩ | ⟨c4', h⟩
   ·
    obtain ⟨t3, d5', h⟩ := bind_l h
    replace d5' := f56_ok d5'
    rcases ite_some h with ⟨c6', h⟩ | ⟨c6', h⟩
    ·
     obtain ⟨c7', h⟩ := ite_l h
     obtain ⟨c8', h⟩ := ite_l h
     simp [C0, c20, c54, c55, c56, c57, Try.f20, d1', d2', hs3', c4', d5', c6', c7', c8']
     refine ih5 _ ((q3 ++ ([x8] : List Int)), (IntKind.i64.wrap (x8 + 1)), b1_0, t3.2, b2_0, b2_1, b2_2) _ (by omega) ?_ h
     simp [stf20_5, d1', d2', hs3', c4', d5', c6', c7', c8']
    ·
     simp [C0, c20, c54, c55, c56, c57, Try.f20, d1', d2', hs3', c4', d5', c6']
     refine ih5 _ (q3, (IntKind.i64.wrap (x8 + 1)), b1_0, t3.2, b2_0, b2_1, b2_2) _ (by omega) ?_ h
     simp [stf20_5, d1', d2', hs3', c4', d5', c6']
   ·
    obtain ⟨t4, d9', h⟩ := bind_l h
    replace d9' := f56_ok d9'
    rcases ite_some h with ⟨c10', h⟩ | ⟨c10', h⟩
    ·
     obtain ⟨t5, d11', h⟩ := bind_l h
     replace d11' := f57_ok d11'
     obtain ⟨c12', h⟩ := ite_l h
     obtain ⟨c13', h⟩ := ite_l h
     obtain ⟨t6, d14', h⟩ := bind_l h
     replace d14' := f57_ok d14'
     obtain rfl := Option.some.inj h
     simp [C0, c20, c54, c55, c56, c57, Try.f20, d1', d2', hs3', c4', d9', c10', d11', c12', c13', d14']
    ·
     obtain ⟨t7, d15', h⟩ := bind_l h
     replace d15' := f57_ok d15'
     obtain rfl := Option.some.inj h
     simp [C0, c20, c54, c55, c56, c57, Try.f20, d1', d2', hs3', c4', d9', c10', d15']
 · simp [stf20_5, d1', d2']
theorem ok23 : okCode (C0 23) Try.f23.body.get! = true := by kernel_rfl
theorem f23_ok {k : Nat} {a0_0 : List S80} {a1_0 : List S80} {r : Bool} (h : f23 k a0_0 a1_0 = some r) : callT Try.prog C0 P0 23 [T.sl (List.map e80 a0_0) [], T.sl (List.map e80 a1_0) []] [] = some (T.sc (.bool r), []) := by
 rw [callK_eq rfl Try.func23 rfl ok23]
 unfold f23 at h
 rcases ite_some h with ⟨c1', h⟩ | ⟨c1', h⟩
 ·
  simp [C0, c23, Try.f23, eq_true c1']
  refine loop_ind (α := (List S80) × (List S80) × Int) k (fun x s => normR [(0, 0), (1, 0), (5, 0)] s = stf23_4 x.1 x.2.1 x.2.2) (fun k x => f23.l4 k x.1 x.2.1 x.2.2) (fun r => (some (T.sc (.bool r), []) : Option (T × List Ob))) (fun x => by simp only [f23.l4]) _ ?_ (a0_0, a1_0, 0) _ ?_ h
  · rintro n2' ⟨x0, x1, x5⟩ s hn2' hs2' h ih4
    simp only [f23.l4] at h
    simp only [stf23_4] at hs2'
    rcases ite_some h with ⟨c3', h⟩ | ⟨c3', h⟩
    ·
     obtain ⟨c4', h⟩ := ite_l h
     obtain ⟨c5', h⟩ := ite_l h
     rcases ite_some h with ⟨c6', h⟩ | ⟨c6', h⟩
     ·
      simp [C0, c23, Try.f23, eq_true c1', hs2', c3', c4', c5', c6']
      refine ih4 _ (x0, x1, (IntKind.i64.wrap (x5 + 1))) _ (by omega) ?_ h
      simp [stf23_4, eq_true c1', hs2', c3', c4', c5', c6']
     ·
      obtain rfl := Option.some.inj h
      simp [C0, c23, Try.f23, eq_true c1', hs2', c3', c4', c5', c6']
    ·
     obtain rfl := Option.some.inj h
     simp [C0, c23, Try.f23, eq_true c1', hs2', c3']
  · simp [stf23_4, eq_true c1']
 ·
  obtain rfl := Option.some.inj h
  simp [C0, c23, Try.f23, c1']
end Go.Proofs.Ytfjoamlgbegpgaa.P
