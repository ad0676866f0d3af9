/- Part of proofs of this seat: no statement of its own. -/
import Derived.Test.YtfjoamlgbegpgaaDB
import Derived.Test.YtfjoamlgbegpgaaDF0
import Derived.Test.YtfjoamlgbegpgaaDF1
set_option linter.unusedVariables false
set_option linter.unusedSimpArgs false
namespace Go.Proofs.Ytfjoamlgbegpgaa.P
open Go Go.Proofs.Ytfjoamlgbegpgaa.PM Go.Proofs
attribute [local simp] execK_seq execK_region execK_ret execK_skip execK_exit execK_block execK_cond condK_bool seqK_normal seqK_ret seqK_exit blockK_normal blockK_ret blockK_exit giveK_normal giveK_ret regionK clearK_none clearK_some normR_mk normR_def freshR fresh1 nextK_normal nextK_ret nextK_exit
  regionR runOps stepR wantR opR evalT lift lift1 Rd.run Rd.run_bind wrOk putT putAll putIn lookIn guardR Rd.ofOption obj buildSliceR mapR close close1 view1 plainB T.width T.cells room appendR strR newsR elemsR setAll most Ob.kill Ob.gone pure findK FCert.predsOf logsR Log.bare meets
  loadR storeR takeCells closeIf cellT splice T.withCells buildR fillR chk undT giveR resR outAll outOne outCell outCells outMany reachN refs refs1 posIn srcN validB mapV mapA mapC mapOb pickTmps lenR sliceR bound hiB loB makeSliceR copyR
  ev_add ev_sub ev_mul ev_quo ev_rem ev_sadd ev_eql ev_neq ev_lss ev_leq ev_gtr ev_geq ev_seql ev_sneq ev_slss ev_sleq ev_sgtr ev_sgeq ev_not ev_neg ev_unxor ev_conv scOf bsize_mk bytesOf bytesOf_map bytesOf_append eqSc eqFs strOf ev_min ev_and ev_or ev_xor ev_andNot ev_shl ev_shr indexAddrR intOf callR passAll passT pass1 reach passOb backN backS noSrc flatL verOf at_map byteAt_eq wid_append wid_nil wid_cons List.take_of_length_le wStr w_i64 w_u8 eStr eBool e_i64 e_u8 List.range_succ bytesL
  sz2 ag2 by2 ze2 sz3 ag3 by3 ze3 sz4 ag4 by4 ze4 sz5 ag5 by5 ze5 sz9 ag9 by9 ze9 sz22 ag22 by22 ze22 el22 sz23 ag23 by23 ze23 el23 sz25 ag25 by25 ze25 fs25 sz28 ag28 by28 ze28 el28 sz29 ag29 by29 ze29 el29 sz31 ag31 by31 ze31 fs31 sz38 ag38 by38 ze38 el38 sz40 ag40 by40 ze40 el40 sz51 ag51 by51 ze51 sz58 ag58 by58 ze58 el58 sz60 ag60 by60 ze60 fs60 sz73 ag73 by73 ze73 fs73 sz80 ag80 by80 ze80 fs80 sz81 ag81 by81 sz89 ag89 by89 ze89 el89 sz104 ag104 by104 ze104 fs104 sz106 ag106 by106 ze106 fs106 sz108 ag108 by108 ze108 fs108 sz120 ag120 by120 ze120 fs120 sz128 ag128 by128 ze128 el128 sz136 ag136 by136 ze136 fs136 sz141 ag141 by141 ze141 fs141 sz143 ag143 by143 ze143 sz145 ag145 by145 ze145 ck2 ck3 ck4 ck9 ck28 ck29 ck31 ck38 ck40 ck58 ck60 ck73 ck80 ck81 ck104 ck128 ck136 ck143 ck145 eq80 ft25_0 ft25_1 ft25_2 ft31_0 ft31_1 ft31_2 ft60_0 ft60_1 ft60_2 ft73_0 ft73_1 ft73_2 ft73_3 ft80_0 ft80_1 ft104_0 ft104_1 ft106_0 ft106_1 ft108_0 ft108_1 ft108_2 ft108_3 ft120_0 ft120_1 ft136_0 ft136_1 ft136_2 Try.underlying2 Try.underlying3 Try.underlying4 Try.underlying5 Try.underlying9 Try.underlying22 Try.underlying23 Try.underlying28 Try.underlying29 Try.underlying38 Try.underlying40 Try.underlying51 Try.underlying58 Try.underlying128 Try.underlying143 Try.underlying145 w73 w80 w104 w106 w108 w136 e73 e80 e104 e106 e108 e136
attribute [local simp] get_Int get_Str get_Bool get_byte g73 g80 g104 g106 g108 g136
set_option maxRecDepth 100000
set_option maxHeartbeats 4000000
theorem ok44 : okCode (C0 44) Try.f44.body.get! = true := by kernel_rfl
theorem f44_ok {k : Nat} {a0_0 : List S80} {a1_0 : Int} {a1_1 : ByteArray} {a1_2 : ByteArray} {a1_3 : ByteArray} {r : Bool × (List S80)} (h : f44 k a0_0 a1_0 a1_1 a1_2 a1_3 = some r) : callT Try.prog C0 P0 44 [T.sl (List.map e80 a0_0) [], T.agg [T.sc (.int .i64 a1_0), T.sc (.string a1_1), T.sc (.string a1_2), T.sc (.string a1_3)]] [] = some (T.tup [T.win 0 0 r.2.length, T.sc (.bool r.1)], [Ob.mkRow 2 (List.map e80 r.2)]) := by
 rw [callK_eq rfl Try.func44 rfl ok44]
 unfold f44 at h
 obtain ⟨t1, d1', h⟩ := bind_l h
 replace d1' := f52_ok d1'
 rcases ite_some h with ⟨c2', h⟩ | ⟨c2', h⟩
 ·
  rcases ite_some h with ⟨c3', h⟩ | ⟨c3', h⟩
  ·
   obtain ⟨c4', h⟩ := ite_l h
   obtain ⟨c5', h⟩ := ite_l h
   obtain ⟨t2, d6', h⟩ := bind_l h
   replace d6' := f85_ok d6'
   obtain rfl := Option.some.inj h
   simp [C0, c44, c52, c85, c86, Try.f44, d1', eq_true c2', c3', c4', c5', d6']
  ·
   obtain ⟨t3, d7', h⟩ := bind_l h
   replace d7' := f85_ok d7'
   obtain rfl := Option.some.inj h
   simp [C0, c44, c52, c85, c86, Try.f44, d1', eq_true c2', c3', d7']
 ·
  rcases ite_some h with ⟨c8', h⟩ | ⟨c8', h⟩
  ·
   obtain ⟨c9', h⟩ := ite_l h
   obtain ⟨c10', h⟩ := ite_l h
   obtain rfl := Option.some.inj h
   simp [C0, c44, c52, c85, c86, Try.f44, d1', c2', c8', c9', c10']
  ·
   obtain ⟨t4, d11', h⟩ := bind_l h
   replace d11' := f86_ok d11'
   rcases ite_some h with ⟨c12', h⟩ | ⟨c12', h⟩
   ·
    obtain ⟨c13', h⟩ := ite_l h
    obtain ⟨c14', h⟩ := ite_l h
    obtain ⟨t5, d15', h⟩ := bind_l h
    replace d15' := f85_ok d15'
    obtain rfl := Option.some.inj h
    simp [C0, c44, c52, c85, c86, Try.f44, d1', c2', c8', d11', eq_true c12', c13', c14', d15']
   ·
    obtain rfl := Option.some.inj h
    simp [C0, c44, c52, c85, c86, Try.f44, d1', c2', c8', d11', c12']
theorem ok45 : okCode (C0 45) Try.f45.body.get! = true := by kernel_rfl
theorem f45_ok {k : Nat} {a0_0 : Int} {a0_1 : ByteArray} {a0_2 : ByteArray} {a0_3 : ByteArray} {r : Bool} (h : f45 k a0_0 a0_1 a0_2 a0_3 = some r) : callT Try.prog C0 P0 45 [T.agg [T.sc (.int .i64 a0_0), T.sc (.string a0_1), T.sc (.string a0_2), T.sc (.string a0_3)]] [] = some (T.sc (.bool r), []) := by
 rw [callK_eq rfl Try.func45 rfl ok45]
 unfold f45 at h
 obtain ⟨t1, d1', h⟩ := bind_l h
 replace d1' := f58_ok d1'
 rcases ite_some h with ⟨c2', h⟩ | ⟨c2', h⟩
 ·
  obtain ⟨t2, d3', h⟩ := bind_l h
  replace d3' := f84_ok d3'
  rcases ite_some h with ⟨c4', h⟩ | ⟨c4', h⟩
  ·
   rcases ite_some h with ⟨c5', h⟩ | ⟨c5', h⟩
   ·
    obtain ⟨t3, d6', h⟩ := bind_l h
    replace d6' := f84_ok d6'
    rcases ite_some h with ⟨c7', h⟩ | ⟨c7', h⟩
    ·
     obtain rfl := Option.some.inj h
     simp [C0, c45, c58, c84, Try.f45, d1', c2', d3', c4', eq_true c5', d6', c7']
    ·
     obtain rfl := Option.some.inj h
     simp [C0, c45, c58, c84, Try.f45, d1', c2', d3', c4', eq_true c5', d6', c7']
   ·
    rcases ite_some h with ⟨c8', h⟩ | ⟨c8', h⟩
    ·
     rcases ite_some h with ⟨c9', h⟩ | ⟨c9', h⟩
     ·
      obtain rfl := Option.some.inj h
      simp [C0, c45, c58, c84, Try.f45, d1', c2', d3', c4', c5', c8', eq_true c9']
     ·
      obtain rfl := Option.some.inj h
      simp [C0, c45, c58, c84, Try.f45, d1', c2', d3', c4', c5', c8', c9']
    ·
     obtain rfl := Option.some.inj h
     simp [C0, c45, c58, c84, Try.f45, d1', c2', d3', c4', c5', c8']
  ·
   obtain rfl := Option.some.inj h
   simp [C0, c45, c58, c84, Try.f45, d1', c2', d3', c4']
 ·
  obtain rfl := Option.some.inj h
  simp [C0, c45, c58, c84, Try.f45, d1', c2']
theorem ok93 : okCode (C0 93) Try.f93.body.get! = true := by kernel_rfl
theorem f93_ok {k : Nat} {a0_0 : List S80} {o0_0 : ByteArray} {r : Int × ByteArray} (h : f93 k a0_0 o0_0 = some r) : callT Try.prog C0 P0 93 [T.sl (List.map e80 a0_0) [], T.fn 94 [T.ptr 0 0 0]] [Ob.mkBox 1 (T.sc (.string o0_0))] = some (T.sc (.int .i64 r.1), [Ob.mkBox 1 (T.sc (.string r.2))]) := by
 rw [callK_eq rfl Try.func93 rfl ok93]
 unfold f93 at h
 simp [C0, c93, c94, Try.f93]
 refine loop_ind (α := (List S80) × Int × Int × ByteArray) k (fun x s => normR [(0, 0), (1, 0), (7, 0), (8, 0)] s = stf93_2 x.1 x.2.1 x.2.2.1 x.2.2.2) (fun k x => f93.l2 k x.1 x.2.1 x.2.2.1 x.2.2.2) (fun r => (some (T.sc (.int .i64 r.1), [Ob.mkBox 1 (T.sc (.string r.2))]) : Option (T × List Ob))) (fun x => by simp only [f93.l2]) _ ?_ (a0_0, (a0_0.length : Int), 0, o0_0) _ ?_ h
 · rintro n1' ⟨x0, x7, x8, b0_0⟩ s hn1' hs1' h ih2
   simp only [f93.l2] at h
   simp only [stf93_2] at hs1'
   rcases ite_some h with ⟨c2', h⟩ | ⟨c2', h⟩
   ·
    obtain ⟨c3', h⟩ := ite_l h
    obtain ⟨c4', h⟩ := ite_l h
    obtain ⟨t1, d5', h⟩ := bind_l h
    replace d5' := f94_ok d5'
    rcases ite_some h with ⟨c6', h⟩ | ⟨c6', h⟩
    ·
     obtain rfl := Option.some.inj h
     simp [C0, c93, c94, Try.f93, hs1', c2', c3', c4', d5', c6']
    ·
     simp [C0, c93, c94, Try.f93, hs1', c2', c3', c4', d5', c6']
     refine ih2 _ (x0, x7, (IntKind.i64.wrap (x8 + 1)), b0_0) _ (by omega) ?_ h
     simp [stf93_2, hs1', c2', c3', c4', d5', c6']
   ·
    obtain rfl := Option.some.inj h
    simp [C0, c93, c94, Try.f93, hs1', c2']
 · simp [stf93_2]
theorem ok53 : okCode (C0 53) Try.f53.body.get! = true := by kernel_rfl
theorem f53_ok {k : Nat} {a0_0 : List S80} {a1_0 : ByteArray} {r : Int} (h : f53 k a0_0 a1_0 = some r) : callT Try.prog C0 P0 53 [T.sl (List.map e80 a0_0) [], T.sc (.string a1_0)] [] = some (T.sc (.int .i64 r), []) := by
 rw [callK_eq rfl Try.func53 rfl ok53]
 unfold f53 at h
 obtain ⟨t1, d1', h⟩ := bind_l h
 replace d1' := f93_ok d1'
 obtain rfl := Option.some.inj h
 simp [C0, c53, c93, Try.f53, d1']
theorem ok119 : okCode (C0 119) Try.f119.body.get! = true := by kernel_rfl
theorem f119_ok {k : Nat} {a0_0 : ByteArray} {a0_1 : ByteArray} {a1_0 : ByteArray} {r : Int} (h : f119 k a0_0 a0_1 a1_0 = some r) : callT Try.prog C0 P0 119 [T.agg [T.sc (.string a0_0), T.sc (.string a0_1)], T.sc (.string a1_0)] [] = some (T.sc (.int .i64 r), []) := by
 rw [callK_eq rfl Try.func119 rfl ok119]
 unfold f119 at h
 obtain ⟨t1, d1', h⟩ := bind_l h
 replace d1' := f120_ok d1'
 obtain rfl := Option.some.inj h
 simp [C0, c119, c120, Try.f119, d1']
theorem ok62 : okCode (C0 62) Try.f62.body.get! = true := by kernel_rfl
theorem f62_ok {k : Nat} {a0_0 : List S80} {r : Bool} (h : f62 k a0_0 = some r) : callT Try.prog C0 P0 62 [T.sl (List.map e80 a0_0) []] [] = some (T.sc (.bool r), []) := by
 rw [callK_eq rfl Try.func62 rfl ok62]
 unfold f62 at h
 simp [C0, c62, c101, Try.f62]
 refine loop_ind (α := (List S80) × Int × (List S80) × Int × Int) k (fun x s => normR [(0, 0), (3, 0), (6, 0), (7, 0), (8, 0)] s = stf62_3 x.1 x.2.1 x.2.2.1 x.2.2.2.1 x.2.2.2.2) (fun k x => f62.l3 k x.1 x.2.1 x.2.2.1 x.2.2.2.1 x.2.2.2.2) (fun r => (some (T.sc (.bool r), []) : Option (T × List Ob))) (fun x => by simp only [f62.l3]) _ ?_ (a0_0, 0, a0_0, (a0_0.length : Int), 0) _ ?_ h
 · rintro n1' ⟨x0, x3, x6, x7, x8⟩ s hn1' hs1' h ih3
   simp only [f62.l3] at h
   simp only [stf62_3] at hs1'
   rcases ite_some h with ⟨c2', h⟩ | ⟨c2', h⟩
   ·
    obtain ⟨c3', h⟩ := ite_l h
    obtain ⟨c4', h⟩ := ite_l h
    obtain ⟨t1, d5', h⟩ := bind_l h
    replace d5' := f101_ok d5'
    rcases ite_some h with ⟨c6', h⟩ | ⟨c6', h⟩
    ·
     rcases ite_some h with ⟨c7', h⟩ | ⟨c7', h⟩
     ·
      obtain rfl := Option.some.inj h
      simp [C0, c62, c101, Try.f62, hs1', c2', c3', c4', d5', c6', c7']
     ·
      rcases ite_some h with ⟨c8', h⟩ | ⟨c8', h⟩
      ·
       obtain ⟨c9', h⟩ := ite_l h
       obtain ⟨c10', h⟩ := ite_l h
       rcases ite_some h with ⟨c11', h⟩ | ⟨c11', h⟩
       ·
        simp [C0, c62, c101, Try.f62, hs1', c2', c3', c4', d5', c6', c7', c8', c9', c10', c11']
        refine ih3 _ (x0, (IntKind.i64.wrap (x3 + (((at' x6 x8).f1).size : Int))), x6, x7, (IntKind.i64.wrap (x8 + 1))) _ (by omega) ?_ h
        simp [stf62_3, hs1', c2', c3', c4', d5', c6', c7', c8', c9', c10', c11']
       ·
        obtain rfl := Option.some.inj h
        simp [C0, c62, c101, Try.f62, hs1', c2', c3', c4', d5', c6', c7', c8', c9', c10', c11']
      ·
       simp [C0, c62, c101, Try.f62, hs1', c2', c3', c4', d5', c6', c7', c8']
       refine ih3 _ (x0, (IntKind.i64.wrap (x3 + (((at' x6 x8).f1).size : Int))), x6, x7, (IntKind.i64.wrap (x8 + 1))) _ (by omega) ?_ h
       simp [stf62_3, hs1', c2', c3', c4', d5', c6', c7', c8']
    ·
     obtain rfl := Option.some.inj h
     simp [C0, c62, c101, Try.f62, hs1', c2', c3', c4', d5', c6']
   ·
    obtain rfl := Option.some.inj h
    simp [C0, c62, c101, Try.f62, hs1', c2']
 · simp [stf62_3]
end Go.Proofs.Ytfjoamlgbegpgaa.P
