/- Part of proofs of this seat: no statement of its own. -/
import Derived.Test.YtfjoamlgbegpgaaDB
import Derived.Test.YtfjoamlgbegpgaaDF0
set_option linter.unusedVariables false
set_option linter.unusedSimpArgs false
namespace Go.Proofs.Ytfjoamlgbegpgaa.P
open Go Go.Proofs.Ytfjoamlgbegpgaa.PM Go.Proofs
attribute [local simp] execK_seq execK_region execK_ret execK_skip execK_exit execK_block execK_cond condK_bool seqK_normal seqK_ret seqK_exit blockK_normal blockK_ret blockK_exit giveK_normal giveK_ret regionK clearK_none clearK_some normR_mk normR_def freshR fresh1 nextK_normal nextK_ret nextK_exit
  regionR runOps stepR wantR opR evalT lift lift1 Rd.run Rd.run_bind wrOk putT putAll putIn lookIn guardR Rd.ofOption obj buildSliceR mapR close close1 view1 plainB T.width T.cells room appendR strR newsR elemsR setAll most Ob.kill Ob.gone pure findK FCert.predsOf logsR Log.bare meets
  loadR storeR takeCells closeIf cellT splice T.withCells buildR fillR chk undT giveR resR outAll outOne outCell outCells outMany reachN refs refs1 posIn srcN validB mapV mapA mapC mapOb pickTmps lenR sliceR bound hiB loB makeSliceR copyR
  ev_add ev_sub ev_mul ev_quo ev_rem ev_sadd ev_eql ev_neq ev_lss ev_leq ev_gtr ev_geq ev_seql ev_sneq ev_slss ev_sleq ev_sgtr ev_sgeq ev_not ev_neg ev_unxor ev_conv scOf bsize_mk bytesOf bytesOf_map bytesOf_append eqSc eqFs strOf ev_min ev_and ev_or ev_xor ev_andNot ev_shl ev_shr indexAddrR intOf callR passAll passT pass1 reach passOb backN backS noSrc flatL verOf at_map byteAt_eq wid_append wid_nil wid_cons List.take_of_length_le wStr w_i64 w_u8 eStr eBool e_i64 e_u8 List.range_succ bytesL
  sz2 ag2 by2 ze2 sz3 ag3 by3 ze3 sz4 ag4 by4 ze4 sz5 ag5 by5 ze5 sz9 ag9 by9 ze9 sz22 ag22 by22 ze22 el22 sz23 ag23 by23 ze23 el23 sz25 ag25 by25 ze25 fs25 sz28 ag28 by28 ze28 el28 sz29 ag29 by29 ze29 el29 sz31 ag31 by31 ze31 fs31 sz38 ag38 by38 ze38 el38 sz40 ag40 by40 ze40 el40 sz51 ag51 by51 ze51 sz58 ag58 by58 ze58 el58 sz60 ag60 by60 ze60 fs60 sz73 ag73 by73 ze73 fs73 sz80 ag80 by80 ze80 fs80 sz81 ag81 by81 sz89 ag89 by89 ze89 el89 sz104 ag104 by104 ze104 fs104 sz106 ag106 by106 ze106 fs106 sz108 ag108 by108 ze108 fs108 sz120 ag120 by120 ze120 fs120 sz128 ag128 by128 ze128 el128 sz136 ag136 by136 ze136 fs136 sz141 ag141 by141 ze141 fs141 sz143 ag143 by143 ze143 sz145 ag145 by145 ze145 ck2 ck3 ck4 ck9 ck28 ck29 ck31 ck38 ck40 ck58 ck60 ck73 ck80 ck81 ck104 ck128 ck136 ck143 ck145 eq80 ft25_0 ft25_1 ft25_2 ft31_0 ft31_1 ft31_2 ft60_0 ft60_1 ft60_2 ft73_0 ft73_1 ft73_2 ft73_3 ft80_0 ft80_1 ft104_0 ft104_1 ft106_0 ft106_1 ft108_0 ft108_1 ft108_2 ft108_3 ft120_0 ft120_1 ft136_0 ft136_1 ft136_2 Try.underlying2 Try.underlying3 Try.underlying4 Try.underlying5 Try.underlying9 Try.underlying22 Try.underlying23 Try.underlying28 Try.underlying29 Try.underlying38 Try.underlying40 Try.underlying51 Try.underlying58 Try.underlying128 Try.underlying143 Try.underlying145 w73 w80 w104 w106 w108 w136 e73 e80 e104 e106 e108 e136
attribute [local simp] get_Int get_Str get_Bool get_byte g73 g80 g104 g106 g108 g136
set_option maxRecDepth 100000
set_option maxHeartbeats 4000000
theorem ok43 : okCode (C0 43) Try.f43.body.get! = true := by kernel_rfl
theorem f43_ok {k : Nat} {a0_0 : List S80} {r : Bool} (h : f43 k a0_0 = some r) : callT Try.prog C0 P0 43 [T.sl (List.map e80 a0_0) []] [] = some (T.sc (.bool r), []) := by
 rw [callK_eq rfl Try.func43 rfl ok43]
 unfold f43 at h
 rcases ite_some h with ⟨c1', h⟩ | ⟨c1', h⟩
 ·
  obtain rfl := Option.some.inj h
  simp [C0, c43, c84, Try.f43, c1']
 ·
  simp [C0, c43, c84, Try.f43, c1']
  refine loop_ind (α := (List S80) × Int × Int) k (fun x s => normR [(0, 0), (3, 0), (4, 0)] s = stf43_5 x.1 x.2.1 x.2.2) (fun k x => f43.l5 k x.1 x.2.1 x.2.2) (fun r => (some (T.sc (.bool r), []) : Option (T × List Ob))) (fun x => by simp only [f43.l5]) _ ?_ (a0_0, 0, 0) _ ?_ h
  · rintro n2' ⟨x0, x3, x4⟩ s hn2' hs2' h ih5
    simp only [f43.l5] at h
    simp only [stf43_5] at hs2'
    rcases ite_some h with ⟨c3', h⟩ | ⟨c3', h⟩
    ·
     obtain ⟨c4', h⟩ := ite_l h
     obtain ⟨t1, d5', h⟩ := bind_l h
     replace d5' := f84_ok d5'
     rcases ite_some h with ⟨c6', h⟩ | ⟨c6', h⟩
     ·
      rcases ite_some h with ⟨c7', h⟩ | ⟨c7', h⟩
      ·
       obtain ⟨c8', h⟩ := ite_l h
       obtain ⟨c9', h⟩ := ite_l h
       rcases ite_some h with ⟨c10', h⟩ | ⟨c10', h⟩
       ·
        obtain rfl := Option.some.inj h
        simp [C0, c43, c84, Try.f43, c1', hs2', c3', c4', d5', c6', c7', c8', c9', c10']
       ·
        simp [C0, c43, c84, Try.f43, c1', hs2', c3', c4', d5', c6', c7', c8', c9', c10']
        refine ih5 _ (x0, (IntKind.i64.wrap (x3 + (((at' x0 x4).f1).size : Int))), (IntKind.i64.wrap (x4 + 1))) _ (by omega) ?_ h
        simp [stf43_5, c1', hs2', c3', c4', d5', c6', c7', c8', c9', c10']
      ·
       simp [C0, c43, c84, Try.f43, c1', hs2', c3', c4', d5', c6', c7']
       refine ih5 _ (x0, (IntKind.i64.wrap (x3 + (((at' x0 x4).f1).size : Int))), (IntKind.i64.wrap (x4 + 1))) _ (by omega) ?_ h
       simp [stf43_5, c1', hs2', c3', c4', d5', c6', c7']
     ·
      obtain rfl := Option.some.inj h
      simp [C0, c43, c84, Try.f43, c1', hs2', c3', c4', d5', c6']
    ·
     obtain rfl := Option.some.inj h
     simp [C0, c43, c84, Try.f43, c1', hs2', c3']
  · simp [stf43_5, c1']
theorem ok46 : okCode (C0 46) Try.f46.body.get! = true := by kernel_rfl
theorem f46_ok {k : Nat} {a0_0 : List S80} {a1_0 : List S80} {r : Bool} (h : f46 k a0_0 a1_0 = some r) : callT Try.prog C0 P0 46 [T.sl (List.map e80 a0_0) [], T.sl (List.map e80 a1_0) []] [] = some (T.sc (.bool r), []) := by
 rw [callK_eq rfl Try.func46 rfl ok46]
 unfold f46 at h
 rcases ite_some h with ⟨c1', h⟩ | ⟨c1', h⟩
 ·
  simp [C0, c46, Try.f46, eq_true c1']
  refine loop_ind (α := (List S80) × (List S80) × Int) k (fun x s => normR [(0, 0), (1, 0), (5, 0)] s = stf46_4 x.1 x.2.1 x.2.2) (fun k x => f46.l4 k x.1 x.2.1 x.2.2) (fun r => (some (T.sc (.bool r), []) : Option (T × List Ob))) (fun x => by simp only [f46.l4]) _ ?_ (a0_0, a1_0, 0) _ ?_ h
  · rintro n2' ⟨x0, x1, x5⟩ s hn2' hs2' h ih4
    simp only [f46.l4] at h
    simp only [stf46_4] at hs2'
    rcases ite_some h with ⟨c3', h⟩ | ⟨c3', h⟩
    ·
     obtain ⟨c4', h⟩ := ite_l h
     obtain ⟨c5', h⟩ := ite_l h
     rcases ite_some h with ⟨c6', h⟩ | ⟨c6', h⟩
     ·
      simp [C0, c46, Try.f46, eq_true c1', hs2', c3', c4', c5', c6']
      refine ih4 _ (x0, x1, (IntKind.i64.wrap (x5 + 1))) _ (by omega) ?_ h
      simp [stf46_4, eq_true c1', hs2', c3', c4', c5', c6']
     ·
      obtain rfl := Option.some.inj h
      simp [C0, c46, Try.f46, eq_true c1', hs2', c3', c4', c5', c6']
    ·
     obtain rfl := Option.some.inj h
     simp [C0, c46, Try.f46, eq_true c1', hs2', c3']
  · simp [stf46_4, eq_true c1']
 ·
  obtain rfl := Option.some.inj h
  simp [C0, c46, Try.f46, c1']
theorem ok94 : okCode (C0 94) Try.f94.body.get! = true := by kernel_rfl
theorem f94_ok {k : Nat} {a0_0 : ByteArray} {a0_1 : ByteArray} {o0_0 : ByteArray} {r : Bool} (h : f94 k a0_0 a0_1 o0_0 = some r) : callT Try.prog C0 P0 94 [T.agg [T.sc (.string a0_0), T.sc (.string a0_1)], T.ptr 0 0 0] [Ob.mkBox 1 (T.sc (.string o0_0))] = some (T.sc (.bool r), [Ob.mkBox 1 (T.sc (.string o0_0))]) := by
 rw [callK_eq rfl Try.func94 rfl ok94]
 unfold f94 at h
 obtain rfl := Option.some.inj h
 simp [C0, c94, Try.f94]
theorem f132_ok {k : Nat} {a0_0 : ByteArray} {a1_0 : ByteArray} {r : Int} (h : f132 k a0_0 a1_0 = some r) : callT Try.prog C0 P0 132 [T.sc (.string a0_0), T.sc (.string a1_0)] [] = some (T.sc (.int .i64 r), []) := by
 unfold f132 at h
 obtain rfl := Option.some.inj h
 exact callT_prim (d := cmpD) rfl rfl
theorem ok120 : okCode (C0 120) Try.f120.body.get! = true := by kernel_rfl
theorem f120_ok {k : Nat} {a0_0 : ByteArray} {a1_0 : ByteArray} {r : Int} (h : f120 k a0_0 a1_0 = some r) : callT Try.prog C0 P0 120 [T.sc (.string a0_0), T.sc (.string a1_0)] [] = some (T.sc (.int .i64 r), []) := by
 rw [callK_eq rfl Try.func120 rfl ok120]
 unfold f120 at h
 obtain ⟨t1, d1', h⟩ := bind_l h
 replace d1' := f132_ok d1'
 obtain rfl := Option.some.inj h
 simp [C0, c120, c132, Try.f120, d1']
theorem f121_ok {k : Nat} {a1_0 : Int} {o0 : List S80} {o1 : List S80} {r : (List S80)} (h : f121 k a1_0 o0 o1 = some r) : callT Try.prog C0 P0 121 [T.win 0 0 o0.length, T.sc (.int .i64 a1_0), T.win 1 0 o1.length] [Ob.mkRow 2 (List.map e80 o0), Ob.mkRow 2 (List.map e80 o1)] = some (T.win 2 0 r.length, [(⟨true, false, true, true, 0, 2, List.map e80 o0⟩ : Ob), Ob.mkRow 2 (List.map e80 o1), Ob.mkRow 2 (List.map e80 r)]) := by
 unfold f121 at h
 obtain ⟨⟨h0, h1, h2, h3, h4⟩, h⟩ := ite_l h
 obtain rfl := Option.some.inj h
 obtain ⟨y, rfl⟩ := List.length_eq_one_iff.1 h2
 refine callT_prim (d := insD 2 32) rfl ?_
 have hl : (o0.take a1_0.toNat ++ ([y] ++ o0.drop a1_0.toNat)).length = o0.length + 1 := by simp only [List.length_append, List.length_take, List.length_cons, List.length_nil, List.length_drop]; omega
 show insD 2 32 [.win 0 0 o0.length, .sc (.int .i64 a1_0), .win 1 0 1] [Ob.mkRow 2 (o0.map e80), Ob.mkRow 2 [e80 y]] = _
 rw [insD_eq, if_pos (by simp only [w80, beq_self_eq_true, Bool.true_and, List.length_map, Bool.and_eq_true, decide_eq_true_eq]; exact ⟨by simp [e80, T.width, T.cells], h0, by omega, by trivial, by unfold most; omega, by unfold most; omega⟩), hl]
 simp [Ob.mkRow]
theorem ok101 : okCode (C0 101) Try.f101.body.get! = true := by kernel_rfl
theorem f101_ok {k : Nat} {a0_0 : ByteArray} {r : Bool} (h : f101 k a0_0 = some r) : callT Try.prog C0 P0 101 [T.sc (.string a0_0)] [] = some (T.sc (.bool r), []) := by
 rw [callK_eq rfl Try.func101 rfl ok101]
 unfold f101 at h
 rcases ite_some h with ⟨c1', h⟩ | ⟨c1', h⟩
 ·
  obtain rfl := Option.some.inj h
  simp [C0, c101, Try.f101, c1']
 ·
  obtain rfl := Option.some.inj h
  simp [C0, c101, Try.f101, c1']
theorem ok90 : okCode (C0 90) Try.f90.body.get! = true := by kernel_rfl
theorem f90_ok {k : Nat} {a0_0 : List S80} {a1_0 : List S80} {r : Bool} (h : f90 k a0_0 a1_0 = some r) : callT Try.prog C0 P0 90 [T.sl (List.map e80 a0_0) [], T.sl (List.map e80 a1_0) []] [] = some (T.sc (.bool r), []) := by
 rw [callK_eq rfl Try.func90 rfl ok90]
 unfold f90 at h
 rcases ite_some h with ⟨c1', h⟩ | ⟨c1', h⟩
 ·
  simp [C0, c90, Try.f90, eq_true c1']
  refine loop_ind (α := (List S80) × (List S80) × Int × Int) k (fun x s => normR [(0, 0), (1, 0), (12, 0), (13, 0)] s = stf90_4 x.1 x.2.1 x.2.2.1 x.2.2.2) (fun k x => f90.l4 k x.1 x.2.1 x.2.2.1 x.2.2.2) (fun r => (some (T.sc (.bool r), []) : Option (T × List Ob))) (fun x => by simp only [f90.l4]) _ ?_ (a0_0, a1_0, (a0_0.length : Int), 0) _ ?_ h
  · rintro n2' ⟨x0, x1, x12, x13⟩ s hn2' hs2' h ih4
    simp only [f90.l4] at h
    simp only [stf90_4] at hs2'
    rcases ite_some h with ⟨c3', h⟩ | ⟨c3', h⟩
    ·
     obtain ⟨c4', h⟩ := ite_l h
     obtain ⟨c5', h⟩ := ite_l h
     obtain ⟨c6', h⟩ := ite_l h
     rcases ite_some h with ⟨c7', h⟩ | ⟨c7', h⟩
     ·
      simp [C0, c90, Try.f90, eq_true c1', hs2', c3', c4', c5', c6', c7']
      refine ih4 _ (x0, x1, x12, (IntKind.i64.wrap (x13 + 1))) _ (by omega) ?_ h
      simp [stf90_4, eq_true c1', hs2', c3', c4', c5', c6', c7']
     ·
      obtain rfl := Option.some.inj h
      simp [C0, c90, Try.f90, eq_true c1', hs2', c3', c4', c5', c6', c7']
    ·
     obtain rfl := Option.some.inj h
     simp [C0, c90, Try.f90, eq_true c1', hs2', c3']
  · simp [stf90_4, eq_true c1']
 ·
  obtain rfl := Option.some.inj h
  simp [C0, c90, Try.f90, c1']
theorem ok60 : okCode (C0 60) Try.f60.body.get! = true := by kernel_rfl
theorem f60_ok {k : Nat} {a0_0 : Int} {a1_0 : Int} {a2_0 : Int} {r : Bool} (h : f60 k a0_0 a1_0 a2_0 = some r) : callT Try.prog C0 P0 60 [T.sc (.int .i64 a0_0), T.sc (.int .i64 a1_0), T.sc (.int .i64 a2_0)] [] = some (T.sc (.bool r), []) := by
 rw [callK_eq rfl Try.func60 rfl ok60]
 unfold f60 at h
 rcases ite_some h with ⟨c1', h⟩ | ⟨c1', h⟩
 ·
  obtain rfl := Option.some.inj h
  simp [C0, c60, Try.f60, c1']
 ·
  obtain rfl := Option.some.inj h
  simp [C0, c60, Try.f60, c1']
end Go.Proofs.Ytfjoamlgbegpgaa.P
