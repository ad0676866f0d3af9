/- Part of the proof of FnExactCrash: no statement of its own. -/
import Derived.Test.YtfjoamlgbegpgaaCFnExactCrashB
import Derived.Test.YtfjoamlgbegpgaaCFnExactCrashF5
set_option linter.unusedVariables false
set_option linter.unusedSimpArgs false
namespace Go.Proofs.Ytfjoamlgbegpgaa.P
open Go Go.Proofs.Ytfjoamlgbegpgaa.PM Go.Proofs
attribute [local simp] execK_seq execK_region execK_ret execK_skip execK_exit execK_block execK_cond condK_bool seqK_normal seqK_ret seqK_exit blockK_normal blockK_ret blockK_exit giveK_normal giveK_ret regionK clearK_none clearK_some normR_mk normR_def freshR fresh1 nextK_normal nextK_ret nextK_exit
  regionR runOps stepR wantR opR evalT lift lift1 Rd.run Rd.run_bind wrOk putT putAll putIn lookIn guardR Rd.ofOption obj buildSliceR mapR close close1 view1 plainB T.width T.cells room appendR strR newsR elemsR setAll most Ob.kill Ob.gone pure findK FCert.predsOf logsR Log.bare meets
  loadR storeR takeCells closeIf cellT splice T.withCells buildR fillR chk undT giveR resR outAll outOne outCell outCells outMany reachN refs refs1 posIn srcN validB mapV mapA mapC mapOb pickTmps lenR sliceR bound hiB loB makeSliceR copyR
  ev_add ev_sub ev_mul ev_quo ev_rem ev_sadd ev_eql ev_neq ev_lss ev_leq ev_gtr ev_geq ev_seql ev_sneq ev_slss ev_sleq ev_sgtr ev_sgeq ev_not ev_neg ev_unxor ev_conv scOf bsize_mk bytesOf bytesOf_map bytesOf_append eqSc eqFs strOf ev_min ev_and ev_or ev_xor ev_andNot ev_shl ev_shr indexAddrR intOf callR passAll passT pass1 reach passOb backN backS noSrc flatL verOf at_map byteAt_eq wid_append wid_nil wid_cons List.take_of_length_le wStr w_i64 w_u8 eStr eBool e_i64 e_u8 List.range_succ bytesL
  sz2 ag2 by2 ze2 sz3 ag3 by3 ze3 sz4 ag4 by4 ze4 sz5 ag5 by5 ze5 sz9 ag9 by9 ze9 sz22 ag22 by22 ze22 el22 sz23 ag23 by23 ze23 el23 sz25 ag25 by25 ze25 fs25 sz28 ag28 by28 ze28 el28 sz29 ag29 by29 ze29 el29 sz31 ag31 by31 ze31 fs31 sz38 ag38 by38 ze38 el38 sz40 ag40 by40 ze40 el40 sz51 ag51 by51 ze51 sz73 ag73 by73 ze73 fs73 sz80 ag80 by80 ze80 fs80 sz81 ag81 by81 sz89 ag89 by89 ze89 el89 sz106 ag106 by106 ze106 fs106 sz108 ag108 by108 ze108 fs108 sz120 ag120 by120 ze120 fs120 sz145 ag145 by145 ze145 ck2 ck3 ck4 ck9 ck28 ck29 ck31 ck40 ck73 ck80 ck81 ck145 eq80 ft25_0 ft25_1 ft25_2 ft31_0 ft31_1 ft31_2 ft73_0 ft73_1 ft73_2 ft73_3 ft80_0 ft80_1 ft106_0 ft106_1 ft108_0 ft108_1 ft108_2 ft108_3 ft120_0 ft120_1 Try.underlying2 Try.underlying3 Try.underlying4 Try.underlying5 Try.underlying9 Try.underlying22 Try.underlying23 Try.underlying28 Try.underlying29 Try.underlying38 Try.underlying40 Try.underlying51 Try.underlying145 w73 w80 w106 w108 e73 e80 e106 e108
attribute [local simp] get_Int get_Str get_Bool get_byte g73 g80 g106 g108
set_option maxRecDepth 100000
set_option maxHeartbeats 4000000
theorem ok93 : okCode (C0 93) Try.f93.body.get! = true := by kernel_rfl
theorem f93_ok {k : Nat} {a0_0 : List S80} {o0_0 : ByteArray} {r : Int × ByteArray} (h : f93 k a0_0 o0_0 = some r) : callT Try.prog C0 P0 93 [T.sl (List.map e80 a0_0) [], T.fn 94 [T.ptr 0 0 0]] [Ob.mkBox 1 (T.sc (.string o0_0))] = some (T.sc (.int .i64 r.1), [Ob.mkBox 1 (T.sc (.string r.2))]) := by
 rw [callK_eq rfl Try.func93 rfl ok93]
 unfold f93 at h
 simp [C0, c93, c94, Try.f93]
 refine loop_ind (α := (List S80) × Int × Int × ByteArray) k (fun x s => normR [(0, 0), (1, 0), (7, 0), (8, 0)] s = stf93_2 x.1 x.2.1 x.2.2.1 x.2.2.2) (fun k x => f93.l2 k x.1 x.2.1 x.2.2.1 x.2.2.2) (fun r => (some (T.sc (.int .i64 r.1), [Ob.mkBox 1 (T.sc (.string r.2))]) : Option (T × List Ob))) (fun x => by simp only [f93.l2]) _ ?_ (a0_0, (a0_0.length : Int), 0, o0_0) _ ?_ h
 · rintro n1' ⟨x0, x7, x8, b0_0⟩ s hn1' hs1' h ih2
   simp only [f93.l2] at h
   simp only [stf93_2] at hs1'
   rcases ite_some h with ⟨c2', h⟩ | ⟨c2', h⟩
   ·
    obtain ⟨c3', h⟩ := ite_l h
    obtain ⟨c4', h⟩ := ite_l h
    obtain ⟨t1, d5', h⟩ := bind_l h
    replace d5' := f94_ok d5'
    rcases ite_some h with ⟨c6', h⟩ | ⟨c6', h⟩
    ·
     obtain rfl := Option.some.inj h
     simp [C0, c93, c94, Try.f93, hs1', c2', c3', c4', d5', c6']
    ·
     simp [C0, c93, c94, Try.f93, hs1', c2', c3', c4', d5', c6']
     refine ih2 _ (x0, x7, (IntKind.i64.wrap (x8 + 1)), b0_0) _ (by omega) ?_ h
     simp [stf93_2, hs1', c2', c3', c4', d5', c6']
   ·
    obtain rfl := Option.some.inj h
    simp [C0, c93, c94, Try.f93, hs1', c2']
 · simp [stf93_2]
theorem ok53 : okCode (C0 53) Try.f53.body.get! = true := by kernel_rfl
theorem f53_ok {k : Nat} {a0_0 : List S80} {a1_0 : ByteArray} {r : Int} (h : f53 k a0_0 a1_0 = some r) : callT Try.prog C0 P0 53 [T.sl (List.map e80 a0_0) [], T.sc (.string a1_0)] [] = some (T.sc (.int .i64 r), []) := by
 rw [callK_eq rfl Try.func53 rfl ok53]
 unfold f53 at h
 obtain ⟨t1, d1', h⟩ := bind_l h
 replace d1' := f93_ok d1'
 obtain rfl := Option.some.inj h
 simp [C0, c53, c93, Try.f53, d1']
theorem ok59 : okCode (C0 59) Try.f59.body.get! = true := by kernel_rfl
theorem f59_ok {k : Nat} {a0_0 : List S80} {r : (List S80)} (h : f59 k a0_0 = some r) : callT Try.prog C0 P0 59 [T.sl (List.map e80 a0_0) []] [] = some (T.win 0 0 r.length, [Ob.mkRow 2 (List.map e80 r)]) := by
 rw [callK_eq rfl Try.func59 rfl ok59]
 unfold f59 at h
 obtain ⟨c1', h⟩ := ite_l h
 obtain ⟨c2', h⟩ := ite_l h
 obtain rfl := Option.some.inj h
 simp [C0, c59, Try.f59, c1', c2']
theorem f132_ok {k : Nat} {a0_0 : ByteArray} {a1_0 : ByteArray} {r : Int} (h : f132 k a0_0 a1_0 = some r) : callT Try.prog C0 P0 132 [T.sc (.string a0_0), T.sc (.string a1_0)] [] = some (T.sc (.int .i64 r), []) := by
 unfold f132 at h
 obtain rfl := Option.some.inj h
 exact callT_prim (d := cmpD) rfl rfl
theorem ok120 : okCode (C0 120) Try.f120.body.get! = true := by kernel_rfl
theorem f120_ok {k : Nat} {a0_0 : ByteArray} {a1_0 : ByteArray} {r : Int} (h : f120 k a0_0 a1_0 = some r) : callT Try.prog C0 P0 120 [T.sc (.string a0_0), T.sc (.string a1_0)] [] = some (T.sc (.int .i64 r), []) := by
 rw [callK_eq rfl Try.func120 rfl ok120]
 unfold f120 at h
 obtain ⟨t1, d1', h⟩ := bind_l h
 replace d1' := f132_ok d1'
 obtain rfl := Option.some.inj h
 simp [C0, c120, c132, Try.f120, d1']
theorem ok119 : okCode (C0 119) Try.f119.body.get! = true := by kernel_rfl
theorem f119_ok {k : Nat} {a0_0 : ByteArray} {a0_1 : ByteArray} {a1_0 : ByteArray} {r : Int} (h : f119 k a0_0 a0_1 a1_0 = some r) : callT Try.prog C0 P0 119 [T.agg [T.sc (.string a0_0), T.sc (.string a0_1)], T.sc (.string a1_0)] [] = some (T.sc (.int .i64 r), []) := by
 rw [callK_eq rfl Try.func119 rfl ok119]
 unfold f119 at h
 obtain ⟨t1, d1', h⟩ := bind_l h
 replace d1' := f120_ok d1'
 obtain rfl := Option.some.inj h
 simp [C0, c119, c120, Try.f119, d1']
theorem ok118 : okCode (C0 118) Try.f118.body.get! = true := by kernel_rfl
theorem f118_ok {k : Nat} {a0_0 : List S80} {a1_0 : ByteArray} {r : Int × Bool} (h : f118 k a0_0 a1_0 = some r) : callT Try.prog C0 P0 118 [T.sl (List.map e80 a0_0) [], T.sc (.string a1_0), T.fn 119 []] [] = some (T.tup [T.sc (.int .i64 r.1), T.sc (.bool r.2)], []) := by
 rw [callK_eq rfl Try.func118 rfl ok118]
 unfold f118 at h
 simp [C0, c118, c119, Try.f118]
 refine loop_ind (α := (List S80) × ByteArray × Int × Int × Int) k (fun x s => normR [(0, 0), (1, 0), (2, 0), (8, 0), (9, 0), (10, 0)] s = stf118_3 x.1 x.2.1 x.2.2.1 x.2.2.2.1 x.2.2.2.2) (fun k x => f118.l3 k x.1 x.2.1 x.2.2.1 x.2.2.2.1 x.2.2.2.2) (fun r => (some (T.tup [T.sc (.int .i64 r.1), T.sc (.bool r.2)], []) : Option (T × List Ob))) (fun x => by simp only [f118.l3]) _ ?_ (a0_0, a1_0, (a0_0.length : Int), 0, (a0_0.length : Int)) _ ?_ h
 · rintro n1' ⟨x0, x1, x8, x9, x10⟩ s hn1' hs1' h ih3
   simp only [f118.l3] at h
   simp only [stf118_3] at hs1'
   rcases ite_some h with ⟨c2', h⟩ | ⟨c2', h⟩
   ·
    obtain ⟨c3', h⟩ := ite_l h
    obtain ⟨c4', h⟩ := ite_l h
    obtain ⟨t1, d5', h⟩ := bind_l h
    replace d5' := f119_ok d5'
    rcases ite_some h with ⟨c6', h⟩ | ⟨c6', h⟩
    ·
     simp [C0, c118, c119, Try.f118, hs1', c2', c3', c4', d5', c6']
     refine ih3 _ (x0, x1, x8, (IntKind.i64.wrap ((IntKind.i64.wrap (shrI .u64 (IntKind.u64.wrap (IntKind.i64.wrap (x9 + x10))) 1)) + 1)), x10) _ (by omega) ?_ h
     simp [stf118_3, hs1', c2', c3', c4', d5', c6']
    ·
     simp [C0, c118, c119, Try.f118, hs1', c2', c3', c4', d5', c6']
     refine ih3 _ (x0, x1, x8, x9, (IntKind.i64.wrap (shrI .u64 (IntKind.u64.wrap (IntKind.i64.wrap (x9 + x10))) 1))) _ (by omega) ?_ h
     simp [stf118_3, hs1', c2', c3', c4', d5', c6']
   ·
    rcases ite_some h with ⟨c7', h⟩ | ⟨c7', h⟩
    ·
     obtain ⟨c8', h⟩ := ite_l h
     obtain ⟨c9', h⟩ := ite_l h
     obtain ⟨t2, d10', h⟩ := bind_l h
     replace d10' := f119_ok d10'
     obtain rfl := Option.some.inj h
     simp [C0, c118, c119, Try.f118, hs1', c2', c7', c8', c9', d10']
    ·
     obtain rfl := Option.some.inj h
     simp [C0, c118, c119, Try.f118, hs1', c2', c7']
 · simp [stf118_3]
theorem f121_ok {k : Nat} {a1_0 : Int} {o0 : List S80} {o1 : List S80} {r : (List S80)} (h : f121 k a1_0 o0 o1 = some r) : callT Try.prog C0 P0 121 [T.win 0 0 o0.length, T.sc (.int .i64 a1_0), T.win 1 0 o1.length] [Ob.mkRow 2 (List.map e80 o0), Ob.mkRow 2 (List.map e80 o1)] = some (T.win 2 0 r.length, [(⟨true, false, true, true, 0, 2, List.map e80 o0⟩ : Ob), Ob.mkRow 2 (List.map e80 o1), Ob.mkRow 2 (List.map e80 r)]) := by
 unfold f121 at h
 obtain ⟨⟨h0, h1, h2, h3, h4⟩, h⟩ := ite_l h
 obtain rfl := Option.some.inj h
 obtain ⟨y, rfl⟩ := List.length_eq_one_iff.1 h2
 refine callT_prim (d := insD 2 32) rfl ?_
 have hl : (o0.take a1_0.toNat ++ ([y] ++ o0.drop a1_0.toNat)).length = o0.length + 1 := by simp only [List.length_append, List.length_take, List.length_cons, List.length_nil, List.length_drop]; omega
 show insD 2 32 [.win 0 0 o0.length, .sc (.int .i64 a1_0), .win 1 0 1] [Ob.mkRow 2 (o0.map e80), Ob.mkRow 2 [e80 y]] = _
 rw [insD_eq, if_pos (by simp only [w80, beq_self_eq_true, Bool.true_and, List.length_map, Bool.and_eq_true, decide_eq_true_eq]; exact ⟨by simp [e80, T.width, T.cells], h0, by omega, by trivial, by unfold most; omega, by unfold most; omega⟩), hl]
 simp [Ob.mkRow]
theorem ok99 : okCode (C0 99) Try.f99.body.get! = true := by kernel_rfl
theorem f99_ok {k : Nat} {a0_0 : List S80} {a1_0 : ByteArray} {a1_1 : ByteArray} {r : (List S80)} (h : f99 k a0_0 a1_0 a1_1 = some r) : callT Try.prog C0 P0 99 [T.sl (List.map e80 a0_0) [], T.agg [T.sc (.string a1_0), T.sc (.string a1_1)]] [] = some (T.win 0 0 r.length, [Ob.mkRow 2 (List.map e80 r)]) := by
 rw [callK_eq rfl Try.func99 rfl ok99]
 unfold f99 at h
 obtain ⟨t1, d1', h⟩ := bind_l h
 replace d1' := f59_ok d1'
 obtain ⟨t2, d2', h⟩ := bind_l h
 replace d2' := f118_ok d2'
 rcases ite_some h with ⟨c3', h⟩ | ⟨c3', h⟩
 ·
  obtain ⟨c4', h⟩ := ite_l h
  obtain ⟨c5', h⟩ := ite_l h
  obtain rfl := Option.some.inj h
  simp [C0, c99, c59, c118, c121, Try.f99, d1', d2', c3', c4', c5']
 ·
  obtain ⟨t3, d6', h⟩ := bind_l h
  replace d6' := f121_ok d6'
  simp at d6'
  obtain rfl := Option.some.inj h
  simp [C0, c99, c59, c118, c121, Try.f99, d1', d2', c3', d6']
end Go.Proofs.Ytfjoamlgbegpgaa.P
