/- Part of the proof of FnExactCrash: no statement of its own. -/
import Derived.Test.YtfjoamlgbegpgaaCFnExactCrashB
set_option linter.unusedVariables false
set_option linter.unusedSimpArgs false
namespace Go.Proofs.Ytfjoamlgbegpgaa.P
open Go Go.Proofs.Ytfjoamlgbegpgaa.PM Go.Proofs
attribute [local simp] execK_seq execK_region execK_ret execK_skip execK_exit execK_block execK_cond condK_bool seqK_normal seqK_ret seqK_exit blockK_normal blockK_ret blockK_exit giveK_normal giveK_ret regionK clearK_none clearK_some normR_mk normR_def freshR fresh1 nextK_normal nextK_ret nextK_exit
  regionR runOps stepR wantR opR evalT lift lift1 Rd.run Rd.run_bind wrOk putT putAll putIn lookIn guardR Rd.ofOption obj buildSliceR mapR close close1 view1 plainB T.width T.cells room appendR strR newsR elemsR setAll most Ob.kill Ob.gone pure findK FCert.predsOf logsR Log.bare meets
  loadR storeR takeCells closeIf cellT splice T.withCells buildR fillR chk undT giveR resR outAll outOne outCell outCells outMany reachN refs refs1 posIn srcN validB mapV mapA mapC mapOb pickTmps lenR sliceR bound hiB loB makeSliceR copyR
  ev_add ev_sub ev_mul ev_quo ev_rem ev_sadd ev_eql ev_neq ev_lss ev_leq ev_gtr ev_geq ev_seql ev_sneq ev_slss ev_sleq ev_sgtr ev_sgeq ev_not ev_neg ev_unxor ev_conv scOf bsize_mk bytesOf bytesOf_map bytesOf_append eqSc eqFs strOf ev_min ev_and ev_or ev_xor ev_andNot ev_shl ev_shr indexAddrR intOf callR passAll passT pass1 reach passOb backN backS noSrc flatL verOf at_map byteAt_eq wid_append wid_nil wid_cons List.take_of_length_le wStr w_i64 w_u8 eStr eBool e_i64 e_u8 List.range_succ bytesL
  sz2 ag2 by2 ze2 sz3 ag3 by3 ze3 sz4 ag4 by4 ze4 sz5 ag5 by5 ze5 sz9 ag9 by9 ze9 sz22 ag22 by22 ze22 el22 sz23 ag23 by23 ze23 el23 sz25 ag25 by25 ze25 fs25 sz28 ag28 by28 ze28 el28 sz29 ag29 by29 ze29 el29 sz31 ag31 by31 ze31 fs31 sz38 ag38 by38 ze38 el38 sz40 ag40 by40 ze40 el40 sz51 ag51 by51 ze51 sz73 ag73 by73 ze73 fs73 sz80 ag80 by80 ze80 fs80 sz81 ag81 by81 sz89 ag89 by89 ze89 el89 sz106 ag106 by106 ze106 fs106 sz108 ag108 by108 ze108 fs108 sz120 ag120 by120 ze120 fs120 sz145 ag145 by145 ze145 ck2 ck3 ck4 ck9 ck28 ck29 ck31 ck40 ck73 ck80 ck81 ck145 eq80 ft25_0 ft25_1 ft25_2 ft31_0 ft31_1 ft31_2 ft73_0 ft73_1 ft73_2 ft73_3 ft80_0 ft80_1 ft106_0 ft106_1 ft108_0 ft108_1 ft108_2 ft108_3 ft120_0 ft120_1 Try.underlying2 Try.underlying3 Try.underlying4 Try.underlying5 Try.underlying9 Try.underlying22 Try.underlying23 Try.underlying28 Try.underlying29 Try.underlying38 Try.underlying40 Try.underlying51 Try.underlying145 w73 w80 w106 w108 e73 e80 e106 e108
attribute [local simp] get_Int get_Str get_Bool get_byte g73 g80 g106 g108
set_option maxRecDepth 100000
set_option maxHeartbeats 4000000
theorem ok105 : okCode (C0 105) Try.f105.body.get! = true := by kernel_rfl
theorem f105_ok {k : Nat} {a0_0 : Int} {r : ByteArray} (h : f105 k a0_0 = some r) : callT Try.prog C0 P0 105 [T.sc (.int .i64 a0_0)] [] = some (T.sc (.string r), []) := by
 rw [callK_eq rfl Try.func105 rfl ok105]
 unfold f105 at h
 rcases ite_some h with ⟨c1', h⟩ | ⟨c1', h⟩
 ·
  obtain rfl := Option.some.inj h
  simp [-Int.natCast_tdiv_eq_ediv, C0, c105, Try.f105, c1']
 ·
  simp [-Int.natCast_tdiv_eq_ediv, C0, c105, Try.f105, c1']
  refine loop_ind (α := Int × ByteArray) k (fun x s => normR [(0, 0), (3, 0)] s = stf105_4 x.1 x.2) (fun k x => f105.l4 k x.1 x.2) (fun r => (some (T.sc (.string r), []) : Option (T × List Ob))) (fun x => by simp only [f105.l4]) _ ?_ (a0_0, (⟨#[]⟩ : ByteArray)) _ ?_ h
  · rintro n2' ⟨x0, x3⟩ s hn2' hs2' h ih4
    simp only [f105.l4] at h
    simp only [stf105_4] at hs2'
    rcases ite_some h with ⟨c3', h⟩ | ⟨c3', h⟩
    ·
     obtain ⟨c4', h⟩ := ite_l h
     simp [-Int.natCast_tdiv_eq_ediv, C0, c105, Try.f105, c1', hs2', c3', c4']
     refine ih4 _ ((IntKind.i64.wrap (x0.tdiv 10)), ((strOf ([(IntKind.u8.wrap (IntKind.i64.wrap (48 + (x0.tmod 10))))] : List Int)) ++ x3)) _ (by omega) ?_ h
     simp [stf105_4, c1', hs2', c3', c4']
    ·
     obtain ⟨c5', h⟩ := ite_l h
     obtain rfl := Option.some.inj h
     simp [-Int.natCast_tdiv_eq_ediv, C0, c105, Try.f105, c1', hs2', c3', c5']
  · simp [stf105_4, c1']
theorem ok68 : okCode (C0 68) Try.f68.body.get! = true := by kernel_rfl
theorem f68_ok {k : Nat} {a1_0 : Int} {o0 : List S80} {r : Int × (List S80)} (h : f68 k a1_0 o0 = some r) : callT Try.prog C0 P0 68 [T.win 0 0 o0.length, T.sc (.int .i64 a1_0)] [Ob.mkRow 2 (List.map e80 o0)] = some (T.sc (.int .i64 r.1), [Ob.mkRow 2 (List.map e80 r.2)]) := by
 rw [callK_eq rfl Try.func68 rfl ok68]
 unfold f68 at h
 simp [C0, c68, c105, Try.f68]
 refine loop_ind (α := (List S80) × Int × Int) k (fun x s => normR [(0, 0), (1, 0), (5, 0)] s = stf68_2 x.1 x.2.1 x.2.2) (fun k x => f68.l2 k x.1 x.2.1 x.2.2) (fun r => (some (T.sc (.int .i64 r.1), [Ob.mkRow 2 (List.map e80 r.2)]) : Option (T × List Ob))) (fun x => by simp only [f68.l2]) _ ?_ (o0, a1_0, 0) _ ?_ h
 · rintro n1' ⟨q0, x1, x5⟩ s hn1' hs1' h ih2
   simp only [f68.l2] at h
   simp only [stf68_2] at hs1'
   rcases ite_some h with ⟨c2', h⟩ | ⟨c2', h⟩
   ·
    obtain ⟨t1, d3', h⟩ := bind_l h
    replace d3' := f105_ok d3'
    obtain ⟨c4', h⟩ := ite_l h
    obtain ⟨t2, d5', h⟩ := bind_l h
    replace d5' := f105_ok d5'
    simp [C0, c68, c105, Try.f68, hs1', c2', d3', c4', d5']
    refine ih2 _ ((q0.set x5.toNat (⟨t1, t2⟩ : S80)), (IntKind.i64.wrap ((IntKind.i64.wrap (x1 + 1)) + 1)), (IntKind.i64.wrap (x5 + 1))) _ (by omega) ?_ h
    simp [stf68_2, hs1', c2', d3', c4', d5']
   ·
    obtain rfl := Option.some.inj h
    simp [C0, c68, c105, Try.f68, hs1', c2']
 · simp [stf68_2]
theorem ok69 : okCode (C0 69) Try.f69.body.get! = true := by kernel_rfl
theorem f69_ok {k : Nat} {a1_0 : Int} {o0 : List S73} {r : Int × (List S73)} (h : f69 k a1_0 o0 = some r) : callT Try.prog C0 P0 69 [T.win 0 0 o0.length, T.sc (.int .i64 a1_0)] [Ob.mkRow 4 (List.map e73 o0)] = some (T.sc (.int .i64 r.1), [Ob.mkRow 4 (List.map e73 r.2)]) := by
 rw [callK_eq rfl Try.func69 rfl ok69]
 unfold f69 at h
 simp [C0, c69, c105, Try.f69]
 refine loop_ind (α := (List S73) × Int × Int) k (fun x s => normR [(0, 0), (1, 0), (5, 0)] s = stf69_2 x.1 x.2.1 x.2.2) (fun k x => f69.l2 k x.1 x.2.1 x.2.2) (fun r => (some (T.sc (.int .i64 r.1), [Ob.mkRow 4 (List.map e73 r.2)]) : Option (T × List Ob))) (fun x => by simp only [f69.l2]) _ ?_ (o0, a1_0, 0) _ ?_ h
 · rintro n1' ⟨q0, x1, x5⟩ s hn1' hs1' h ih2
   simp only [f69.l2] at h
   simp only [stf69_2] at hs1'
   rcases ite_some h with ⟨c2', h⟩ | ⟨c2', h⟩
   ·
    obtain ⟨c3', h⟩ := ite_l h
    obtain ⟨t1, d4', h⟩ := bind_l h
    replace d4' := f105_ok d4'
    obtain ⟨t2, d5', h⟩ := bind_l h
    replace d5' := f105_ok d5'
    obtain ⟨t3, d6', h⟩ := bind_l h
    replace d6' := f105_ok d6'
    simp [C0, c69, c105, Try.f69, hs1', c2', c3', d4', d5', d6']
    refine ih2 _ ((q0.set x5.toNat (⟨x1, t1, t2, t3⟩ : S73)), (IntKind.i64.wrap ((IntKind.i64.wrap ((IntKind.i64.wrap ((IntKind.i64.wrap (x1 + 1)) + 1)) + 1)) + 1)), (IntKind.i64.wrap (x5 + 1))) _ (by omega) ?_ h
    simp [stf69_2, hs1', c2', c3', d4', d5', d6']
   ·
    obtain rfl := Option.some.inj h
    simp [C0, c69, c105, Try.f69, hs1', c2']
 · simp [stf69_2]
theorem ok29 : okCode (C0 29) Try.f29.body.get! = true := by kernel_rfl
theorem f29_ok {k : Nat} {a1_0 : Int} {o0 : List S80} {o1 : List S80} {o2 : List S73} {r : Int × (List S80) × (List S80) × (List S73)} (h : f29 k a1_0 o0 o1 o2 = some r) : callT Try.prog C0 P0 29 [T.agg [T.win 0 0 o0.length, T.win 1 0 o1.length, T.win 2 0 o2.length], T.sc (.int .i64 a1_0)] [Ob.mkRow 2 (List.map e80 o0), Ob.mkRow 2 (List.map e80 o1), Ob.mkRow 4 (List.map e73 o2)] = some (T.sc (.int .i64 r.1), [Ob.mkRow 2 (List.map e80 r.2.1), Ob.mkRow 2 (List.map e80 r.2.2.1), Ob.mkRow 4 (List.map e73 r.2.2.2)]) := by
 rw [callK_eq rfl Try.func29 rfl ok29]
 unfold f29 at h
 obtain ⟨t1, d1', h⟩ := bind_l h
 replace d1' := f68_ok d1'
 obtain ⟨t2, d2', h⟩ := bind_l h
 replace d2' := f68_ok d2'
 obtain ⟨t3, d3', h⟩ := bind_l h
 replace d3' := f69_ok d3'
 obtain rfl := Option.some.inj h
 simp [C0, c29, c68, c69, Try.f29, d1', d2', d3']
theorem ok70 : okCode (C0 70) Try.f70.body.get! = true := by kernel_rfl
theorem f70_ok {k : Nat} {a0_0 : List S80} {a1_0 : Int} {r : Int} (h : f70 k a0_0 a1_0 = some r) : callT Try.prog C0 P0 70 [T.sl (List.map e80 a0_0) [], T.sc (.int .i64 a1_0)] [] = some (T.sc (.int .i64 r), []) := by
 rw [callK_eq rfl Try.func70 rfl ok70]
 unfold f70 at h
 simp [C0, c70, c105, Try.f70]
 refine loop_ind (α := (List S80) × Int × Int) k (fun x s => normR [(0, 0), (1, 0), (5, 0)] s = stf70_2 x.1 x.2.1 x.2.2) (fun k x => f70.l2 k x.1 x.2.1 x.2.2) (fun r => (some (T.sc (.int .i64 r), []) : Option (T × List Ob))) (fun x => by simp only [f70.l2]) _ ?_ (a0_0, a1_0, 0) _ ?_ h
 · rintro n1' ⟨x0, x1, x5⟩ s hn1' hs1' h ih2
   simp only [f70.l2] at h
   simp only [stf70_2] at hs1'
   rcases ite_some h with ⟨c2', h⟩ | ⟨c2', h⟩
   ·
    obtain ⟨c3', h⟩ := ite_l h
    obtain ⟨t1, d4', h⟩ := bind_l h
    replace d4' := f105_ok d4'
    rcases ite_some h with ⟨c5', h⟩ | ⟨c5', h⟩
    ·
     obtain ⟨t2, d6', h⟩ := bind_l h
     replace d6' := f105_ok d6'
     rcases ite_some h with ⟨c7', h⟩ | ⟨c7', h⟩
     ·
      simp [C0, c70, c105, Try.f70, hs1', c2', c3', d4', c5', d6', c7']
      refine ih2 _ (x0, (IntKind.i64.wrap ((IntKind.i64.wrap (x1 + 1)) + 1)), (IntKind.i64.wrap (x5 + 1))) _ (by omega) ?_ h
      simp [stf70_2, hs1', c2', c3', d4', c5', d6', c7']
     ·
      obtain rfl := Option.some.inj h
      simp [C0, c70, c105, Try.f70, hs1', c2', c3', d4', c5', d6', c7']
    ·
     obtain rfl := Option.some.inj h
     simp [C0, c70, c105, Try.f70, hs1', c2', c3', d4', c5']
   ·
    obtain rfl := Option.some.inj h
    simp [C0, c70, c105, Try.f70, hs1', c2']
 · simp [stf70_2]
end Go.Proofs.Ytfjoamlgbegpgaa.P
