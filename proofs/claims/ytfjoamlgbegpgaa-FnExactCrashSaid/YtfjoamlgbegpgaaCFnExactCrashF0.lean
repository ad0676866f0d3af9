/- Part of the proof of FnExactCrash: no statement of its own. -/
import Derived.Test.YtfjoamlgbegpgaaCFnExactCrashB
set_option linter.unusedVariables false
set_option linter.unusedSimpArgs false
namespace Go.Proofs.Ytfjoamlgbegpgaa.P
open Go Go.Proofs.Ytfjoamlgbegpgaa.PM Go.Proofs
attribute [local simp] execK_seq execK_region execK_ret execK_skip execK_exit execK_block execK_cond condK_bool seqK_normal seqK_ret seqK_exit blockK_normal blockK_ret blockK_exit giveK_normal giveK_ret regionK clearK_none clearK_some normR_mk normR_def freshR fresh1 nextK_normal nextK_ret nextK_exit
  regionR runOps stepR wantR opR evalT lift lift1 Rd.run Rd.run_bind wrOk putT putAll putIn lookIn guardR Rd.ofOption obj buildSliceR mapR close close1 view1 plainB T.width T.cells room appendR strR newsR elemsR setAll most Ob.kill Ob.gone pure findK FCert.predsOf logsR Log.bare meets
  loadR storeR takeCells closeIf cellT splice T.withCells buildR fillR chk undT giveR resR outAll outOne outCell outCells outMany reachN refs refs1 posIn srcN validB mapV mapA mapC mapOb pickTmps lenR sliceR bound hiB loB makeSliceR copyR
  ev_add ev_sub ev_mul ev_quo ev_rem ev_sadd ev_eql ev_neq ev_lss ev_leq ev_gtr ev_geq ev_seql ev_sneq ev_slss ev_sleq ev_sgtr ev_sgeq ev_not ev_neg ev_unxor ev_conv scOf bsize_mk bytesOf bytesOf_map bytesOf_append eqSc eqFs strOf ev_min ev_and ev_or ev_xor ev_andNot ev_shl ev_shr indexAddrR intOf callR passAll passT pass1 reach passOb backN backS noSrc flatL verOf at_map byteAt_eq wid_append wid_nil wid_cons List.take_of_length_le wStr w_i64 w_u8 eStr eBool e_i64 e_u8 List.range_succ bytesL
  sz2 ag2 by2 ze2 sz3 ag3 by3 ze3 sz4 ag4 by4 ze4 sz5 ag5 by5 ze5 sz9 ag9 by9 ze9 sz22 ag22 by22 ze22 el22 sz23 ag23 by23 ze23 el23 sz25 ag25 by25 ze25 fs25 sz28 ag28 by28 ze28 el28 sz29 ag29 by29 ze29 el29 sz31 ag31 by31 ze31 fs31 sz38 ag38 by38 ze38 el38 sz40 ag40 by40 ze40 el40 sz51 ag51 by51 ze51 sz73 ag73 by73 ze73 fs73 sz80 ag80 by80 ze80 fs80 sz81 ag81 by81 sz89 ag89 by89 ze89 el89 sz106 ag106 by106 ze106 fs106 sz108 ag108 by108 ze108 fs108 sz120 ag120 by120 ze120 fs120 sz145 ag145 by145 ze145 ck2 ck3 ck4 ck9 ck28 ck29 ck31 ck40 ck73 ck80 ck81 ck145 eq80 ft25_0 ft25_1 ft25_2 ft31_0 ft31_1 ft31_2 ft73_0 ft73_1 ft73_2 ft73_3 ft80_0 ft80_1 ft106_0 ft106_1 ft108_0 ft108_1 ft108_2 ft108_3 ft120_0 ft120_1 Try.underlying2 Try.underlying3 Try.underlying4 Try.underlying5 Try.underlying9 Try.underlying22 Try.underlying23 Try.underlying28 Try.underlying29 Try.underlying38 Try.underlying40 Try.underlying51 Try.underlying145 w73 w80 w106 w108 e73 e80 e106 e108
attribute [local simp] get_Int get_Str get_Bool get_byte g73 g80 g106 g108
set_option maxRecDepth 100000
set_option maxHeartbeats 4000000
theorem ok82 : okCode (C0 82) Try.f82.body.get! = true := by kernel_rfl
theorem f82_ok {k : Nat} {a0_0 : ByteArray} {a0_1 : ByteArray} {a1_0 : Int} {r : Int} (h : f82 k a0_0 a0_1 a1_0 = some r) : callT Try.prog C0 P0 82 [T.agg [T.sc (.string a0_0), T.sc (.string a0_1)], T.sc (.int .i64 a1_0)] [] = some (T.sc (.int .i64 r), []) := by
 rw [callK_eq rfl Try.func82 rfl ok82]
 unfold f82 at h
 rcases ite_some h with ⟨c1', h⟩ | ⟨c1', h⟩
 ·
  obtain rfl := Option.some.inj h
  simp [C0, c82, Try.f82, c1']
 ·
  rcases ite_some h with ⟨c2', h⟩ | ⟨c2', h⟩
  ·
   obtain rfl := Option.some.inj h
   simp [C0, c82, Try.f82, c1', c2']
  ·
   obtain rfl := Option.some.inj h
   simp [C0, c82, Try.f82, c1', c2']
theorem ok41 : okCode (C0 41) Try.f41.body.get! = true := by kernel_rfl
theorem f41_ok {k : Nat} {a0_0 : List S106} {a1_0 : Int} {r : Int} (h : f41 k a0_0 a1_0 = some r) : callT Try.prog C0 P0 41 [T.sl (List.map e106 a0_0) [], T.sc (.int .i64 a1_0)] [] = some (T.sc (.int .i64 r), []) := by
 rw [callK_eq rfl Try.func41 rfl ok41]
 unfold f41 at h
 rcases ite_some h with ⟨c1', h⟩ | ⟨c1', h⟩
 ·
  obtain rfl := Option.some.inj h
  simp [C0, c41, c82, Try.f41, c1']
 ·
  simp [C0, c41, c82, Try.f41, c1']
  refine loop_ind (α := (List S106) × Int × Int) k (fun x s => normR [(0, 0), (1, 0), (5, 0)] s = stf41_5 x.1 x.2.1 x.2.2) (fun k x => f41.l5 k x.1 x.2.1 x.2.2) (fun r => (some (T.sc (.int .i64 r), []) : Option (T × List Ob))) (fun x => by simp only [f41.l5]) _ ?_ (a0_0, (IntKind.i64.wrap (a1_0 - (a0_0.length : Int))), 0) _ ?_ h
  · rintro n2' ⟨x0, x1, x5⟩ s hn2' hs2' h ih5
    simp only [f41.l5] at h
    simp only [stf41_5] at hs2'
    rcases ite_some h with ⟨c3', h⟩ | ⟨c3', h⟩
    ·
     obtain ⟨c4', h⟩ := ite_l h
     obtain ⟨t1, d5', h⟩ := bind_l h
     replace d5' := f82_ok d5'
     rcases ite_some h with ⟨c6', h⟩ | ⟨c6', h⟩
     ·
      obtain rfl := Option.some.inj h
      simp [C0, c41, c82, Try.f41, c1', hs2', c3', c4', d5', c6']
     ·
      simp [C0, c41, c82, Try.f41, c1', hs2', c3', c4', d5', c6']
      refine ih5 _ (x0, t1, (IntKind.i64.wrap (x5 + 1))) _ (by omega) ?_ h
      simp [stf41_5, c1', hs2', c3', c4', d5', c6']
    ·
     obtain rfl := Option.some.inj h
     simp [C0, c41, c82, Try.f41, c1', hs2', c3']
  · simp [stf41_5, c1']
theorem ok83 : okCode (C0 83) Try.f83.body.get! = true := by kernel_rfl
theorem f83_ok {k : Nat} {a0_0 : Int} {a0_1 : ByteArray} {a0_2 : ByteArray} {a0_3 : ByteArray} {a1_0 : Int} {r : Int} (h : f83 k a0_0 a0_1 a0_2 a0_3 a1_0 = some r) : callT Try.prog C0 P0 83 [T.agg [T.sc (.int .i64 a0_0), T.sc (.string a0_1), T.sc (.string a0_2), T.sc (.string a0_3)], T.sc (.int .i64 a1_0)] [] = some (T.sc (.int .i64 r), []) := by
 rw [callK_eq rfl Try.func83 rfl ok83]
 unfold f83 at h
 rcases ite_some h with ⟨c1', h⟩ | ⟨c1', h⟩
 ·
  obtain rfl := Option.some.inj h
  simp [C0, c83, Try.f83, c1']
 ·
  rcases ite_some h with ⟨c2', h⟩ | ⟨c2', h⟩
  ·
   obtain rfl := Option.some.inj h
   simp [C0, c83, Try.f83, c1', c2']
  ·
   rcases ite_some h with ⟨c3', h⟩ | ⟨c3', h⟩
   ·
    obtain rfl := Option.some.inj h
    simp [C0, c83, Try.f83, c1', c2', c3']
   ·
    obtain rfl := Option.some.inj h
    simp [C0, c83, Try.f83, c1', c2', c3']
theorem ok42 : okCode (C0 42) Try.f42.body.get! = true := by kernel_rfl
theorem f42_ok {k : Nat} {a0_0 : List S108} {a1_0 : Int} {r : Int} (h : f42 k a0_0 a1_0 = some r) : callT Try.prog C0 P0 42 [T.sl (List.map e108 a0_0) [], T.sc (.int .i64 a1_0)] [] = some (T.sc (.int .i64 r), []) := by
 rw [callK_eq rfl Try.func42 rfl ok42]
 unfold f42 at h
 rcases ite_some h with ⟨c1', h⟩ | ⟨c1', h⟩
 ·
  obtain rfl := Option.some.inj h
  simp [C0, c42, c83, Try.f42, c1']
 ·
  simp [C0, c42, c83, Try.f42, c1']
  refine loop_ind (α := (List S108) × Int × Int) k (fun x s => normR [(0, 0), (1, 0), (5, 0)] s = stf42_5 x.1 x.2.1 x.2.2) (fun k x => f42.l5 k x.1 x.2.1 x.2.2) (fun r => (some (T.sc (.int .i64 r), []) : Option (T × List Ob))) (fun x => by simp only [f42.l5]) _ ?_ (a0_0, (IntKind.i64.wrap (a1_0 - (a0_0.length : Int))), 0) _ ?_ h
  · rintro n2' ⟨x0, x1, x5⟩ s hn2' hs2' h ih5
    simp only [f42.l5] at h
    simp only [stf42_5] at hs2'
    rcases ite_some h with ⟨c3', h⟩ | ⟨c3', h⟩
    ·
     obtain ⟨c4', h⟩ := ite_l h
     obtain ⟨t1, d5', h⟩ := bind_l h
     replace d5' := f83_ok d5'
     rcases ite_some h with ⟨c6', h⟩ | ⟨c6', h⟩
     ·
      obtain rfl := Option.some.inj h
      simp [C0, c42, c83, Try.f42, c1', hs2', c3', c4', d5', c6']
     ·
      simp [C0, c42, c83, Try.f42, c1', hs2', c3', c4', d5', c6']
      refine ih5 _ (x0, t1, (IntKind.i64.wrap (x5 + 1))) _ (by omega) ?_ h
      simp [stf42_5, c1', hs2', c3', c4', d5', c6']
    ·
     obtain rfl := Option.some.inj h
     simp [C0, c42, c83, Try.f42, c1', hs2', c3']
  · simp [stf42_5, c1']
theorem ok12 : okCode (C0 12) Try.f12.body.get! = true := by kernel_rfl
theorem f12_ok {k : Nat} {a0_0 : List S106} {a0_1 : List S106} {a0_2 : List S108} {a1_0 : Int} {r : Int} (h : f12 k a0_0 a0_1 a0_2 a1_0 = some r) : callT Try.prog C0 P0 12 [T.agg [T.sl (List.map e106 a0_0) [], T.sl (List.map e106 a0_1) [], T.sl (List.map e108 a0_2) []], T.sc (.int .i64 a1_0)] [] = some (T.sc (.int .i64 r), []) := by
 rw [callK_eq rfl Try.func12 rfl ok12]
 unfold f12 at h
 obtain ⟨t1, d1', h⟩ := bind_l h
 replace d1' := f41_ok d1'
 rcases ite_some h with ⟨c2', h⟩ | ⟨c2', h⟩
 ·
  obtain rfl := Option.some.inj h
  simp [C0, c12, c41, c42, Try.f12, d1', c2']
 ·
  obtain ⟨t2, d3', h⟩ := bind_l h
  replace d3' := f41_ok d3'
  rcases ite_some h with ⟨c4', h⟩ | ⟨c4', h⟩
  ·
   obtain rfl := Option.some.inj h
   simp [C0, c12, c41, c42, Try.f12, d1', c2', d3', c4']
  ·
   obtain ⟨t3, d5', h⟩ := bind_l h
   replace d5' := f42_ok d5'
   rcases ite_some h with ⟨c6', h⟩ | ⟨c6', h⟩
   ·
    obtain rfl := Option.some.inj h
    simp [C0, c12, c41, c42, Try.f12, d1', c2', d3', c4', d5', c6']
   ·
    obtain rfl := Option.some.inj h
    simp [C0, c12, c41, c42, Try.f12, d1', c2', d3', c4', d5', c6']
theorem ok87 : okCode (C0 87) Try.f87.body.get! = true := by kernel_rfl
theorem f87_ok {k : Nat} {a0_0 : ByteArray} {a0_1 : ByteArray} {r : ByteArray × ByteArray} (h : f87 k a0_0 a0_1 = some r) : callT Try.prog C0 P0 87 [T.agg [T.sc (.string a0_0), T.sc (.string a0_1)]] [] = some (T.agg [T.sc (.string r.1), T.sc (.string r.2)], []) := by
 rw [callK_eq rfl Try.func87 rfl ok87]
 unfold f87 at h
 obtain rfl := Option.some.inj h
 simp [C0, c87, Try.f87]
theorem ok47 : okCode (C0 47) Try.f47.body.get! = true := by kernel_rfl
theorem f47_ok {k : Nat} {a0_0 : List S106} {r : (List S80)} (h : f47 k a0_0 = some r) : callT Try.prog C0 P0 47 [T.sl (List.map e106 a0_0) []] [] = some (T.win 0 0 r.length, [Ob.mkRow 2 (List.map e80 r)]) := by
 rw [callK_eq rfl Try.func47 rfl ok47]
 unfold f47 at h
 obtain ⟨c1', h⟩ := ite_l h
 obtain ⟨c2', h⟩ := ite_l h
 obtain ⟨c3', h⟩ := ite_l h
 obtain ⟨c4', h⟩ := ite_l h
 simp [C0, c47, c87, Try.f47, c1', c2', c3', c4']
 refine loop_ind (α := (List S80) × (List S106) × Int) k (fun x s => normR [(0, 0), (3, 0), (4, 0)] s = stf47_3 x.1 x.2.1 x.2.2) (fun k x => f47.l3 k x.1 x.2.1 x.2.2) (fun r => (some (T.win 0 0 r.length, [Ob.mkRow 2 (List.map e80 r)]) : Option (T × List Ob))) (fun x => by simp only [f47.l3]) _ ?_ ((List.replicate (a0_0.length : Int).toNat (⟨(⟨#[]⟩ : ByteArray), (⟨#[]⟩ : ByteArray)⟩ : S80)), a0_0, 0) _ ?_ h
 · rintro n5' ⟨q0, x0, x4⟩ s hn5' hs5' h ih3
   simp only [f47.l3] at h
   simp only [stf47_3] at hs5'
   rcases ite_some h with ⟨c6', h⟩ | ⟨c6', h⟩
   ·
    obtain ⟨c7', h⟩ := ite_l h
    obtain ⟨t1, d8', h⟩ := bind_l h
    replace d8' := f87_ok d8'
    obtain ⟨c9', h⟩ := ite_l h
    simp [C0, c47, c87, Try.f47, c1', c2', c3', c4', hs5', c6', c7', d8', c9']
    refine ih3 _ ((q0.set x4.toNat (⟨t1.1, t1.2⟩ : S80)), x0, (IntKind.i64.wrap (x4 + 1))) _ (by omega) ?_ h
    simp [stf47_3, c1', c2', c3', c4', hs5', c6', c7', d8', c9']
   ·
    obtain rfl := Option.some.inj h
    simp [C0, c47, c87, Try.f47, c1', c2', c3', c4', hs5', c6']
 · simp [stf47_3, c1', c2', c3', c4']
theorem ok88 : okCode (C0 88) Try.f88.body.get! = true := by kernel_rfl
theorem f88_ok {k : Nat} {a0_0 : Int} {a0_1 : ByteArray} {a0_2 : ByteArray} {a0_3 : ByteArray} {r : Int × ByteArray × ByteArray × ByteArray} (h : f88 k a0_0 a0_1 a0_2 a0_3 = some r) : callT Try.prog C0 P0 88 [T.agg [T.sc (.int .i64 a0_0), T.sc (.string a0_1), T.sc (.string a0_2), T.sc (.string a0_3)]] [] = some (T.agg [T.sc (.int .i64 r.1), T.sc (.string r.2.1), T.sc (.string r.2.2.1), T.sc (.string r.2.2.2)], []) := by
 rw [callK_eq rfl Try.func88 rfl ok88]
 unfold f88 at h
 obtain rfl := Option.some.inj h
 simp [C0, c88, Try.f88]
end Go.Proofs.Ytfjoamlgbegpgaa.P
