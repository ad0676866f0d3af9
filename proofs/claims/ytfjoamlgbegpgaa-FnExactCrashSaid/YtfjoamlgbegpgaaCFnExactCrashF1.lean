/- Part of the proof of FnExactCrash: no statement of its own. -/
import Derived.Test.YtfjoamlgbegpgaaCFnExactCrashB
import Derived.Test.YtfjoamlgbegpgaaCFnExactCrashF0
set_option linter.unusedVariables false
set_option linter.unusedSimpArgs false
namespace Go.Proofs.Ytfjoamlgbegpgaa.P
open Go Go.Proofs.Ytfjoamlgbegpgaa.PM Go.Proofs
attribute [local simp] execK_seq execK_region execK_ret execK_skip execK_exit execK_block execK_cond condK_bool seqK_normal seqK_ret seqK_exit blockK_normal blockK_ret blockK_exit giveK_normal giveK_ret regionK clearK_none clearK_some normR_mk normR_def freshR fresh1 nextK_normal nextK_ret nextK_exit
  regionR runOps stepR wantR opR evalT lift lift1 Rd.run Rd.run_bind wrOk putT putAll putIn lookIn guardR Rd.ofOption obj buildSliceR mapR close close1 view1 plainB T.width T.cells room appendR strR newsR elemsR setAll most Ob.kill Ob.gone pure findK FCert.predsOf logsR Log.bare meets
  loadR storeR takeCells closeIf cellT splice T.withCells buildR fillR chk undT giveR resR outAll outOne outCell outCells outMany reachN refs refs1 posIn srcN validB mapV mapA mapC mapOb pickTmps lenR sliceR bound hiB loB makeSliceR copyR
  ev_add ev_sub ev_mul ev_quo ev_rem ev_sadd ev_eql ev_neq ev_lss ev_leq ev_gtr ev_geq ev_seql ev_sneq ev_slss ev_sleq ev_sgtr ev_sgeq ev_not ev_neg ev_unxor ev_conv scOf bsize_mk bytesOf bytesOf_map bytesOf_append eqSc eqFs strOf ev_min ev_and ev_or ev_xor ev_andNot ev_shl ev_shr indexAddrR intOf callR passAll passT pass1 reach passOb backN backS noSrc flatL verOf at_map byteAt_eq wid_append wid_nil wid_cons List.take_of_length_le wStr w_i64 w_u8 eStr eBool e_i64 e_u8 List.range_succ bytesL
  sz2 ag2 by2 ze2 sz3 ag3 by3 ze3 sz4 ag4 by4 ze4 sz5 ag5 by5 ze5 sz9 ag9 by9 ze9 sz22 ag22 by22 ze22 el22 sz23 ag23 by23 ze23 el23 sz25 ag25 by25 ze25 fs25 sz28 ag28 by28 ze28 el28 sz29 ag29 by29 ze29 el29 sz31 ag31 by31 ze31 fs31 sz38 ag38 by38 ze38 el38 sz40 ag40 by40 ze40 el40 sz51 ag51 by51 ze51 sz73 ag73 by73 ze73 fs73 sz80 ag80 by80 ze80 fs80 sz81 ag81 by81 sz89 ag89 by89 ze89 el89 sz106 ag106 by106 ze106 fs106 sz108 ag108 by108 ze108 fs108 sz120 ag120 by120 ze120 fs120 sz145 ag145 by145 ze145 ck2 ck3 ck4 ck9 ck28 ck29 ck31 ck40 ck73 ck80 ck81 ck145 eq80 ft25_0 ft25_1 ft25_2 ft31_0 ft31_1 ft31_2 ft73_0 ft73_1 ft73_2 ft73_3 ft80_0 ft80_1 ft106_0 ft106_1 ft108_0 ft108_1 ft108_2 ft108_3 ft120_0 ft120_1 Try.underlying2 Try.underlying3 Try.underlying4 Try.underlying5 Try.underlying9 Try.underlying22 Try.underlying23 Try.underlying28 Try.underlying29 Try.underlying38 Try.underlying40 Try.underlying51 Try.underlying145 w73 w80 w106 w108 e73 e80 e106 e108
attribute [local simp] get_Int get_Str get_Bool get_byte g73 g80 g106 g108
set_option maxRecDepth 100000
set_option maxHeartbeats 4000000
theorem ok48 : okCode (C0 48) Try.f48.body.get! = true := by kernel_rfl
theorem f48_ok {k : Nat} {a0_0 : List S108} {r : (List S73)} (h : f48 k a0_0 = some r) : callT Try.prog C0 P0 48 [T.sl (List.map e108 a0_0) []] [] = some (T.win 0 0 r.length, [Ob.mkRow 4 (List.map e73 r)]) := by
 rw [callK_eq rfl Try.func48 rfl ok48]
 unfold f48 at h
 obtain ⟨c1', h⟩ := ite_l h
 obtain ⟨c2', h⟩ := ite_l h
 obtain ⟨c3', h⟩ := ite_l h
 obtain ⟨c4', h⟩ := ite_l h
 simp [C0, c48, c88, Try.f48, c1', c2', c3', c4']
 refine loop_ind (α := (List S73) × (List S108) × Int) k (fun x s => normR [(0, 0), (3, 0), (4, 0)] s = stf48_3 x.1 x.2.1 x.2.2) (fun k x => f48.l3 k x.1 x.2.1 x.2.2) (fun r => (some (T.win 0 0 r.length, [Ob.mkRow 4 (List.map e73 r)]) : Option (T × List Ob))) (fun x => by simp only [f48.l3]) _ ?_ ((List.replicate (a0_0.length : Int).toNat (⟨0, (⟨#[]⟩ : ByteArray), (⟨#[]⟩ : ByteArray), (⟨#[]⟩ : ByteArray)⟩ : S73)), a0_0, 0) _ ?_ h
 · rintro n5' ⟨q0, x0, x4⟩ s hn5' hs5' h ih3
   simp only [f48.l3] at h
   simp only [stf48_3] at hs5'
   rcases ite_some h with ⟨c6', h⟩ | ⟨c6', h⟩
   ·
    obtain ⟨c7', h⟩ := ite_l h
    obtain ⟨t1, d8', h⟩ := bind_l h
    replace d8' := f88_ok d8'
    obtain ⟨c9', h⟩ := ite_l h
    simp [C0, c48, c88, Try.f48, c1', c2', c3', c4', hs5', c6', c7', d8', c9']
    refine ih3 _ ((q0.set x4.toNat (⟨t1.1, t1.2.1, t1.2.2.1, t1.2.2.2⟩ : S73)), x0, (IntKind.i64.wrap (x4 + 1))) _ (by omega) ?_ h
    simp [stf48_3, c1', c2', c3', c4', hs5', c6', c7', d8', c9']
   ·
    obtain rfl := Option.some.inj h
    simp [C0, c48, c88, Try.f48, c1', c2', c3', c4', hs5', c6']
 · simp [stf48_3, c1', c2', c3', c4']
theorem ok14 : okCode (C0 14) Try.f14.body.get! = true := by kernel_rfl
theorem f14_ok {k : Nat} {a0_0 : List S106} {a0_1 : List S106} {a0_2 : List S108} {r : (List S80) × (List S80) × (List S73)} (h : f14 k a0_0 a0_1 a0_2 = some r) : callT Try.prog C0 P0 14 [T.agg [T.sl (List.map e106 a0_0) [], T.sl (List.map e106 a0_1) [], T.sl (List.map e108 a0_2) []]] [] = some (T.agg [T.win 0 0 r.1.length, T.win 1 0 r.2.1.length, T.win 2 0 r.2.2.length], [Ob.mkRow 2 (List.map e80 r.1), Ob.mkRow 2 (List.map e80 r.2.1), Ob.mkRow 4 (List.map e73 r.2.2)]) := by
 rw [callK_eq rfl Try.func14 rfl ok14]
 unfold f14 at h
 obtain ⟨t1, d1', h⟩ := bind_l h
 replace d1' := f47_ok d1'
 obtain ⟨t2, d2', h⟩ := bind_l h
 replace d2' := f47_ok d2'
 obtain ⟨t3, d3', h⟩ := bind_l h
 replace d3' := f48_ok d3'
 obtain rfl := Option.some.inj h
 simp [C0, c14, c47, c48, Try.f14, d1', d2', d3']
theorem ok91 : okCode (C0 91) Try.f91.body.get! = true := by kernel_rfl
theorem f91_ok {k : Nat} {a0_0 : ByteArray} {a0_1 : ByteArray} {a1_0 : ByteArray} {a1_1 : ByteArray} {r : Bool} (h : f91 k a0_0 a0_1 a1_0 a1_1 = some r) : callT Try.prog C0 P0 91 [T.agg [T.sc (.string a0_0), T.sc (.string a0_1)], T.agg [T.sc (.string a1_0), T.sc (.string a1_1)]] [] = some (T.sc (.bool r), []) := by
 rw [callK_eq rfl Try.func91 rfl ok91]
 unfold f91 at h
 rcases ite_some h with ⟨c1', h⟩ | ⟨c1', h⟩
 ·
  rcases ite_some h with ⟨c2', h⟩ | ⟨c2', h⟩
  ·
   obtain rfl := Option.some.inj h
   simp [C0, c91, Try.f91, c1', c2']
  ·
   obtain rfl := Option.some.inj h
   simp [C0, c91, Try.f91, c1', c2']
 ·
  obtain rfl := Option.some.inj h
  simp [C0, c91, Try.f91, c1']
theorem ok50 : okCode (C0 50) Try.f50.body.get! = true := by kernel_rfl
theorem f50_ok {k : Nat} {a0_0 : List S80} {a1_0 : List S80} {r : Bool} (h : f50 k a0_0 a1_0 = some r) : callT Try.prog C0 P0 50 [T.sl (List.map e80 a0_0) [], T.sl (List.map e80 a1_0) []] [] = some (T.sc (.bool r), []) := by
 rw [callK_eq rfl Try.func50 rfl ok50]
 unfold f50 at h
 rcases ite_some h with ⟨c1', h⟩ | ⟨c1', h⟩
 ·
  simp [C0, c50, c91, Try.f50, eq_true c1']
  refine loop_ind (α := (List S80) × (List S80) × Int) k (fun x s => normR [(0, 0), (1, 0), (5, 0)] s = stf50_4 x.1 x.2.1 x.2.2) (fun k x => f50.l4 k x.1 x.2.1 x.2.2) (fun r => (some (T.sc (.bool r), []) : Option (T × List Ob))) (fun x => by simp only [f50.l4]) _ ?_ (a0_0, a1_0, 0) _ ?_ h
  · rintro n2' ⟨x0, x1, x5⟩ s hn2' hs2' h ih4
    simp only [f50.l4] at h
    simp only [stf50_4] at hs2'
    rcases ite_some h with ⟨c3', h⟩ | ⟨c3', h⟩
    ·
     obtain ⟨c4', h⟩ := ite_l h
     obtain ⟨c5', h⟩ := ite_l h
     obtain ⟨t1, d6', h⟩ := bind_l h
     replace d6' := f91_ok d6'
     rcases ite_some h with ⟨c7', h⟩ | ⟨c7', h⟩
     ·
      simp [C0, c50, c91, Try.f50, eq_true c1', hs2', c3', c4', c5', d6', c7']
      refine ih4 _ (x0, x1, (IntKind.i64.wrap (x5 + 1))) _ (by omega) ?_ h
      simp [stf50_4, eq_true c1', hs2', c3', c4', c5', d6', c7']
     ·
      obtain rfl := Option.some.inj h
      simp [C0, c50, c91, Try.f50, eq_true c1', hs2', c3', c4', c5', d6', c7']
    ·
     obtain rfl := Option.some.inj h
     simp [C0, c50, c91, Try.f50, eq_true c1', hs2', c3']
  · simp [stf50_4, eq_true c1']
 ·
  obtain rfl := Option.some.inj h
  simp [C0, c50, c91, Try.f50, c1']
theorem ok92 : okCode (C0 92) Try.f92.body.get! = true := by kernel_rfl
theorem f92_ok {k : Nat} {a0_0 : Int} {a0_1 : ByteArray} {a0_2 : ByteArray} {a0_3 : ByteArray} {a1_0 : Int} {a1_1 : ByteArray} {a1_2 : ByteArray} {a1_3 : ByteArray} {r : Bool} (h : f92 k a0_0 a0_1 a0_2 a0_3 a1_0 a1_1 a1_2 a1_3 = some r) : callT Try.prog C0 P0 92 [T.agg [T.sc (.int .i64 a0_0), T.sc (.string a0_1), T.sc (.string a0_2), T.sc (.string a0_3)], T.agg [T.sc (.int .i64 a1_0), T.sc (.string a1_1), T.sc (.string a1_2), T.sc (.string a1_3)]] [] = some (T.sc (.bool r), []) := by
 rw [callK_eq rfl Try.func92 rfl ok92]
 unfold f92 at h
 rcases ite_some h with ⟨c1', h⟩ | ⟨c1', h⟩
 ·
  rcases ite_some h with ⟨c2', h⟩ | ⟨c2', h⟩
  ·
   rcases ite_some h with ⟨c3', h⟩ | ⟨c3', h⟩
   ·
    rcases ite_some h with ⟨c4', h⟩ | ⟨c4', h⟩
    ·
     obtain rfl := Option.some.inj h
     simp [C0, c92, Try.f92, eq_true c1', c2', c3', c4']
    ·
     obtain rfl := Option.some.inj h
     simp [C0, c92, Try.f92, eq_true c1', c2', c3', c4']
   ·
    obtain rfl := Option.some.inj h
    simp [C0, c92, Try.f92, eq_true c1', c2', c3']
  ·
   obtain rfl := Option.some.inj h
   simp [C0, c92, Try.f92, eq_true c1', c2']
 ·
  obtain rfl := Option.some.inj h
  simp [C0, c92, Try.f92, c1']
theorem ok51 : okCode (C0 51) Try.f51.body.get! = true := by kernel_rfl
theorem f51_ok {k : Nat} {a0_0 : List S73} {a1_0 : List S73} {r : Bool} (h : f51 k a0_0 a1_0 = some r) : callT Try.prog C0 P0 51 [T.sl (List.map e73 a0_0) [], T.sl (List.map e73 a1_0) []] [] = some (T.sc (.bool r), []) := by
 rw [callK_eq rfl Try.func51 rfl ok51]
 unfold f51 at h
 rcases ite_some h with ⟨c1', h⟩ | ⟨c1', h⟩
 ·
  simp [C0, c51, c92, Try.f51, eq_true c1']
  refine loop_ind (α := (List S73) × (List S73) × Int) k (fun x s => normR [(0, 0), (1, 0), (5, 0)] s = stf51_4 x.1 x.2.1 x.2.2) (fun k x => f51.l4 k x.1 x.2.1 x.2.2) (fun r => (some (T.sc (.bool r), []) : Option (T × List Ob))) (fun x => by simp only [f51.l4]) _ ?_ (a0_0, a1_0, 0) _ ?_ h
  · rintro n2' ⟨x0, x1, x5⟩ s hn2' hs2' h ih4
    simp only [f51.l4] at h
    simp only [stf51_4] at hs2'
    rcases ite_some h with ⟨c3', h⟩ | ⟨c3', h⟩
    ·
     obtain ⟨c4', h⟩ := ite_l h
     obtain ⟨c5', h⟩ := ite_l h
     obtain ⟨t1, d6', h⟩ := bind_l h
     replace d6' := f92_ok d6'
     rcases ite_some h with ⟨c7', h⟩ | ⟨c7', h⟩
     ·
      simp [C0, c51, c92, Try.f51, eq_true c1', hs2', c3', c4', c5', d6', c7']
      refine ih4 _ (x0, x1, (IntKind.i64.wrap (x5 + 1))) _ (by omega) ?_ h
      simp [stf51_4, eq_true c1', hs2', c3', c4', c5', d6', c7']
     ·
      obtain rfl := Option.some.inj h
      simp [C0, c51, c92, Try.f51, eq_true c1', hs2', c3', c4', c5', d6', c7']
    ·
     obtain rfl := Option.some.inj h
     simp [C0, c51, c92, Try.f51, eq_true c1', hs2', c3']
  · simp [stf51_4, eq_true c1']
 ·
  obtain rfl := Option.some.inj h
  simp [C0, c51, c92, Try.f51, c1']
end Go.Proofs.Ytfjoamlgbegpgaa.P
