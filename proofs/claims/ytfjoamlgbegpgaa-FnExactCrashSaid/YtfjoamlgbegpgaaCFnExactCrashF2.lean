/- Part of the proof of FnExactCrash: no statement of its own. -/
import Derived.Test.YtfjoamlgbegpgaaCFnExactCrashB
import Derived.Test.YtfjoamlgbegpgaaCFnExactCrashF1
set_option linter.unusedVariables false
set_option linter.unusedSimpArgs false
namespace Go.Proofs.Ytfjoamlgbegpgaa.P
open Go Go.Proofs.Ytfjoamlgbegpgaa.PM Go.Proofs
attribute [local simp] execK_seq execK_region execK_ret execK_skip execK_exit execK_block execK_cond condK_bool seqK_normal seqK_ret seqK_exit blockK_normal blockK_ret blockK_exit giveK_normal giveK_ret regionK clearK_none clearK_some normR_mk normR_def freshR fresh1 nextK_normal nextK_ret nextK_exit
  regionR runOps stepR wantR opR evalT lift lift1 Rd.run Rd.run_bind wrOk putT putAll putIn lookIn guardR Rd.ofOption obj buildSliceR mapR close close1 view1 plainB T.width T.cells room appendR strR newsR elemsR setAll most Ob.kill Ob.gone pure findK FCert.predsOf logsR Log.bare meets
  loadR storeR takeCells closeIf cellT splice T.withCells buildR fillR chk undT giveR resR outAll outOne outCell outCells outMany reachN refs refs1 posIn srcN validB mapV mapA mapC mapOb pickTmps lenR sliceR bound hiB loB makeSliceR copyR
  ev_add ev_sub ev_mul ev_quo ev_rem ev_sadd ev_eql ev_neq ev_lss ev_leq ev_gtr ev_geq ev_seql ev_sneq ev_slss ev_sleq ev_sgtr ev_sgeq ev_not ev_neg ev_unxor ev_conv scOf bsize_mk bytesOf bytesOf_map bytesOf_append eqSc eqFs strOf ev_min ev_and ev_or ev_xor ev_andNot ev_shl ev_shr indexAddrR intOf callR passAll passT pass1 reach passOb backN backS noSrc flatL verOf at_map byteAt_eq wid_append wid_nil wid_cons List.take_of_length_le wStr w_i64 w_u8 eStr eBool e_i64 e_u8 List.range_succ bytesL
  sz2 ag2 by2 ze2 sz3 ag3 by3 ze3 sz4 ag4 by4 ze4 sz5 ag5 by5 ze5 sz9 ag9 by9 ze9 sz22 ag22 by22 ze22 el22 sz23 ag23 by23 ze23 el23 sz25 ag25 by25 ze25 fs25 sz28 ag28 by28 ze28 el28 sz29 ag29 by29 ze29 el29 sz31 ag31 by31 ze31 fs31 sz38 ag38 by38 ze38 el38 sz40 ag40 by40 ze40 el40 sz51 ag51 by51 ze51 sz73 ag73 by73 ze73 fs73 sz80 ag80 by80 ze80 fs80 sz81 ag81 by81 sz89 ag89 by89 ze89 el89 sz106 ag106 by106 ze106 fs106 sz108 ag108 by108 ze108 fs108 sz120 ag120 by120 ze120 fs120 sz145 ag145 by145 ze145 ck2 ck3 ck4 ck9 ck28 ck29 ck31 ck40 ck73 ck80 ck81 ck145 eq80 ft25_0 ft25_1 ft25_2 ft31_0 ft31_1 ft31_2 ft73_0 ft73_1 ft73_2 ft73_3 ft80_0 ft80_1 ft106_0 ft106_1 ft108_0 ft108_1 ft108_2 ft108_3 ft120_0 ft120_1 Try.underlying2 Try.underlying3 Try.underlying4 Try.underlying5 Try.underlying9 Try.underlying22 Try.underlying23 Try.underlying28 Try.underlying29 Try.underlying38 Try.underlying40 Try.underlying51 Try.underlying145 w73 w80 w106 w108 e73 e80 e106 e108
attribute [local simp] get_Int get_Str get_Bool get_byte g73 g80 g106 g108
set_option maxRecDepth 100000
set_option maxHeartbeats 4000000
theorem ok16 : okCode (C0 16) Try.f16.body.get! = true := by kernel_rfl
theorem f16_ok {k : Nat} {a0_0 : List S80} {a0_1 : List S80} {a0_2 : List S73} {a1_0 : List S80} {a1_1 : List S80} {a1_2 : List S73} {r : Bool} (h : f16 k a0_0 a0_1 a0_2 a1_0 a1_1 a1_2 = some r) : callT Try.prog C0 P0 16 [T.agg [T.sl (List.map e80 a0_0) [], T.sl (List.map e80 a0_1) [], T.sl (List.map e73 a0_2) []], T.agg [T.sl (List.map e80 a1_0) [], T.sl (List.map e80 a1_1) [], T.sl (List.map e73 a1_2) []]] [] = some (T.sc (.bool r), []) := by
 rw [callK_eq rfl Try.func16 rfl ok16]
 unfold f16 at h
 obtain ⟨t1, d1', h⟩ := bind_l h
 replace d1' := f50_ok d1'
 rcases ite_some h with ⟨c2', h⟩ | ⟨c2', h⟩
 ·
  obtain ⟨t2, d3', h⟩ := bind_l h
  replace d3' := f50_ok d3'
  rcases ite_some h with ⟨c4', h⟩ | ⟨c4', h⟩
  ·
   obtain ⟨t3, d5', h⟩ := bind_l h
   replace d5' := f51_ok d5'
   rcases ite_some h with ⟨c6', h⟩ | ⟨c6', h⟩
   ·
    obtain rfl := Option.some.inj h
    simp [C0, c16, c50, c51, Try.f16, d1', c2', d3', c4', d5', c6']
   ·
    obtain rfl := Option.some.inj h
    simp [C0, c16, c50, c51, Try.f16, d1', c2', d3', c4', d5', c6']
  ·
   obtain rfl := Option.some.inj h
   simp [C0, c16, c50, c51, Try.f16, d1', c2', d3', c4']
 ·
  obtain rfl := Option.some.inj h
  simp [C0, c16, c50, c51, Try.f16, d1', c2']
theorem ok84 : okCode (C0 84) Try.f84.body.get! = true := by kernel_rfl
theorem f84_ok {k : Nat} {a0_0 : ByteArray} {r : Bool} (h : f84 k a0_0 = some r) : callT Try.prog C0 P0 84 [T.sc (.string a0_0)] [] = some (T.sc (.bool r), []) := by
 rw [callK_eq rfl Try.func84 rfl ok84]
 unfold f84 at h
 rcases ite_some h with ⟨c1', h⟩ | ⟨c1', h⟩
 ·
  obtain rfl := Option.some.inj h
  simp [C0, c84, Try.f84, c1']
 ·
  obtain rfl := Option.some.inj h
  simp [C0, c84, Try.f84, c1']
theorem ok43 : okCode (C0 43) Try.f43.body.get! = true := by kernel_rfl
theorem f43_ok {k : Nat} {a0_0 : List S80} {r : Bool} (h : f43 k a0_0 = some r) : callT Try.prog C0 P0 43 [T.sl (List.map e80 a0_0) []] [] = some (T.sc (.bool r), []) := by
 rw [callK_eq rfl Try.func43 rfl ok43]
 unfold f43 at h
 rcases ite_some h with ⟨c1', h⟩ | ⟨c1', h⟩
 ·
  obtain rfl := Option.some.inj h
  simp [C0, c43, c84, Try.f43, c1']
 ·
  simp [C0, c43, c84, Try.f43, c1']
  refine loop_ind (α := (List S80) × Int × Int) k (fun x s => normR [(0, 0), (3, 0), (4, 0)] s = stf43_5 x.1 x.2.1 x.2.2) (fun k x => f43.l5 k x.1 x.2.1 x.2.2) (fun r => (some (T.sc (.bool r), []) : Option (T × List Ob))) (fun x => by simp only [f43.l5]) _ ?_ (a0_0, 0, 0) _ ?_ h
  · rintro n2' ⟨x0, x3, x4⟩ s hn2' hs2' h ih5
    simp only [f43.l5] at h
    simp only [stf43_5] at hs2'
    rcases ite_some h with ⟨c3', h⟩ | ⟨c3', h⟩
    ·
     obtain ⟨c4', h⟩ := ite_l h
     obtain ⟨t1, d5', h⟩ := bind_l h
     replace d5' := f84_ok d5'
     rcases ite_some h with ⟨c6', h⟩ | ⟨c6', h⟩
     ·
      rcases ite_some h with ⟨c7', h⟩ | ⟨c7', h⟩
      ·
       obtain ⟨c8', h⟩ := ite_l h
       obtain ⟨c9', h⟩ := ite_l h
       rcases ite_some h with ⟨c10', h⟩ | ⟨c10', h⟩
       ·
        obtain rfl := Option.some.inj h
        simp [C0, c43, c84, Try.f43, c1', hs2', c3', c4', d5', c6', c7', c8', c9', c10']
       ·
        simp [C0, c43, c84, Try.f43, c1', hs2', c3', c4', d5', c6', c7', c8', c9', c10']
        refine ih5 _ (x0, (IntKind.i64.wrap (x3 + (((at' x0 x4).f1).size : Int))), (IntKind.i64.wrap (x4 + 1))) _ (by omega) ?_ h
        simp [stf43_5, c1', hs2', c3', c4', d5', c6', c7', c8', c9', c10']
      ·
       simp [C0, c43, c84, Try.f43, c1', hs2', c3', c4', d5', c6', c7']
       refine ih5 _ (x0, (IntKind.i64.wrap (x3 + (((at' x0 x4).f1).size : Int))), (IntKind.i64.wrap (x4 + 1))) _ (by omega) ?_ h
       simp [stf43_5, c1', hs2', c3', c4', d5', c6', c7']
     ·
      obtain rfl := Option.some.inj h
      simp [C0, c43, c84, Try.f43, c1', hs2', c3', c4', d5', c6']
    ·
     obtain rfl := Option.some.inj h
     simp [C0, c43, c84, Try.f43, c1', hs2', c3']
  · simp [stf43_5, c1']
theorem ok52 : okCode (C0 52) Try.f52.body.get! = true := by kernel_rfl
theorem f52_ok {k : Nat} {a0_0 : List S80} {a1_0 : ByteArray} {r : Int} (h : f52 k a0_0 a1_0 = some r) : callT Try.prog C0 P0 52 [T.sl (List.map e80 a0_0) [], T.sc (.string a1_0)] [] = some (T.sc (.int .i64 r), []) := by
 rw [callK_eq rfl Try.func52 rfl ok52]
 unfold f52 at h
 simp [C0, c52, Try.f52]
 refine loop_ind (α := (List S80) × ByteArray × Int) k (fun x s => normR [(0, 0), (1, 0), (5, 0)] s = stf52_2 x.1 x.2.1 x.2.2) (fun k x => f52.l2 k x.1 x.2.1 x.2.2) (fun r => (some (T.sc (.int .i64 r), []) : Option (T × List Ob))) (fun x => by simp only [f52.l2]) _ ?_ (a0_0, a1_0, 0) _ ?_ h
 · rintro n1' ⟨x0, x1, x5⟩ s hn1' hs1' h ih2
   simp only [f52.l2] at h
   simp only [stf52_2] at hs1'
   rcases ite_some h with ⟨c2', h⟩ | ⟨c2', h⟩
   ·
    obtain ⟨c3', h⟩ := ite_l h
    rcases ite_some h with ⟨c4', h⟩ | ⟨c4', h⟩
    ·
     obtain rfl := Option.some.inj h
     simp [C0, c52, Try.f52, hs1', c2', c3', c4']
    ·
     simp [C0, c52, Try.f52, hs1', c2', c3', c4']
     refine ih2 _ (x0, x1, (IntKind.i64.wrap (x5 + 1))) _ (by omega) ?_ h
     simp [stf52_2, hs1', c2', c3', c4']
   ·
    obtain rfl := Option.some.inj h
    simp [C0, c52, Try.f52, hs1', c2']
 · simp [stf52_2]
end Go.Proofs.Ytfjoamlgbegpgaa.P
