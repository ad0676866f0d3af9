/- Part of the proof of FnExactCrash: no statement of its own. -/
import Derived.Test.YtfjoamlgbegpgaaCFnExactCrashB
import Derived.Test.YtfjoamlgbegpgaaCFnExactCrashF2
set_option linter.unusedVariables false
set_option linter.unusedSimpArgs false
namespace Go.Proofs.Ytfjoamlgbegpgaa.P
open Go Go.Proofs.Ytfjoamlgbegpgaa.PM Go.Proofs
attribute [local simp] execK_seq execK_region execK_ret execK_skip execK_exit execK_block execK_cond condK_bool seqK_normal seqK_ret seqK_exit blockK_normal blockK_ret blockK_exit giveK_normal giveK_ret regionK clearK_none clearK_some normR_mk normR_def freshR fresh1 nextK_normal nextK_ret nextK_exit
  regionR runOps stepR wantR opR evalT lift lift1 Rd.run Rd.run_bind wrOk putT putAll putIn lookIn guardR Rd.ofOption obj buildSliceR mapR close close1 view1 plainB T.width T.cells room appendR strR newsR elemsR setAll most Ob.kill Ob.gone pure findK FCert.predsOf logsR Log.bare meets
  loadR storeR takeCells closeIf cellT splice T.withCells buildR fillR chk undT giveR resR outAll outOne outCell outCells outMany reachN refs refs1 posIn srcN validB mapV mapA mapC mapOb pickTmps lenR sliceR bound hiB loB makeSliceR copyR
  ev_add ev_sub ev_mul ev_quo ev_rem ev_sadd ev_eql ev_neq ev_lss ev_leq ev_gtr ev_geq ev_seql ev_sneq ev_slss ev_sleq ev_sgtr ev_sgeq ev_not ev_neg ev_unxor ev_conv scOf bsize_mk bytesOf bytesOf_map bytesOf_append eqSc eqFs strOf ev_min ev_and ev_or ev_xor ev_andNot ev_shl ev_shr indexAddrR intOf callR passAll passT pass1 reach passOb backN backS noSrc flatL verOf at_map byteAt_eq wid_append wid_nil wid_cons List.take_of_length_le wStr w_i64 w_u8 eStr eBool e_i64 e_u8 List.range_succ bytesL
  sz2 ag2 by2 ze2 sz3 ag3 by3 ze3 sz4 ag4 by4 ze4 sz5 ag5 by5 ze5 sz9 ag9 by9 ze9 sz22 ag22 by22 ze22 el22 sz23 ag23 by23 ze23 el23 sz25 ag25 by25 ze25 fs25 sz28 ag28 by28 ze28 el28 sz29 ag29 by29 ze29 el29 sz31 ag31 by31 ze31 fs31 sz38 ag38 by38 ze38 el38 sz40 ag40 by40 ze40 el40 sz51 ag51 by51 ze51 sz73 ag73 by73 ze73 fs73 sz80 ag80 by80 ze80 fs80 sz81 ag81 by81 sz89 ag89 by89 ze89 el89 sz106 ag106 by106 ze106 fs106 sz108 ag108 by108 ze108 fs108 sz120 ag120 by120 ze120 fs120 sz145 ag145 by145 ze145 ck2 ck3 ck4 ck9 ck28 ck29 ck31 ck40 ck73 ck80 ck81 ck145 eq80 ft25_0 ft25_1 ft25_2 ft31_0 ft31_1 ft31_2 ft73_0 ft73_1 ft73_2 ft73_3 ft80_0 ft80_1 ft106_0 ft106_1 ft108_0 ft108_1 ft108_2 ft108_3 ft120_0 ft120_1 Try.underlying2 Try.underlying3 Try.underlying4 Try.underlying5 Try.underlying9 Try.underlying22 Try.underlying23 Try.underlying28 Try.underlying29 Try.underlying38 Try.underlying40 Try.underlying51 Try.underlying145 w73 w80 w106 w108 e73 e80 e106 e108
attribute [local simp] get_Int get_Str get_Bool get_byte g73 g80 g106 g108
set_option maxRecDepth 100000
set_option maxHeartbeats 4000000
theorem ok85 : okCode (C0 85) Try.f85.body.get! = true := by kernel_rfl
theorem f85_ok {k : Nat} {a0_0 : List S80} {a1_0 : ByteArray} {a2_0 : ByteArray} {r : (List S80)} (h : f85 k a0_0 a1_0 a2_0 = some r) : callT Try.prog C0 P0 85 [T.sl (List.map e80 a0_0) [], T.sc (.string a1_0), T.sc (.string a2_0)] [] = some (T.win 0 0 r.length, [Ob.mkRow 2 (List.map e80 r)]) := by
 rw [callK_eq rfl Try.func85 rfl ok85]
 unfold f85 at h
 simp (maxSteps := 2000000) [C0, c85, Try.f85]
 refine loop_ind (α := (List S80) × (List S80) × ByteArray × ByteArray × Bool × Int) k (fun x s => normR [(0, 0), (1, 0), (2, 0), (7, 0), (8, 0), (9, 0)] s = stf85_4 x.1 x.2.1 x.2.2.1 x.2.2.2.1 x.2.2.2.2.1 x.2.2.2.2.2) (fun k x => f85.l4 k x.1 x.2.1 x.2.2.1 x.2.2.2.1 x.2.2.2.2.1 x.2.2.2.2.2) (fun r => (some (T.win 0 0 r.length, [Ob.mkRow 2 (List.map e80 r)]) : Option (T × List Ob))) (fun x => by simp only [f85.l4]) _ ?_ (([] : List S80), a0_0, a1_0, a2_0, false, 0) _ ?_ h
 · rintro n1' ⟨q0, x0, x1, x2, x8, x9⟩ s hn1' hs1' h ih4
   simp only [f85.l4] at h
   simp only [stf85_4] at hs1'
   rcases ite_some h with ⟨c2', h⟩ | ⟨c2', h⟩
   ·
    rcases ite_some h with ⟨c3', h⟩ | ⟨c3', h⟩
    ·
     obtain ⟨c4', h⟩ := ite_l h
     rcases ite_some h with ⟨c5', h⟩ | ⟨c5', h⟩
     ·
      simp (maxSteps := 2000000) [C0, c85, Try.f85, hs1', c2', c3', c4', c5']
      refine ih4 _ (q0, x0, x1, x2, x8, (IntKind.i64.wrap (x9 + 1))) _ (by omega) ?_ h
      simp [stf85_4, hs1', c2', c3', c4', c5']
     ·
      obtain ⟨c6', h⟩ := ite_l h
      obtain ⟨c7', h⟩ := ite_l h
      simp (maxSteps := 2000000) [C0, c85, Try.f85, hs1', c2', c3', c4', c5', c6', c7']
      refine ih4 _ ((q0 ++ ([(⟨(at' x0 x9).f0, (at' x0 x9).f1⟩ : S80)] : List S80)), x0, x1, x2, x8, (IntKind.i64.wrap (x9 + 1))) _ (by omega) ?_ h
      simp [stf85_4, hs1', c2', c3', c4', c5', c6', c7']
    ·
     obtain ⟨c8', h⟩ := ite_l h
     rcases ite_some h with ⟨c9', h⟩ | ⟨c9', h⟩
     ·
      rcases ite_some h with ⟨c10', h⟩ | ⟨c10', h⟩
      ·
       simp (maxSteps := 2000000) [C0, c85, Try.f85, hs1', c2', c3', c8', c9', c10']
       refine ih4 _ (q0, x0, x1, x2, x8, (IntKind.i64.wrap (x9 + 1))) _ (by omega) ?_ h
       simp [stf85_4, hs1', c2', c3', c8', c9', c10']
      ·
       obtain ⟨c11', h⟩ := ite_l h
       obtain ⟨c12', h⟩ := ite_l h
       simp (maxSteps := 2000000) [C0, c85, Try.f85, hs1', c2', c3', c8', c9', c10', c11', c12']
       refine ih4 _ ((q0 ++ ([(⟨(at' x0 x9).f0, (at' x0 x9).f1⟩ : S80)] : List S80)), x0, x1, x2, x8, (IntKind.i64.wrap (x9 + 1))) _ (by omega) ?_ h
       simp [stf85_4, hs1', c2', c3', c8', c9', c10', c11', c12']
     ·
      obtain ⟨c13', h⟩ := ite_l h
      obtain ⟨c14', h⟩ := ite_l h
      rcases ite_some h with ⟨c15', h⟩ | ⟨c15', h⟩
      ·
       simp (maxSteps := 2000000) [C0, c85, Try.f85, hs1', c2', c3', c8', c9', c13', c14', c15']
       refine ih4 _ ((q0 ++ ([(⟨x1, x2⟩ : S80)] : List S80)), x0, x1, x2, true, (IntKind.i64.wrap (x9 + 1))) _ (by omega) ?_ h
       simp [stf85_4, hs1', c2', c3', c8', c9', c13', c14', c15']
      ·
       obtain ⟨c16', h⟩ := ite_l h
       obtain ⟨c17', h⟩ := ite_l h
       simp (maxSteps := 2000000) [C0, c85, Try.f85, hs1', c2', c3', c8', c9', c13', c14', c15', c16', c17']
       refine ih4 _ (((q0 ++ ([(⟨x1, x2⟩ : S80)] : List S80)) ++ ([(⟨(at' x0 x9).f0, (at' x0 x9).f1⟩ : S80)] : List S80)), x0, x1, x2, true, (IntKind.i64.wrap (x9 + 1))) _ (by omega) ?_ h
       simp [stf85_4, hs1', c2', c3', c8', c9', c13', c14', c15', c16', c17']
   ·
    rcases ite_some h with ⟨c18', h⟩ | ⟨c18', h⟩
    ·
     obtain rfl := Option.some.inj h
     simp (maxSteps := 2000000) [C0, c85, Try.f85, hs1', c2', c18']
    ·
     obtain ⟨c19', h⟩ := ite_l h
     obtain ⟨c20', h⟩ := ite_l h
     obtain rfl := Option.some.inj h
     simp (maxSteps := 2000000) [C0, c85, Try.f85, hs1', c2', c18', c19', c20']
 · simp [stf85_4]
theorem ok86 : okCode (C0 86) Try.f86.body.get! = true := by kernel_rfl
theorem f86_ok {k : Nat} {a0_0 : List S80} {a1_0 : ByteArray} {r : (List S80)} (h : f86 k a0_0 a1_0 = some r) : callT Try.prog C0 P0 86 [T.sl (List.map e80 a0_0) [], T.sc (.string a1_0)] [] = some (T.win 0 0 r.length, [Ob.mkRow 2 (List.map e80 r)]) := by
 rw [callK_eq rfl Try.func86 rfl ok86]
 unfold f86 at h
 simp [C0, c86, Try.f86]
 refine loop_ind (α := (List S80) × (List S80) × ByteArray × Int) k (fun x s => normR [(0, 0), (1, 0), (5, 0), (6, 0)] s = stf86_3 x.1 x.2.1 x.2.2.1 x.2.2.2) (fun k x => f86.l3 k x.1 x.2.1 x.2.2.1 x.2.2.2) (fun r => (some (T.win 0 0 r.length, [Ob.mkRow 2 (List.map e80 r)]) : Option (T × List Ob))) (fun x => by simp only [f86.l3]) _ ?_ (([] : List S80), a0_0, a1_0, 0) _ ?_ h
 · rintro n1' ⟨q0, x0, x1, x6⟩ s hn1' hs1' h ih3
   simp only [f86.l3] at h
   simp only [stf86_3] at hs1'
   rcases ite_some h with ⟨c2', h⟩ | ⟨c2', h⟩
   ·
    obtain ⟨c3', h⟩ := ite_l h
    rcases ite_some h with ⟨c4', h⟩ | ⟨c4', h⟩
    ·
     simp [C0, c86, Try.f86, hs1', c2', c3', c4']
     refine ih3 _ (q0, x0, x1, (IntKind.i64.wrap (x6 + 1))) _ (by omega) ?_ h
     simp [stf86_3, hs1', c2', c3', c4']
    ·
     obtain ⟨c5', h⟩ := ite_l h
     obtain ⟨c6', h⟩ := ite_l h
     simp [C0, c86, Try.f86, hs1', c2', c3', c4', c5', c6']
     refine ih3 _ ((q0 ++ ([(⟨(at' x0 x6).f0, (at' x0 x6).f1⟩ : S80)] : List S80)), x0, x1, (IntKind.i64.wrap (x6 + 1))) _ (by omega) ?_ h
     simp [stf86_3, hs1', c2', c3', c4', c5', c6']
   ·
    obtain rfl := Option.some.inj h
    simp [C0, c86, Try.f86, hs1', c2']
 · simp [stf86_3]
theorem ok44 : okCode (C0 44) Try.f44.body.get! = true := by kernel_rfl
theorem f44_ok {k : Nat} {a0_0 : List S80} {a1_0 : Int} {a1_1 : ByteArray} {a1_2 : ByteArray} {a1_3 : ByteArray} {r : Bool × (List S80)} (h : f44 k a0_0 a1_0 a1_1 a1_2 a1_3 = some r) : callT Try.prog C0 P0 44 [T.sl (List.map e80 a0_0) [], T.agg [T.sc (.int .i64 a1_0), T.sc (.string a1_1), T.sc (.string a1_2), T.sc (.string a1_3)]] [] = some (T.tup [T.win 0 0 r.2.length, T.sc (.bool r.1)], [Ob.mkRow 2 (List.map e80 r.2)]) := by
 rw [callK_eq rfl Try.func44 rfl ok44]
 unfold f44 at h
 obtain ⟨t1, d1', h⟩ := bind_l h
 replace d1' := f52_ok d1'
 rcases ite_some h with ⟨c2', h⟩ | ⟨c2', h⟩
 ·
  rcases ite_some h with ⟨c3', h⟩ | ⟨c3', h⟩
  ·
   obtain ⟨c4', h⟩ := ite_l h
   obtain ⟨c5', h⟩ := ite_l h
   obtain ⟨t2, d6', h⟩ := bind_l h
   replace d6' := f85_ok d6'
   obtain rfl := Option.some.inj h
   simp [C0, c44, c52, c85, c86, Try.f44, d1', eq_true c2', c3', c4', c5', d6']
  ·
   obtain ⟨t3, d7', h⟩ := bind_l h
   replace d7' := f85_ok d7'
   obtain rfl := Option.some.inj h
   simp [C0, c44, c52, c85, c86, Try.f44, d1', eq_true c2', c3', d7']
 ·
  rcases ite_some h with ⟨c8', h⟩ | ⟨c8', h⟩
  ·
   obtain ⟨c9', h⟩ := ite_l h
   obtain ⟨c10', h⟩ := ite_l h
   obtain rfl := Option.some.inj h
   simp [C0, c44, c52, c85, c86, Try.f44, d1', c2', c8', c9', c10']
  ·
   obtain ⟨t4, d11', h⟩ := bind_l h
   replace d11' := f86_ok d11'
   rcases ite_some h with ⟨c12', h⟩ | ⟨c12', h⟩
   ·
    obtain ⟨c13', h⟩ := ite_l h
    obtain ⟨c14', h⟩ := ite_l h
    obtain ⟨t5, d15', h⟩ := bind_l h
    replace d15' := f85_ok d15'
    obtain rfl := Option.some.inj h
    simp [C0, c44, c52, c85, c86, Try.f44, d1', c2', c8', d11', eq_true c12', c13', c14', d15']
   ·
    obtain rfl := Option.some.inj h
    simp [C0, c44, c52, c85, c86, Try.f44, d1', c2', c8', d11', c12']
theorem ok58 : okCode (C0 58) Try.f58.body.get! = true := by kernel_rfl
theorem f58_ok {k : Nat} {a0_0 : Int} {a1_0 : Int} {a2_0 : Int} {r : Bool} (h : f58 k a0_0 a1_0 a2_0 = some r) : callT Try.prog C0 P0 58 [T.sc (.int .i64 a0_0), T.sc (.int .i64 a1_0), T.sc (.int .i64 a2_0)] [] = some (T.sc (.bool r), []) := by
 rw [callK_eq rfl Try.func58 rfl ok58]
 unfold f58 at h
 rcases ite_some h with ⟨c1', h⟩ | ⟨c1', h⟩
 ·
  obtain rfl := Option.some.inj h
  simp [C0, c58, Try.f58, c1']
 ·
  obtain rfl := Option.some.inj h
  simp [C0, c58, Try.f58, c1']
end Go.Proofs.Ytfjoamlgbegpgaa.P
