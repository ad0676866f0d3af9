/- Part of proofs of this seat: no statement of its own. -/
import Derived.Test.YtfjoamlgbegpgaaDB
import Derived.Test.YtfjoamlgbegpgaaDF0
import Derived.Test.YtfjoamlgbegpgaaDF1
import Derived.Test.YtfjoamlgbegpgaaDF10
import Derived.Test.YtfjoamlgbegpgaaDF21
set_option linter.unusedVariables false
set_option linter.unusedSimpArgs false
namespace Go.Proofs.Ytfjoamlgbegpgaa.P
open Go Go.Proofs.Ytfjoamlgbegpgaa.PM Go.Proofs
attribute [local simp] execK_seq execK_region execK_ret execK_skip execK_exit execK_block execK_cond condK_bool seqK_normal seqK_ret seqK_exit blockK_normal blockK_ret blockK_exit giveK_normal giveK_ret regionK clearK_none clearK_some normR_mk normR_def freshR fresh1 nextK_normal nextK_ret nextK_exit
  regionR runOps stepR wantR opR evalT lift lift1 Rd.run Rd.run_bind wrOk putT putAll putIn lookIn guardR Rd.ofOption obj buildSliceR mapR close close1 view1 plainB T.width T.cells room appendR strR newsR elemsR setAll most Ob.kill Ob.gone pure findK FCert.predsOf logsR Log.bare meets
  loadR storeR takeCells closeIf cellT splice T.withCells buildR fillR chk undT giveR resR outAll outOne outCell outCells outMany reachN refs refs1 posIn srcN validB mapV mapA mapC mapOb pickTmps lenR sliceR bound hiB loB makeSliceR copyR
  ev_add ev_sub ev_mul ev_quo ev_rem ev_sadd ev_eql ev_neq ev_lss ev_leq ev_gtr ev_geq ev_seql ev_sneq ev_slss ev_sleq ev_sgtr ev_sgeq ev_not ev_neg ev_unxor ev_conv scOf bsize_mk bytesOf bytesOf_map bytesOf_append eqSc eqFs strOf ev_min ev_and ev_or ev_xor ev_andNot ev_shl ev_shr indexAddrR intOf callR passAll passT pass1 reach passOb backN backS noSrc flatL verOf at_map byteAt_eq wid_append wid_nil wid_cons List.take_of_length_le wStr w_i64 w_u8 eStr eBool e_i64 e_u8 List.range_succ bytesL
  sz2 ag2 by2 ze2 sz3 ag3 by3 ze3 sz4 ag4 by4 ze4 sz5 ag5 by5 ze5 sz9 ag9 by9 ze9 sz22 ag22 by22 ze22 el22 sz23 ag23 by23 ze23 el23 sz25 ag25 by25 ze25 fs25 sz28 ag28 by28 ze28 el28 sz29 ag29 by29 ze29 el29 sz31 ag31 by31 ze31 fs31 sz38 ag38 by38 ze38 el38 sz40 ag40 by40 ze40 el40 sz51 ag51 by51 ze51 sz58 ag58 by58 ze58 el58 sz60 ag60 by60 ze60 fs60 sz73 ag73 by73 ze73 fs73 sz80 ag80 by80 ze80 fs80 sz81 ag81 by81 sz89 ag89 by89 ze89 el89 sz104 ag104 by104 ze104 fs104 sz106 ag106 by106 ze106 fs106 sz108 ag108 by108 ze108 fs108 sz120 ag120 by120 ze120 fs120 sz128 ag128 by128 ze128 el128 sz136 ag136 by136 ze136 fs136 sz141 ag141 by141 ze141 fs141 sz143 ag143 by143 ze143 sz145 ag145 by145 ze145 ck2 ck3 ck4 ck9 ck28 ck29 ck31 ck38 ck40 ck58 ck60 ck73 ck80 ck81 ck104 ck128 ck136 ck143 ck145 eq80 ft25_0 ft25_1 ft25_2 ft31_0 ft31_1 ft31_2 ft60_0 ft60_1 ft60_2 ft73_0 ft73_1 ft73_2 ft73_3 ft80_0 ft80_1 ft104_0 ft104_1 ft106_0 ft106_1 ft108_0 ft108_1 ft108_2 ft108_3 ft120_0 ft120_1 ft136_0 ft136_1 ft136_2 Try.underlying2 Try.underlying3 Try.underlying4 Try.underlying5 Try.underlying9 Try.underlying22 Try.underlying23 Try.underlying28 Try.underlying29 Try.underlying38 Try.underlying40 Try.underlying51 Try.underlying58 Try.underlying128 Try.underlying143 Try.underlying145 w73 w80 w104 w106 w108 w136 e73 e80 e104 e106 e108 e136
attribute [local simp] get_Int get_Str get_Bool get_byte g73 g80 g104 g106 g108 g136
set_option maxRecDepth 100000
set_option maxHeartbeats 4000000
theorem ok22 : okCode (C0 22) Try.f22.body.get! = true := by kernel_rfl
theorem f22_ok {k : Nat} {a0_0 : List S80} {a0_1 : List S80} {a0_2 : List S73} {a1_0 : List Int} {a2_0 : Int} {r : Bool × (List S80) × (List S80) × (List S73)} (h : f22 k a0_0 a0_1 a0_2 a1_0 a2_0 = some r) : callT Try.prog C0 P0 22 [T.agg [T.sl (List.map e80 a0_0) [], T.sl (List.map e80 a0_1) [], T.sl (List.map e73 a0_2) []], T.sl (List.map e_i64 a1_0) [], T.sc (.int .i64 a2_0)] [] = some (T.tup [T.agg [T.win 0 0 r.2.1.length, T.win 1 0 r.2.2.1.length, T.win 2 0 r.2.2.2.length], T.sc (.bool r.1)], [Ob.mkRow 2 (List.map e80 r.2.1), Ob.mkRow 2 (List.map e80 r.2.2.1), Ob.mkRow 4 (List.map e73 r.2.2.2)]) := by
 rw [callK_eq rfl Try.func22 rfl ok22]
 unfold f22 at h
 obtain ⟨t1, d1', h⟩ := bind_l h
 replace d1' := f49_ok d1'
 rcases ite_some h with ⟨c2', h⟩ | ⟨c2', h⟩
 ·
  rcases ite_some h with ⟨c3', h⟩ | ⟨c3', h⟩
  ·
   obtain rfl := Option.some.inj h
   simp (maxSteps := 2000000) [C0, c22, c49, c59, c60, c61, c62, Try.f22, d1', c2', c3']
  ·
   obtain ⟨t2, d4', h⟩ := bind_l h
   replace d4' := f59_ok d4'
   simp (maxSteps := 2000000) [C0, c22, c49, c59, c60, c61, c62, Try.f22, d1', c2', c3', d4']
   refine loop_ind (α := (List S80) × (List Int) × Int × (List Int) × Int × Int × (List S80) × (List S80) × (List S73)) k (fun x s => normR [(1, 0), (2, 0), (3, 0), (6, 0), (8, 0), (25, 0), (26, 0), (27, 0)] s = stf22_5 x.1 x.2.1 x.2.2.1 x.2.2.2.1 x.2.2.2.2.1 x.2.2.2.2.2.1 x.2.2.2.2.2.2.1 x.2.2.2.2.2.2.2.1 x.2.2.2.2.2.2.2.2) (fun k x => f22.l5 k x.1 x.2.1 x.2.2.1 x.2.2.2.1 x.2.2.2.2.1 x.2.2.2.2.2.1 x.2.2.2.2.2.2.1 x.2.2.2.2.2.2.2.1 x.2.2.2.2.2.2.2.2) (fun r => (some (T.tup [T.agg [T.win 0 0 r.2.1.length, T.win 1 0 r.2.2.1.length, T.win 2 0 r.2.2.2.length], T.sc (.bool r.1)], [Ob.mkRow 2 (List.map e80 r.2.1), Ob.mkRow 2 (List.map e80 r.2.2.1), Ob.mkRow 4 (List.map e73 r.2.2.2)]) : Option (T × List Ob))) (fun x => by simp only [f22.l5]) _ ?_ (t2, a1_0, a2_0, a1_0, (a1_0.length : Int), 0, a0_0, a0_1, a0_2) _ ?_ h
   · rintro n5' ⟨q2, x1, x2, x25, x26, x27, b0_0, b0_1, b0_2⟩ s hn5' hs5' h ih5
     simp only [f22.l5] at h
     simp only [stf22_5] at hs5'
     rcases ite_some h with ⟨c6', h⟩ | ⟨c6', h⟩
     ·
      obtain ⟨c7', h⟩ := ite_l h
      obtain ⟨c8', h⟩ := ite_l h
      obtain ⟨t3, d9', h⟩ := bind_l h
      replace d9' := f60_ok d9'
      rcases ite_some h with ⟨c10', h⟩ | ⟨c10', h⟩
      ·
       rcases ite_some h with ⟨c11', h⟩ | ⟨c11', h⟩
       ·
        obtain ⟨c12', h⟩ := ite_l h
        obtain ⟨c13', h⟩ := ite_l h
        rcases ite_some h with ⟨c14', h⟩ | ⟨c14', h⟩
        ·
         obtain rfl := Option.some.inj h
         simp (maxSteps := 2000000) [C0, c22, c49, c59, c60, c61, c62, Try.f22, d1', c2', c3', d4', hs5', c6', c7', c8', d9', c10', c11', c12', c13', c14']
        ·
         obtain ⟨c15', h⟩ := ite_l h
         obtain ⟨c16', h⟩ := ite_l h
         rcases ite_some h with ⟨c17', h⟩ | ⟨c17', h⟩
         ·
          obtain ⟨c18', h⟩ := ite_l h
          obtain ⟨c19', h⟩ := ite_l h
          obtain ⟨t4, d20', h⟩ := bind_l h
          replace d20' := f61_ok d20'
          rcases t4 with t4 | t4
          ·
           dsimp only at d20' h
           simp (maxSteps := 2000000) [C0, c22, c49, c59, c60, c61, c62, Try.f22, d1', c2', c3', d4', hs5', c6', c7', c8', d9', c10', c11', c12', c13', c14', c15', c16', eq_true c17', c18', c19', d20']
           refine ih5 _ (t4, x1, x2, x25, x26, (IntKind.i64.wrap (x27 + 1)), b0_0, b0_1, b0_2) _ (by omega) ?_ h
           simp [stf22_5, d1', c2', c3', d4', hs5', c6', c7', c8', d9', c10', c11', c12', c13', c14', c15', c16', eq_true c17', c18', c19', d20']
          ·
           dsimp only at d20' h
           simp (maxSteps := 2000000) [C0, c22, c49, c59, c60, c61, c62, Try.f22, d1', c2', c3', d4', hs5', c6', c7', c8', d9', c10', c11', c12', c13', c14', c15', c16', eq_true c17', c18', c19', d20']
           refine ih5 _ (q2, x1, x2, x25, x26, (IntKind.i64.wrap (x27 + 1)), b0_0, b0_1, b0_2) _ (by omega) ?_ h
           simp [stf22_5, d1', c2', c3', d4', hs5', c6', c7', c8', d9', c10', c11', c12', c13', c14', c15', c16', eq_true c17', c18', c19', d20']
         ·
          obtain ⟨t5, d21', h⟩ := bind_l h
          replace d21' := f61_ok d21'
          rcases t5 with t5 | t5
          ·
           dsimp only at d21' h
           simp (maxSteps := 2000000) [C0, c22, c49, c59, c60, c61, c62, Try.f22, d1', c2', c3', d4', hs5', c6', c7', c8', d9', c10', c11', c12', c13', c14', c15', c16', c17', d21']
           refine ih5 _ (t5, x1, x2, x25, x26, (IntKind.i64.wrap (x27 + 1)), b0_0, b0_1, b0_2) _ (by omega) ?_ h
           simp [stf22_5, d1', c2', c3', d4', hs5', c6', c7', c8', d9', c10', c11', c12', c13', c14', c15', c16', c17', d21']
          ·
           dsimp only at d21' h
           simp (maxSteps := 2000000) [C0, c22, c49, c59, c60, c61, c62, Try.f22, d1', c2', c3', d4', hs5', c6', c7', c8', d9', c10', c11', c12', c13', c14', c15', c16', c17', d21']
           refine ih5 _ (q2, x1, x2, x25, x26, (IntKind.i64.wrap (x27 + 1)), b0_0, b0_1, b0_2) _ (by omega) ?_ h
           simp [stf22_5, d1', c2', c3', d4', hs5', c6', c7', c8', d9', c10', c11', c12', c13', c14', c15', c16', c17', d21']
       ·
        obtain ⟨c22', h⟩ := ite_l h
        obtain ⟨c23', h⟩ := ite_l h
        rcases ite_some h with ⟨c24', h⟩ | ⟨c24', h⟩
        ·
         obtain ⟨c25', h⟩ := ite_l h
         obtain ⟨c26', h⟩ := ite_l h
         obtain ⟨t6, d27', h⟩ := bind_l h
         replace d27' := f61_ok d27'
         rcases t6 with t6 | t6
         ·
          dsimp only at d27' h
          simp (maxSteps := 2000000) [C0, c22, c49, c59, c60, c61, c62, Try.f22, d1', c2', c3', d4', hs5', c6', c7', c8', d9', c10', c11', c22', c23', eq_true c24', c25', c26', d27']
          refine ih5 _ (t6, x1, x2, x25, x26, (IntKind.i64.wrap (x27 + 1)), b0_0, b0_1, b0_2) _ (by omega) ?_ h
          simp [stf22_5, d1', c2', c3', d4', hs5', c6', c7', c8', d9', c10', c11', c22', c23', eq_true c24', c25', c26', d27']
         ·
          dsimp only at d27' h
          simp (maxSteps := 2000000) [C0, c22, c49, c59, c60, c61, c62, Try.f22, d1', c2', c3', d4', hs5', c6', c7', c8', d9', c10', c11', c22', c23', eq_true c24', c25', c26', d27']
          refine ih5 _ (q2, x1, x2, x25, x26, (IntKind.i64.wrap (x27 + 1)), b0_0, b0_1, b0_2) _ (by omega) ?_ h
          simp [stf22_5, d1', c2', c3', d4', hs5', c6', c7', c8', d9', c10', c11', c22', c23', eq_true c24', c25', c26', d27']
        ·
         obtain ⟨t7, d28', h⟩ := bind_l h
         replace d28' := f61_ok d28'
         rcases t7 with t7 | t7
         ·
          dsimp only at d28' h
          simp (maxSteps := 2000000) [C0, c22, c49, c59, c60, c61, c62, Try.f22, d1', c2', c3', d4', hs5', c6', c7', c8', d9', c10', c11', c22', c23', c24', d28']
          refine ih5 _ (t7, x1, x2, x25, x26, (IntKind.i64.wrap (x27 + 1)), b0_0, b0_1, b0_2) _ (by omega) ?_ h
          simp [stf22_5, d1', c2', c3', d4', hs5', c6', c7', c8', d9', c10', c11', c22', c23', c24', d28']
         ·
          dsimp only at d28' h
          simp (maxSteps := 2000000) [C0, c22, c49, c59, c60, c61, c62, Try.f22, d1', c2', c3', d4', hs5', c6', c7', c8', d9', c10', c11', c22', c23', c24', d28']
          refine ih5 _ (q2, x1, x2, x25, x26, (IntKind.i64.wrap (x27 + 1)), b0_0, b0_1, b0_2) _ (by omega) ?_ h
          simp [stf22_5, d1', c2', c3', d4', hs5', c6', c7', c8', d9', c10', c11', c22', c23', c24', d28']
      ·
       obtain rfl := Option.some.inj h
       simp (maxSteps := 2000000) [C0, c22, c49, c59, c60, c61, c62, Try.f22, d1', c2', c3', d4', hs5', c6', c7', c8', d9', c10']
     ·
      obtain ⟨t8, d29', h⟩ := bind_l h
      replace d29' := f62_ok d29'
      rcases ite_some h with ⟨c30', h⟩ | ⟨c30', h⟩
      ·
       obtain ⟨t9, d31', h⟩ := bind_l h
       replace d31' := f59_ok d31'
       obtain rfl := Option.some.inj h
       simp (maxSteps := 2000000) [C0, c22, c49, c59, c60, c61, c62, Try.f22, d1', c2', c3', d4', hs5', c6', d29', c30', d31']
      ·
       obtain rfl := Option.some.inj h
       simp (maxSteps := 2000000) [C0, c22, c49, c59, c60, c61, c62, Try.f22, d1', c2', c3', d4', hs5', c6', d29', c30']
   · simp [stf22_5, d1', c2', c3', d4']
 ·
  obtain rfl := Option.some.inj h
  simp (maxSteps := 2000000) [C0, c22, c49, c59, c60, c61, c62, Try.f22, d1', c2']
end Go.Proofs.Ytfjoamlgbegpgaa.P
