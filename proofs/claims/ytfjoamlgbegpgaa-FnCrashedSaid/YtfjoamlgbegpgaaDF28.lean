/- Part of proofs of this seat: no statement of its own. -/
import Derived.Test.YtfjoamlgbegpgaaDB
import Derived.Test.YtfjoamlgbegpgaaDF2
import Derived.Test.YtfjoamlgbegpgaaDF3
import Derived.Test.YtfjoamlgbegpgaaDF4
import Derived.Test.YtfjoamlgbegpgaaDF11
import Derived.Test.YtfjoamlgbegpgaaDF17
import Derived.Test.YtfjoamlgbegpgaaDF25
set_option linter.unusedVariables false
set_option linter.unusedSimpArgs false
namespace Go.Proofs.Ytfjoamlgbegpgaa.P
open Go Go.Proofs.Ytfjoamlgbegpgaa.PM Go.Proofs
attribute [local simp] execK_seq execK_region execK_ret execK_skip execK_exit execK_block execK_cond condK_bool seqK_normal seqK_ret seqK_exit blockK_normal blockK_ret blockK_exit giveK_normal giveK_ret regionK clearK_none clearK_some normR_mk normR_def freshR fresh1 nextK_normal nextK_ret nextK_exit
  regionR runOps stepR wantR opR evalT lift lift1 Rd.run Rd.run_bind wrOk putT putAll putIn lookIn guardR Rd.ofOption obj buildSliceR mapR close close1 view1 plainB T.width T.cells room appendR strR newsR elemsR setAll most Ob.kill Ob.gone pure findK FCert.predsOf logsR Log.bare meets
  loadR storeR takeCells closeIf cellT splice T.withCells buildR fillR chk undT giveR resR outAll outOne outCell outCells outMany reachN refs refs1 posIn srcN validB mapV mapA mapC mapOb pickTmps lenR sliceR bound hiB loB makeSliceR copyR
  ev_add ev_sub ev_mul ev_quo ev_rem ev_sadd ev_eql ev_neq ev_lss ev_leq ev_gtr ev_geq ev_seql ev_sneq ev_slss ev_sleq ev_sgtr ev_sgeq ev_not ev_neg ev_unxor ev_conv scOf bsize_mk bytesOf bytesOf_map bytesOf_append eqSc eqFs strOf ev_min ev_and ev_or ev_xor ev_andNot ev_shl ev_shr indexAddrR intOf callR passAll passT pass1 reach passOb backN backS noSrc flatL verOf at_map byteAt_eq wid_append wid_nil wid_cons List.take_of_length_le wStr w_i64 w_u8 eStr eBool e_i64 e_u8 List.range_succ bytesL
  sz2 ag2 by2 ze2 sz3 ag3 by3 ze3 sz4 ag4 by4 ze4 sz5 ag5 by5 ze5 sz9 ag9 by9 ze9 sz22 ag22 by22 ze22 el22 sz23 ag23 by23 ze23 el23 sz25 ag25 by25 ze25 fs25 sz28 ag28 by28 ze28 el28 sz29 ag29 by29 ze29 el29 sz31 ag31 by31 ze31 fs31 sz38 ag38 by38 ze38 el38 sz40 ag40 by40 ze40 el40 sz51 ag51 by51 ze51 sz58 ag58 by58 ze58 el58 sz60 ag60 by60 ze60 fs60 sz73 ag73 by73 ze73 fs73 sz80 ag80 by80 ze80 fs80 sz81 ag81 by81 sz89 ag89 by89 ze89 el89 sz104 ag104 by104 ze104 fs104 sz106 ag106 by106 ze106 fs106 sz108 ag108 by108 ze108 fs108 sz120 ag120 by120 ze120 fs120 sz128 ag128 by128 ze128 el128 sz136 ag136 by136 ze136 fs136 sz141 ag141 by141 ze141 fs141 sz143 ag143 by143 ze143 sz145 ag145 by145 ze145 ck2 ck3 ck4 ck9 ck28 ck29 ck31 ck38 ck40 ck58 ck60 ck73 ck80 ck81 ck104 ck128 ck136 ck143 ck145 eq80 ft25_0 ft25_1 ft25_2 ft31_0 ft31_1 ft31_2 ft60_0 ft60_1 ft60_2 ft73_0 ft73_1 ft73_2 ft73_3 ft80_0 ft80_1 ft104_0 ft104_1 ft106_0 ft106_1 ft108_0 ft108_1 ft108_2 ft108_3 ft120_0 ft120_1 ft136_0 ft136_1 ft136_2 Try.underlying2 Try.underlying3 Try.underlying4 Try.underlying5 Try.underlying9 Try.underlying22 Try.underlying23 Try.underlying28 Try.underlying29 Try.underlying38 Try.underlying40 Try.underlying51 Try.underlying58 Try.underlying128 Try.underlying143 Try.underlying145 w73 w80 w104 w106 w108 w136 e73 e80 e104 e106 e108 e136
attribute [local simp] get_Int get_Str get_Bool get_byte g73 g80 g104 g106 g108 g136
set_option maxRecDepth 100000
set_option maxHeartbeats 4000000
theorem ok5 : okCode (C0 5) Try.f5.body.get! = true := by kernel_rfl
set_option maxHeartbeats 400000000 in
theorem f5_ok {k : Nat} {a0_0 : List Int} {r : Bool} (h : f5 k a0_0 = some r) : callT Try.prog C0 P0 5 [T.sl (List.map e_u8 a0_0) []] [] = some (T.sc (.bool r), []) := by
 rw [callK_eq rfl Try.func5 rfl ok5]
 unfold f5 at h
 obtain ⟨t1, d1', h⟩ := bind_l h
 replace d1' := f19_ok d1'
 rcases ite_some h with ⟨c2', h⟩ | ⟨c2', h⟩
 ·
  obtain rfl := Option.some.inj h
  simp (maxSteps := 2000000) [C0, c5, c13, c15, c19, c20, c21, c22, c23, c24, Try.f5, d1', c2']
 ·
  simp (maxSteps := 2000000) [C0, c5, c13, c15, c19, c20, c21, c22, c23, c24, Try.f5, d1', c2']
  obtain ⟨t2, d3', h⟩ := bind_l h
  replace d3' := f20_ok d3'
  obtain ⟨t3, d4', h⟩ := bind_l h
  replace d4' := f21_ok d4'
  obtain ⟨t4, d5', h⟩ := bind_l h
  replace d5' := f22_ok d5'
  rcases ite_some h with ⟨c6', h⟩ | ⟨c6', h⟩
  ·
   simp (maxSteps := 2000000) [C0, c5, c13, c15, c19, c20, c21, c22, c23, c24, Try.f5, d1', c2', d3', d4', d5', c6']
   obtain ⟨t5, d7', h⟩ := bind_l h
   replace d7' := f13_ok d7'
   rcases ite_some h with ⟨c8', h⟩ | ⟨c8', h⟩
   ·
    simp (maxSteps := 2000000) [C0, c5, c13, c15, c19, c20, c21, c22, c23, c24, Try.f5, d1', c2', d3', d4', d5', c6', d7', c8']
    refine loop_ind (α := (List Int) × (List S80) × (List S80) × (List S73) × Bool × Int × (List S80) × (List S80) × (List S73)) k (fun x s => normR [(3, 0), (8, 0), (9, 0), (10, 0), (11, 0)] s = stf5_12 x.1 x.2.1 x.2.2.1 x.2.2.2.1 x.2.2.2.2.1 x.2.2.2.2.2.1 x.2.2.2.2.2.2.1 x.2.2.2.2.2.2.2.1 x.2.2.2.2.2.2.2.2) (fun k x => f5.l12 k x.1 x.2.1 x.2.2.1 x.2.2.2.1 x.2.2.2.2.1 x.2.2.2.2.2.1 x.2.2.2.2.2.2.1 x.2.2.2.2.2.2.2.1 x.2.2.2.2.2.2.2.2) (fun r => (some (T.sc (.bool r), []) : Option (T × List Ob))) (fun x => by simp only [f5.l12]) _ ?_ (([] : List Int), t4.2.1, t4.2.2.1, t4.2.2.2, t4.1, 0, t2.1, t2.2.1, t2.2.2.1) _ ?_ h
    · rintro n9' ⟨q2, q3, q4, q5, x9, x11, b0_0, b0_1, b0_2⟩ s hn9' hs9' h ih12
      simp only [f5.l12] at h
      simp only [stf5_12] at hs9'
      rcases ite_some h with ⟨c10', h⟩ | ⟨c10', h⟩
      ·
       obtain ⟨c11', h⟩ := ite_l h
       obtain ⟨c12', h⟩ := ite_l h
       simp (maxSteps := 2000000) [C0, c5, c13, c15, c19, c20, c21, c22, c23, c24, Try.f5, d1', c2', d3', d4', d5', c6', d7', c8', hs9', c10', c11', c12']
       refine ih12 _ ((q2 ++ ([x11] : List Int)), q3, q4, q5, x9, (IntKind.i64.wrap (x11 + 1)), b0_0, b0_1, b0_2) _ (by omega) ?_ h
       simp [stf5_12, d1', c2', d3', d4', d5', c6', d7', c8', hs9', c10', c11', c12']
      ·
       simp (maxSteps := 2000000) [C0, c5, c13, c15, c19, c20, c21, c22, c23, c24, Try.f5, d1', c2', d3', d4', d5', c6', d7', c8', hs9', c10']
       obtain ⟨t6, d13', h⟩ := bind_l h
       replace d13' := f22_ok d13'
       obtain ⟨t7, d14', h⟩ := bind_l h
       replace d14' := f22_ok d14'
       simp at d14'
       rcases ite_some h with ⟨c15', h⟩ | ⟨c15', h⟩
       ·
        rcases ite_some h with ⟨c16', h⟩ | ⟨c16', h⟩
        ·
         simp (maxSteps := 2000000) [C0, c5, c13, c15, c19, c20, c21, c22, c23, c24, Try.f5, d1', c2', d3', d4', d5', c6', d7', c8', hs9', c10', d13', d14', c15', c16']
         obtain ⟨t8, d17', h⟩ := bind_l h
         replace d17' := f23_ok d17'
         rcases ite_some h with ⟨c18', h⟩ | ⟨c18', h⟩
         ·
          simp (maxSteps := 2000000) [C0, c5, c13, c15, c19, c20, c21, c22, c23, c24, Try.f5, d1', c2', d3', d4', d5', c6', d7', c8', hs9', c10', d13', d14', c15', c16', d17', c18']
          obtain ⟨t9, d19', h⟩ := bind_l h
          replace d19' := f23_ok d19'
          rcases ite_some h with ⟨c20', h⟩ | ⟨c20', h⟩
          ·
           rcases ite_some h with ⟨c21', h⟩ | ⟨c21', h⟩
           ·
            have c21's := c21'
            try simp at c21's
            simp (maxSteps := 2000000) [C0, c5, c13, c15, c19, c20, c21, c22, c23, c24, Try.f5, d1', c2', d3', d4', d5', c6', d7', c8', hs9', c10', d13', d14', c15', c16', d17', c18', d19', c20', eq_true c21', eq_true c21's]
            obtain ⟨t10, d22', h⟩ := bind_l h
            replace d22' := f24_ok d22'
            obtain ⟨t11, d23', h⟩ := bind_l h
            replace d23' := f22_ok d23'
            simp at d23'
            rcases ite_some h with ⟨c24', h⟩ | ⟨c24', h⟩
            ·
             simp (maxSteps := 2000000) [C0, c5, c13, c15, c19, c20, c21, c22, c23, c24, Try.f5, d1', c2', d3', d4', d5', c6', d7', c8', hs9', c10', d13', d14', c15', c16', d17', c18', d19', c20', eq_true c21', eq_true c21's, d22', d23', c24']
             obtain ⟨t12, d25', h⟩ := bind_l h
             replace d25' := f23_ok d25'
             rcases ite_some h with ⟨c26', h⟩ | ⟨c26', h⟩
             ·
              rcases ite_some h with ⟨c27', h⟩ | ⟨c27', h⟩
              ·
               simp (maxSteps := 2000000) [C0, c5, c13, c15, c19, c20, c21, c22, c23, c24, Try.f5, d1', c2', d3', d4', d5', c6', d7', c8', hs9', c10', d13', d14', c15', c16', d17', c18', d19', c20', eq_true c21', eq_true c21's, d22', d23', c24', d25', c26', c27']
               obtain ⟨t13, d28', h⟩ := bind_l h
               replace d28' := f15_ok d28'
               rcases ite_some h with ⟨c29', h⟩ | ⟨c29', h⟩
               ·
                obtain rfl := Option.some.inj h
                simp (maxSteps := 2000000) [C0, c5, c13, c15, c19, c20, c21, c22, c23, c24, Try.f5, d1', c2', d3', d4', d5', c6', d7', c8', hs9', c10', d13', d14', c15', c16', d17', c18', d19', c20', eq_true c21', eq_true c21's, d22', d23', c24', d25', c26', c27', d28', c29']
               ·
                obtain rfl := Option.some.inj h
                simp (maxSteps := 2000000) [C0, c5, c13, c15, c19, c20, c21, c22, c23, c24, Try.f5, d1', c2', d3', d4', d5', c6', d7', c8', hs9', c10', d13', d14', c15', c16', d17', c18', d19', c20', eq_true c21', eq_true c21's, d22', d23', c24', d25', c26', c27', d28', c29']
              ·
               obtain rfl := Option.some.inj h
               simp (maxSteps := 2000000) [C0, c5, c13, c15, c19, c20, c21, c22, c23, c24, Try.f5, d1', c2', d3', d4', d5', c6', d7', c8', hs9', c10', d13', d14', c15', c16', d17', c18', d19', c20', eq_true c21', eq_true c21's, d22', d23', c24', d25', c26', c27']
             ·
              simp (maxSteps := 2000000) [C0, c5, c13, c15, c19, c20, c21, c22, c23, c24, Try.f5, d1', c2', d3', d4', d5', c6', d7', c8', hs9', c10', d13', d14', c15', c16', d17', c18', d19', c20', eq_true c21', eq_true c21's, d22', d23', c24', d25', c26']
              obtain ⟨t14, d30', h⟩ := bind_l h
              replace d30' := f15_ok d30'
              rcases ite_some h with ⟨c31', h⟩ | ⟨c31', h⟩
              ·
               obtain rfl := Option.some.inj h
               simp (maxSteps := 2000000) [C0, c5, c13, c15, c19, c20, c21, c22, c23, c24, Try.f5, d1', c2', d3', d4', d5', c6', d7', c8', hs9', c10', d13', d14', c15', c16', d17', c18', d19', c20', eq_true c21', eq_true c21's, d22', d23', c24', d25', c26', d30', c31']
              ·
               obtain rfl := Option.some.inj h
               simp (maxSteps := 2000000) [C0, c5, c13, c15, c19, c20, c21, c22, c23, c24, Try.f5, d1', c2', d3', d4', d5', c6', d7', c8', hs9', c10', d13', d14', c15', c16', d17', c18', d19', c20', eq_true c21', eq_true c21's, d22', d23', c24', d25', c26', d30', c31']
            ·
             simp (maxSteps := 2000000) [C0, c5, c13, c15, c19, c20, c21, c22, c23, c24, Try.f5, d1', c2', d3', d4', d5', c6', d7', c8', hs9', c10', d13', d14', c15', c16', d17', c18', d19', c20', eq_true c21', eq_true c21's, d22', d23', c24']
             obtain ⟨t15, d32', h⟩ := bind_l h
             replace d32' := f15_ok d32'
             rcases ite_some h with ⟨c33', h⟩ | ⟨c33', h⟩
             ·
              obtain rfl := Option.some.inj h
              simp (maxSteps := 2000000) [C0, c5, c13, c15, c19, c20, c21, c22, c23, c24, Try.f5, d1', c2', d3', d4', d5', c6', d7', c8', hs9', c10', d13', d14', c15', c16', d17', c18', d19', c20', eq_true c21', eq_true c21's, d22', d23', c24', d32', c33']
             ·
              obtain rfl := Option.some.inj h
              simp (maxSteps := 2000000) [C0, c5, c13, c15, c19, c20, c21, c22, c23, c24, Try.f5, d1', c2', d3', d4', d5', c6', d7', c8', hs9', c10', d13', d14', c15', c16', d17', c18', d19', c20', eq_true c21', eq_true c21's, d22', d23', c24', d32', c33']
           ·
            have c21's := c21'
            try simp at c21's
            obtain rfl := Option.some.inj h
            simp (maxSteps := 2000000) [C0, c5, c13, c15, c19, c20, c21, c22, c23, c24, Try.f5, d1', c2', d3', d4', d5', c6', d7', c8', hs9', c10', d13', d14', c15', c16', d17', c18', d19', c20', c21', c21's]
          ·
           obtain rfl := Option.some.inj h
           simp (maxSteps := 2000000) [C0, c5, c13, c15, c19, c20, c21, c22, c23, c24, Try.f5, d1', c2', d3', d4', d5', c6', d7', c8', hs9', c10', d13', d14', c15', c16', d17', c18', d19', c20']
         ·
          obtain rfl := Option.some.inj h
          simp (maxSteps := 2000000) [C0, c5, c13, c15, c19, c20, c21, c22, c23, c24, Try.f5, d1', c2', d3', d4', d5', c6', d7', c8', hs9', c10', d13', d14', c15', c16', d17', c18']
        ·
         obtain rfl := Option.some.inj h
         simp (maxSteps := 2000000) [C0, c5, c13, c15, c19, c20, c21, c22, c23, c24, Try.f5, d1', c2', d3', d4', d5', c6', d7', c8', hs9', c10', d13', d14', c15', c16']
       ·
        obtain rfl := Option.some.inj h
        simp (maxSteps := 2000000) [C0, c5, c13, c15, c19, c20, c21, c22, c23, c24, Try.f5, d1', c2', d3', d4', d5', c6', d7', c8', hs9', c10', d13', d14', c15']
    · simp [stf5_12, d1', c2', d3', d4', d5', c6', d7', c8']
   ·
    obtain rfl := Option.some.inj h
    simp (maxSteps := 2000000) [C0, c5, c13, c15, c19, c20, c21, c22, c23, c24, Try.f5, d1', c2', d3', d4', d5', c6', d7', c8']
  ·
   obtain rfl := Option.some.inj h
   simp (maxSteps := 2000000) [C0, c5, c13, c15, c19, c20, c21, c22, c23, c24, Try.f5, d1', c2', d3', d4', d5', c6']
end Go.Proofs.Ytfjoamlgbegpgaa.P
