/- Part of proofs of this seat: no statement of its own. -/
import Derived.Test.YtfjoamlgbegpgaaDB
import Derived.Test.YtfjoamlgbegpgaaDF2
import Derived.Test.YtfjoamlgbegpgaaDF3
set_option linter.unusedVariables false
set_option linter.unusedSimpArgs false
namespace Go.Proofs.Ytfjoamlgbegpgaa.P
open Go Go.Proofs.Ytfjoamlgbegpgaa.PM Go.Proofs
attribute [local simp] execK_seq execK_region execK_ret execK_skip execK_exit execK_block execK_cond condK_bool seqK_normal seqK_ret seqK_exit blockK_normal blockK_ret blockK_exit giveK_normal giveK_ret regionK clearK_none clearK_some normR_mk normR_def freshR fresh1 nextK_normal nextK_ret nextK_exit
  regionR runOps stepR wantR opR evalT lift lift1 Rd.run Rd.run_bind wrOk putT putAll putIn lookIn guardR Rd.ofOption obj buildSliceR mapR close close1 view1 plainB T.width T.cells room appendR strR newsR elemsR setAll most Ob.kill Ob.gone pure findK FCert.predsOf logsR Log.bare meets
  loadR storeR takeCells closeIf cellT splice T.withCells buildR fillR chk undT giveR resR outAll outOne outCell outCells outMany reachN refs refs1 posIn srcN validB mapV mapA mapC mapOb pickTmps lenR sliceR bound hiB loB makeSliceR copyR
  ev_add ev_sub ev_mul ev_quo ev_rem ev_sadd ev_eql ev_neq ev_lss ev_leq ev_gtr ev_geq ev_seql ev_sneq ev_slss ev_sleq ev_sgtr ev_sgeq ev_not ev_neg ev_unxor ev_conv scOf bsize_mk bytesOf bytesOf_map bytesOf_append eqSc eqFs strOf ev_min ev_and ev_or ev_xor ev_andNot ev_shl ev_shr indexAddrR intOf callR passAll passT pass1 reach passOb backN backS noSrc flatL verOf at_map byteAt_eq wid_append wid_nil wid_cons List.take_of_length_le wStr w_i64 w_u8 eStr eBool e_i64 e_u8 List.range_succ bytesL
  sz2 ag2 by2 ze2 sz3 ag3 by3 ze3 sz4 ag4 by4 ze4 sz5 ag5 by5 ze5 sz9 ag9 by9 ze9 sz22 ag22 by22 ze22 el22 sz23 ag23 by23 ze23 el23 sz25 ag25 by25 ze25 fs25 sz28 ag28 by28 ze28 el28 sz29 ag29 by29 ze29 el29 sz31 ag31 by31 ze31 fs31 sz38 ag38 by38 ze38 el38 sz40 ag40 by40 ze40 el40 sz51 ag51 by51 ze51 sz58 ag58 by58 ze58 el58 sz60 ag60 by60 ze60 fs60 sz73 ag73 by73 ze73 fs73 sz80 ag80 by80 ze80 fs80 sz81 ag81 by81 sz89 ag89 by89 ze89 el89 sz104 ag104 by104 ze104 fs104 sz106 ag106 by106 ze106 fs106 sz108 ag108 by108 ze108 fs108 sz120 ag120 by120 ze120 fs120 sz128 ag128 by128 ze128 el128 sz136 ag136 by136 ze136 fs136 sz141 ag141 by141 ze141 fs141 sz143 ag143 by143 ze143 sz145 ag145 by145 ze145 ck2 ck3 ck4 ck9 ck28 ck29 ck31 ck38 ck40 ck58 ck60 ck73 ck80 ck81 ck104 ck128 ck136 ck143 ck145 eq80 ft25_0 ft25_1 ft25_2 ft31_0 ft31_1 ft31_2 ft60_0 ft60_1 ft60_2 ft73_0 ft73_1 ft73_2 ft73_3 ft80_0 ft80_1 ft104_0 ft104_1 ft106_0 ft106_1 ft108_0 ft108_1 ft108_2 ft108_3 ft120_0 ft120_1 ft136_0 ft136_1 ft136_2 Try.underlying2 Try.underlying3 Try.underlying4 Try.underlying5 Try.underlying9 Try.underlying22 Try.underlying23 Try.underlying28 Try.underlying29 Try.underlying38 Try.underlying40 Try.underlying51 Try.underlying58 Try.underlying128 Try.underlying143 Try.underlying145 w73 w80 w104 w106 w108 w136 e73 e80 e104 e106 e108 e136
attribute [local simp] get_Int get_Str get_Bool get_byte g73 g80 g104 g106 g108 g136
set_option maxRecDepth 100000
set_option maxHeartbeats 4000000
theorem ok55 : okCode (C0 55) Try.f55.body.get! = true := by kernel_rfl
set_option maxHeartbeats 400000000 in
theorem f55_ok {k : Nat} {o0_0 : List Int} {o0_1 : Int} {r : (List S80) × (List S80) × (List S73) × (List Int) × Int} (h : f55 k o0_0 o0_1 = some r) : callT Try.prog C0 P0 55 [T.ptr 0 0 0] [Ob.mkBox 2 (T.agg [T.sl (List.map e_u8 o0_0) [], T.sc (.int .i64 o0_1)])] = some (T.agg [T.sl (List.map e80 r.1) [], T.sl (List.map e80 r.2.1) [], T.sl (List.map e73 r.2.2.1) []], [Ob.mkBox 2 (T.agg [T.sl (List.map e_u8 r.2.2.2.1) [], T.sc (.int .i64 r.2.2.2.2)])]) := by
 rw [callK_eq rfl Try.func55 rfl ok55]
 unfold f55 at h
 have wid_rep : ∀ n : Nat, wid 1 (List.replicate n (T.sc (.int .u8 0))) = true := fun n => by simp only [wid, List.all_eq_true]; intro x hx; rw [List.eq_of_mem_replicate hx]; rfl
 obtain ⟨t1, d1', h⟩ := bind_l h
 replace d1' := f95_ok d1'
 simp (maxSteps := 2000000) [C0, c55, c28, c56, c63, c95, c96, c97, Try.f55, d1', Int.le_max_left, bytesOf_rep, wid_rep]
 refine loop_ind (α := Int × (List Int) × Int) k (fun x s => normR [(0, 0), (2, 0), (3, 0), (4, 0)] s = stf55_3 x.1 x.2.1 x.2.2) (fun k x => f55.l3 k x.1 x.2.1 x.2.2) (fun r => (some (T.agg [T.sl (List.map e80 r.1) [], T.sl (List.map e80 r.2.1) [], T.sl (List.map e73 r.2.2.1) []], [Ob.mkBox 2 (T.agg [T.sl (List.map e_u8 r.2.2.2.1) [], T.sc (.int .i64 r.2.2.2.2)])]) : Option (T × List Ob))) (fun x => by simp only [f55.l3]) _ ?_ (t1.1, o0_0, t1.2) _ ?_ h
 · rintro n2' ⟨x4, b0_0, b0_1⟩ s hn2' hs2' h ih3
   simp only [f55.l3] at h
   simp only [stf55_3] at hs2'
   rcases ite_some h with ⟨c3', h⟩ | ⟨c3', h⟩
   ·
    obtain ⟨t2, d4', h⟩ := bind_l h
    replace d4' := f56_ok d4'
    rcases ite_some h with ⟨c5', h⟩ | ⟨c5', h⟩
    ·
     obtain ⟨t3, d6', h⟩ := bind_l h
     replace d6' := f28_ok d6'
     simp at d6'
     simp (maxSteps := 2000000) [C0, c55, c28, c56, c63, c95, c96, c97, Try.f55, d1', Int.le_max_left, bytesOf_rep, wid_rep, hs2', c3', d4', c5', d6']
     refine loop_ind (α := (List S80) × (List S80) × (List S73) × Int × (List Int) × Int) n2' (fun x s => normR [(0, 0), (2, 0), (3, 0), (4, 0)] s = stf55_3v1 x.1 x.2.1 x.2.2.1 x.2.2.2.1 x.2.2.2.2.1 x.2.2.2.2.2) (fun k x => f55.l3v1 k x.1 x.2.1 x.2.2.1 x.2.2.2.1 x.2.2.2.2.1 x.2.2.2.2.2) (fun r => (some (T.agg [T.sl (List.map e80 r.1) [], T.sl (List.map e80 r.2.1) [], T.sl (List.map e73 r.2.2.1) []], [Ob.mkBox 2 (T.agg [T.sl (List.map e_u8 r.2.2.2.1) [], T.sc (.int .i64 r.2.2.2.2)])]) : Option (T × List Ob))) (fun x => by simp only [f55.l3v1]) _ ?_ (t3.1, t3.2.1, t3.2.2, (IntKind.i64.wrap (x4 - 1)), b0_0, t2.2) _ ?_ h
     · rintro n7' ⟨q3, q4, q5, x4, b0_0, b0_1⟩ s hn7' hs7' h ih3v1
       simp only [f55.l3v1] at h
       simp only [stf55_3v1] at hs7'
       rcases ite_some h with ⟨c8', h⟩ | ⟨c8', h⟩
       ·
        obtain ⟨t4, d9', h⟩ := bind_l h
        replace d9' := f56_ok d9'
        rcases ite_some h with ⟨c10', h⟩ | ⟨c10', h⟩
        ·
         obtain ⟨t5, d11', h⟩ := bind_l h
         replace d11' := f28_ok d11'
         simp (maxSteps := 2000000) [C0, c55, c28, c56, c63, c95, c96, c97, Try.f55, d1', Int.le_max_left, bytesOf_rep, wid_rep, hs2', c3', d4', c5', d6', hs7', c8', d9', c10', d11']
         refine ih3v1 _ (t5.1, t5.2.1, t5.2.2, (IntKind.i64.wrap (x4 - 1)), b0_0, t4.2) _ (by omega) ?_ h
         simp [stf55_3v1, d1', Int.le_max_left, bytesOf_rep, wid_rep, hs2', c3', d4', c5', d6', hs7', c8', d9', c10', d11']
        ·
         obtain ⟨t6, d12', h⟩ := bind_l h
         replace d12' := f97_ok d12'
         obtain ⟨t7, d13', h⟩ := bind_l h
         replace d13' := f96_ok d13'
         rcases ite_some h with ⟨c14', h⟩ | ⟨c14', h⟩
         ·
          simp (maxSteps := 2000000) [C0, c55, c28, c56, c63, c95, c96, c97, Try.f55, d1', Int.le_max_left, bytesOf_rep, wid_rep, hs2', c3', d4', c5', d6', hs7', c8', d9', c10', d12', d13', eq_true c14']
          refine ih3v1 _ (t7.2.1, t7.2.2.1, t7.2.2.2, (IntKind.i64.wrap (x4 - 1)), b0_0, t6.2.2.2.2) _ (by omega) ?_ h
          simp [stf55_3v1, d1', Int.le_max_left, bytesOf_rep, wid_rep, hs2', c3', d4', c5', d6', hs7', c8', d9', c10', d12', d13', eq_true c14']
         ·
          simp (maxSteps := 2000000) [C0, c55, c28, c56, c63, c95, c96, c97, Try.f55, d1', Int.le_max_left, bytesOf_rep, wid_rep, hs2', c3', d4', c5', d6', hs7', c8', d9', c10', d12', d13', c14']
          refine ih3v1 _ (q3, q4, q5, (IntKind.i64.wrap (x4 - 1)), b0_0, t6.2.2.2.2) _ (by omega) ?_ h
          simp [stf55_3v1, d1', Int.le_max_left, bytesOf_rep, wid_rep, hs2', c3', d4', c5', d6', hs7', c8', d9', c10', d12', d13', c14']
       ·
        obtain ⟨t8, d15', h⟩ := bind_l h
        replace d15' := f63_ok d15'
        rcases ite_some h with ⟨c16', h⟩ | ⟨c16', h⟩
        ·
         obtain ⟨c17', h⟩ := ite_l h
         obtain ⟨c18', h⟩ := ite_l h
         obtain rfl := Option.some.inj h
         simp (maxSteps := 2000000) [C0, c55, c28, c56, c63, c95, c96, c97, Try.f55, d1', Int.le_max_left, bytesOf_rep, wid_rep, hs2', c3', d4', c5', d6', hs7', c8', d15', eq_true c16', c17', c18']
        ·
         rcases ite_some h with ⟨c19', h⟩ | ⟨c19', h⟩
         ·
          rcases ite_some h with ⟨c20', h⟩ | ⟨c20', h⟩
          ·
           have c20'' : 0 < (q5.length : Nat) := Int.natCast_pos.1 c20'
           obtain ⟨c21', h⟩ := ite_l h
           have c21'w : 1 + (q5.length - 1) ≤ q5.length := by omega
           obtain rfl := Option.some.inj h
           simp (maxSteps := 2000000) [C0, c55, c28, c56, c63, c95, c96, c97, Try.f55, d1', Int.le_max_left, bytesOf_rep, wid_rep, hs2', c3', d4', c5', d6', hs7', c8', d15', c16', eq_true c19', c20', c20'', c21', c21'w]
          ·
           have c20'' : ¬ 0 < (q5.length : Nat) := fun h => c20' (Int.natCast_pos.2 h)
           obtain rfl := Option.some.inj h
           simp (maxSteps := 2000000) [C0, c55, c28, c56, c63, c95, c96, c97, Try.f55, d1', Int.le_max_left, bytesOf_rep, wid_rep, hs2', c3', d4', c5', d6', hs7', c8', d15', c16', eq_true c19', c20', c20'']
         ·
          rcases ite_some h with ⟨c22', h⟩ | ⟨c22', h⟩
          ·
           obtain ⟨t9, d23', h⟩ := bind_l h
           replace d23' := f63_ok d23'
           obtain ⟨c24', h⟩ := ite_l h
           obtain ⟨c25', h⟩ := ite_l h
           obtain ⟨c26', h⟩ := ite_l h
           obtain ⟨c27', h⟩ := ite_l h
           obtain rfl := Option.some.inj h
           simp (maxSteps := 2000000) [C0, c55, c28, c56, c63, c95, c96, c97, Try.f55, d1', Int.le_max_left, bytesOf_rep, wid_rep, hs2', c3', d4', c5', d6', hs7', c8', d15', c16', c19', eq_true c22', d23', c24', c25', c26', c27']
          ·
           obtain rfl := Option.some.inj h
           simp (maxSteps := 2000000) [C0, c55, c28, c56, c63, c95, c96, c97, Try.f55, d1', Int.le_max_left, bytesOf_rep, wid_rep, hs2', c3', d4', c5', d6', hs7', c8', d15', c16', c19', c22']
     · simp [stf55_3v1, d1', Int.le_max_left, bytesOf_rep, wid_rep, hs2', c3', d4', c5', d6']
    ·
     obtain ⟨t10, d28', h⟩ := bind_l h
     replace d28' := f97_ok d28'
     obtain ⟨t11, d29', h⟩ := bind_l h
     replace d29' := f96_ok d29'
     simp at d29'
     rcases ite_some h with ⟨c30', h⟩ | ⟨c30', h⟩
     ·
      simp (maxSteps := 2000000) [C0, c55, c28, c56, c63, c95, c96, c97, Try.f55, d1', Int.le_max_left, bytesOf_rep, wid_rep, hs2', c3', d4', c5', d28', d29', eq_true c30']
      refine loop_ind (α := (List S80) × (List S80) × (List S73) × Int × (List Int) × Int) n2' (fun x s => normR [(0, 0), (2, 0), (3, 0), (4, 0)] s = stf55_3v1 x.1 x.2.1 x.2.2.1 x.2.2.2.1 x.2.2.2.2.1 x.2.2.2.2.2) (fun k x => f55.l3v1 k x.1 x.2.1 x.2.2.1 x.2.2.2.1 x.2.2.2.2.1 x.2.2.2.2.2) (fun r => (some (T.agg [T.sl (List.map e80 r.1) [], T.sl (List.map e80 r.2.1) [], T.sl (List.map e73 r.2.2.1) []], [Ob.mkBox 2 (T.agg [T.sl (List.map e_u8 r.2.2.2.1) [], T.sc (.int .i64 r.2.2.2.2)])]) : Option (T × List Ob))) (fun x => by simp only [f55.l3v1]) _ ?_ (t11.2.1, t11.2.2.1, t11.2.2.2, (IntKind.i64.wrap (x4 - 1)), b0_0, t10.2.2.2.2) _ ?_ h
      · rintro n31' ⟨q3, q4, q5, x4, b0_0, b0_1⟩ s hn31' hs31' h ih3v1
        simp only [f55.l3v1] at h
        simp only [stf55_3v1] at hs31'
        rcases ite_some h with ⟨c32', h⟩ | ⟨c32', h⟩
        ·
         obtain ⟨t4, d33', h⟩ := bind_l h
         replace d33' := f56_ok d33'
         rcases ite_some h with ⟨c34', h⟩ | ⟨c34', h⟩
         ·
          obtain ⟨t5, d35', h⟩ := bind_l h
          replace d35' := f28_ok d35'
          simp (maxSteps := 2000000) [C0, c55, c28, c56, c63, c95, c96, c97, Try.f55, d1', Int.le_max_left, bytesOf_rep, wid_rep, hs2', c3', d4', c5', d28', d29', eq_true c30', hs31', c32', d33', c34', d35']
          refine ih3v1 _ (t5.1, t5.2.1, t5.2.2, (IntKind.i64.wrap (x4 - 1)), b0_0, t4.2) _ (by omega) ?_ h
          simp [stf55_3v1, d1', Int.le_max_left, bytesOf_rep, wid_rep, hs2', c3', d4', c5', d28', d29', eq_true c30', hs31', c32', d33', c34', d35']
         ·
          obtain ⟨t6, d36', h⟩ := bind_l h
          replace d36' := f97_ok d36'
          obtain ⟨t7, d37', h⟩ := bind_l h
          replace d37' := f96_ok d37'
          rcases ite_some h with ⟨c38', h⟩ | ⟨c38', h⟩
          ·
           simp (maxSteps := 2000000) [C0, c55, c28, c56, c63, c95, c96, c97, Try.f55, d1', Int.le_max_left, bytesOf_rep, wid_rep, hs2', c3', d4', c5', d28', d29', eq_true c30', hs31', c32', d33', c34', d36', d37', eq_true c38']
           refine ih3v1 _ (t7.2.1, t7.2.2.1, t7.2.2.2, (IntKind.i64.wrap (x4 - 1)), b0_0, t6.2.2.2.2) _ (by omega) ?_ h
           simp [stf55_3v1, d1', Int.le_max_left, bytesOf_rep, wid_rep, hs2', c3', d4', c5', d28', d29', eq_true c30', hs31', c32', d33', c34', d36', d37', eq_true c38']
          ·
           simp (maxSteps := 2000000) [C0, c55, c28, c56, c63, c95, c96, c97, Try.f55, d1', Int.le_max_left, bytesOf_rep, wid_rep, hs2', c3', d4', c5', d28', d29', eq_true c30', hs31', c32', d33', c34', d36', d37', c38']
           refine ih3v1 _ (q3, q4, q5, (IntKind.i64.wrap (x4 - 1)), b0_0, t6.2.2.2.2) _ (by omega) ?_ h
           simp [stf55_3v1, d1', Int.le_max_left, bytesOf_rep, wid_rep, hs2', c3', d4', c5', d28', d29', eq_true c30', hs31', c32', d33', c34', d36', d37', c38']
        ·
         obtain ⟨t8, d39', h⟩ := bind_l h
         replace d39' := f63_ok d39'
         rcases ite_some h with ⟨c40', h⟩ | ⟨c40', h⟩
         ·
          obtain ⟨c41', h⟩ := ite_l h
          obtain ⟨c42', h⟩ := ite_l h
          obtain rfl := Option.some.inj h
          simp (maxSteps := 2000000) [C0, c55, c28, c56, c63, c95, c96, c97, Try.f55, d1', Int.le_max_left, bytesOf_rep, wid_rep, hs2', c3', d4', c5', d28', d29', eq_true c30', hs31', c32', d39', eq_true c40', c41', c42']
         ·
          rcases ite_some h with ⟨c43', h⟩ | ⟨c43', h⟩
          ·
           rcases ite_some h with ⟨c44', h⟩ | ⟨c44', h⟩
           ·
            have c44'' : 0 < (q5.length : Nat) := Int.natCast_pos.1 c44'
            obtain ⟨c45', h⟩ := ite_l h
            have c45'w : 1 + (q5.length - 1) ≤ q5.length := by omega
            obtain rfl := Option.some.inj h
            simp (maxSteps := 2000000) [C0, c55, c28, c56, c63, c95, c96, c97, Try.f55, d1', Int.le_max_left, bytesOf_rep, wid_rep, hs2', c3', d4', c5', d28', d29', eq_true c30', hs31', c32', d39', c40', eq_true c43', c44', c44'', c45', c45'w]
           ·
            have c44'' : ¬ 0 < (q5.length : Nat) := fun h => c44' (Int.natCast_pos.2 h)
            obtain rfl := Option.some.inj h
            simp (maxSteps := 2000000) [C0, c55, c28, c56, c63, c95, c96, c97, Try.f55, d1', Int.le_max_left, bytesOf_rep, wid_rep, hs2', c3', d4', c5', d28', d29', eq_true c30', hs31', c32', d39', c40', eq_true c43', c44', c44'']
          ·
           rcases ite_some h with ⟨c46', h⟩ | ⟨c46', h⟩
           ·
            obtain ⟨t9, d47', h⟩ := bind_l h
            replace d47' := f63_ok d47'
            obtain ⟨c48', h⟩ := ite_l h
            obtain ⟨c49', h⟩ := ite_l h
            obtain ⟨c50', h⟩ := ite_l h
            obtain ⟨c51', h⟩ := ite_l h
            obtain rfl := Option.some.inj h
            simp (maxSteps := 2000000) [C0, c55, c28, c56, c63, c95, c96, c97, Try.f55, d1', Int.le_max_left, bytesOf_rep, wid_rep, hs2', c3', d4', c5', d28', d29', eq_true c30', hs31', c32', d39', c40', c43', eq_true c46', d47', c48', c49', c50', c51']
           ·
            obtain rfl := Option.some.inj h
            simp (maxSteps := 2000000) [C0, c55, c28, c56, c63, c95, c96, c97, Try.f55, d1', Int.le_max_left, bytesOf_rep, wid_rep, hs2', c3', d4', c5', d28', d29', eq_true c30', hs31', c32', d39', c40', c43', c46']
      · simp [stf55_3v1, d1', Int.le_max_left, bytesOf_rep, wid_rep, hs2', c3', d4', c5', d28', d29', eq_true c30']
     ·
      simp (maxSteps := 2000000) [C0, c55, c28, c56, c63, c95, c96, c97, Try.f55, d1', Int.le_max_left, bytesOf_rep, wid_rep, hs2', c3', d4', c5', d28', d29', c30']
      refine ih3 _ ((IntKind.i64.wrap (x4 - 1)), b0_0, t10.2.2.2.2) _ (by omega) ?_ h
      simp [stf55_3, d1', Int.le_max_left, bytesOf_rep, wid_rep, hs2', c3', d4', c5', d28', d29', c30']
   ·
    obtain ⟨t12, d52', h⟩ := bind_l h
    replace d52' := f63_ok d52'
    rcases ite_some h with ⟨c53', h⟩ | ⟨c53', h⟩
    ·
     obtain ⟨c54', h⟩ := ite_l h
     obtain rfl := Option.some.inj h
     simp (maxSteps := 2000000) [C0, c55, c28, c56, c63, c95, c96, c97, Try.f55, d1', Int.le_max_left, bytesOf_rep, wid_rep, hs2', c3', d52', eq_true c53', c54']
    ·
     rcases ite_some h with ⟨c55', h⟩ | ⟨c55', h⟩
     ·
      obtain rfl := Option.some.inj h
      simp (maxSteps := 2000000) [C0, c55, c28, c56, c63, c95, c96, c97, Try.f55, d1', Int.le_max_left, bytesOf_rep, wid_rep, hs2', c3', d52', c53', eq_true c55']
     ·
      rcases ite_some h with ⟨c56', h⟩ | ⟨c56', h⟩
      ·
       obtain ⟨t13, d57', h⟩ := bind_l h
       replace d57' := f63_ok d57'
       obtain ⟨c58', h⟩ := ite_l h
       obtain ⟨c59', h⟩ := ite_l h
       obtain ⟨c60', h⟩ := ite_l h
       obtain ⟨c61', h⟩ := ite_l h
       obtain rfl := Option.some.inj h
       simp (maxSteps := 2000000) [C0, c55, c28, c56, c63, c95, c96, c97, Try.f55, d1', Int.le_max_left, bytesOf_rep, wid_rep, hs2', c3', d52', c53', c55', eq_true c56', d57', c58', c59', c60', c61']
      ·
       obtain rfl := Option.some.inj h
       simp (maxSteps := 2000000) [C0, c55, c28, c56, c63, c95, c96, c97, Try.f55, d1', Int.le_max_left, bytesOf_rep, wid_rep, hs2', c3', d52', c53', c55', c56']
 · simp [stf55_3, d1', Int.le_max_left, bytesOf_rep, wid_rep]
end Go.Proofs.Ytfjoamlgbegpgaa.P
