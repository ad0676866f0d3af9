/- Part of the proof of FnExactCrash: no statement of its own. -/
import Derived.Test.YtfjoamlgbegpgaaCFnExactCrashB
import Derived.Test.YtfjoamlgbegpgaaCFnExactCrashF0
import Derived.Test.YtfjoamlgbegpgaaCFnExactCrashF1
import Derived.Test.YtfjoamlgbegpgaaCFnExactCrashF10
import Derived.Test.YtfjoamlgbegpgaaCFnExactCrashF11
import Derived.Test.YtfjoamlgbegpgaaCFnExactCrashF2
import Derived.Test.YtfjoamlgbegpgaaCFnExactCrashF5
import Derived.Test.YtfjoamlgbegpgaaCFnExactCrashF9
set_option linter.unusedVariables false
set_option linter.unusedSimpArgs false
namespace Go.Proofs.Ytfjoamlgbegpgaa.P
open Go Go.Proofs.Ytfjoamlgbegpgaa.PM Go.Proofs
attribute [local simp] execK_seq execK_region execK_ret execK_skip execK_exit execK_block execK_cond condK_bool seqK_normal seqK_ret seqK_exit blockK_normal blockK_ret blockK_exit giveK_normal giveK_ret regionK clearK_none clearK_some normR_mk normR_def freshR fresh1 nextK_normal nextK_ret nextK_exit
  regionR runOps stepR wantR opR evalT lift lift1 Rd.run Rd.run_bind wrOk putT putAll putIn lookIn guardR Rd.ofOption obj buildSliceR mapR close close1 view1 plainB T.width T.cells room appendR strR newsR elemsR setAll most Ob.kill Ob.gone pure findK FCert.predsOf logsR Log.bare meets
  loadR storeR takeCells closeIf cellT splice T.withCells buildR fillR chk undT giveR resR outAll outOne outCell outCells outMany reachN refs refs1 posIn srcN validB mapV mapA mapC mapOb pickTmps lenR sliceR bound hiB loB makeSliceR copyR
  ev_add ev_sub ev_mul ev_quo ev_rem ev_sadd ev_eql ev_neq ev_lss ev_leq ev_gtr ev_geq ev_seql ev_sneq ev_slss ev_sleq ev_sgtr ev_sgeq ev_not ev_neg ev_unxor ev_conv scOf bsize_mk bytesOf bytesOf_map bytesOf_append eqSc eqFs strOf ev_min ev_and ev_or ev_xor ev_andNot ev_shl ev_shr indexAddrR intOf callR passAll passT pass1 reach passOb backN backS noSrc flatL verOf at_map byteAt_eq wid_append wid_nil wid_cons List.take_of_length_le wStr w_i64 w_u8 eStr eBool e_i64 e_u8 List.range_succ bytesL
  sz2 ag2 by2 ze2 sz3 ag3 by3 ze3 sz4 ag4 by4 ze4 sz5 ag5 by5 ze5 sz9 ag9 by9 ze9 sz22 ag22 by22 ze22 el22 sz23 ag23 by23 ze23 el23 sz25 ag25 by25 ze25 fs25 sz28 ag28 by28 ze28 el28 sz29 ag29 by29 ze29 el29 sz31 ag31 by31 ze31 fs31 sz38 ag38 by38 ze38 el38 sz40 ag40 by40 ze40 el40 sz51 ag51 by51 ze51 sz73 ag73 by73 ze73 fs73 sz80 ag80 by80 ze80 fs80 sz81 ag81 by81 sz89 ag89 by89 ze89 el89 sz106 ag106 by106 ze106 fs106 sz108 ag108 by108 ze108 fs108 sz120 ag120 by120 ze120 fs120 sz145 ag145 by145 ze145 ck2 ck3 ck4 ck9 ck28 ck29 ck31 ck40 ck73 ck80 ck81 ck145 eq80 ft25_0 ft25_1 ft25_2 ft31_0 ft31_1 ft31_2 ft73_0 ft73_1 ft73_2 ft73_3 ft80_0 ft80_1 ft106_0 ft106_1 ft108_0 ft108_1 ft108_2 ft108_3 ft120_0 ft120_1 Try.underlying2 Try.underlying3 Try.underlying4 Try.underlying5 Try.underlying9 Try.underlying22 Try.underlying23 Try.underlying28 Try.underlying29 Try.underlying38 Try.underlying40 Try.underlying51 Try.underlying145 w73 w80 w106 w108 e73 e80 e106 e108
attribute [local simp] get_Int get_Str get_Bool get_byte g73 g80 g106 g108
set_option maxRecDepth 100000
set_option maxHeartbeats 4000000
theorem ok8 : okCode (C0 8) Try.f8.body.get! = true := by kernel_rfl
set_option maxHeartbeats 400000000 in
theorem f8_ok {k : Nat} {a0_0 : List S106} {a0_1 : List S106} {a0_2 : List S108} {a1_0 : List Int} {a2_0 : Int} {r : Bool} (h : f8 k a0_0 a0_1 a0_2 a1_0 a2_0 = some r) : callT Try.prog C0 P0 8 [T.agg [T.sl (List.map e106 a0_0) [], T.sl (List.map e106 a0_1) [], T.sl (List.map e108 a0_2) []], T.sl (List.map e_i64 a1_0) [], T.sc (.int .i64 a2_0)] [] = some (T.sc (.bool r), []) := by
 rw [callK_eq rfl Try.func8 rfl ok8]
 unfold f8 at h
 rcases ite_some h with ⟨c1', h⟩ | ⟨c1', h⟩
 ·
  obtain rfl := Option.some.inj h
  simp (maxSteps := 2000000) [C0, c8, c12, c14, c16, c21, c22, c29, c30, c31, c32, c33, Try.f8, c1']
 ·
  obtain ⟨t1, d2', h⟩ := bind_l h
  replace d2' := f12_ok d2'
  rcases ite_some h with ⟨c3', h⟩ | ⟨c3', h⟩
  ·
   obtain rfl := Option.some.inj h
   simp (maxSteps := 2000000) [C0, c8, c12, c14, c16, c21, c22, c29, c30, c31, c32, c33, Try.f8, c1', d2', c3']
  ·
   obtain ⟨t2, d4', h⟩ := bind_l h
   replace d4' := f14_ok d4'
   obtain ⟨t3, d5', h⟩ := bind_l h
   replace d5' := f31_ok d5'
   obtain ⟨t4, d6', h⟩ := bind_l h
   replace d6' := f21_ok d6'
   obtain ⟨t5, d7', h⟩ := bind_l h
   replace d7' := f22_ok d7'
   obtain ⟨t6, d8', h⟩ := bind_l h
   replace d8' := f16_ok d8'
   rcases ite_some h with ⟨c9', h⟩ | ⟨c9', h⟩
   ·
    rcases ite_some h with ⟨c10', h⟩ | ⟨c10', h⟩
    ·
     obtain ⟨t7, d11', h⟩ := bind_l h
     replace d11' := f16_ok d11'
     rcases ite_some h with ⟨c12', h⟩ | ⟨c12', h⟩
     ·
      obtain ⟨t8, d13', h⟩ := bind_l h
      replace d13' := f32_ok d13'
      rcases ite_some h with ⟨c14', h⟩ | ⟨c14', h⟩
      ·
       obtain ⟨t9, d15', h⟩ := bind_l h
       replace d15' := f29_ok d15'
       obtain ⟨t10, d16', h⟩ := bind_l h
       replace d16' := f33_ok d16'
       rcases ite_some h with ⟨c17', h⟩ | ⟨c17', h⟩
       ·
        obtain rfl := Option.some.inj h
        simp (maxSteps := 2000000) [C0, c8, c12, c14, c16, c21, c22, c29, c30, c31, c32, c33, Try.f8, c1', d2', c3', d4', d5', d6', d7', d8', c9', c10', d11', c12', d13', c14', d15', d16', c17']
       ·
        obtain ⟨t11, d18', h⟩ := bind_l h
        replace d18' := f29_ok d18'
        obtain ⟨c19', h⟩ := ite_l h
        obtain ⟨c20', h⟩ := ite_l h
        obtain ⟨c21', h⟩ := ite_l h
        obtain ⟨t12, d22', h⟩ := bind_l h
        replace d22' := f30_ok d22'
        simp at d22'
        rcases ite_some h with ⟨c23', h⟩ | ⟨c23', h⟩
        ·
         obtain rfl := Option.some.inj h
         simp (maxSteps := 2000000) [C0, c8, c12, c14, c16, c21, c22, c29, c30, c31, c32, c33, Try.f8, c1', d2', c3', d4', d5', d6', d7', d8', c9', c10', d11', c12', d13', c14', d15', d16', c17', d18', c19', c20', c21', d22', c23']
        ·
         rcases ite_some h with ⟨c24', h⟩ | ⟨c24', h⟩
         ·
          obtain rfl := Option.some.inj h
          simp (maxSteps := 2000000) [C0, c8, c12, c14, c16, c21, c22, c29, c30, c31, c32, c33, Try.f8, c1', d2', c3', d4', d5', d6', d7', d8', c9', c10', d11', c12', d13', c14', d15', d16', c17', d18', c19', c20', c21', d22', c23', eq_true c24']
         ·
          obtain rfl := Option.some.inj h
          simp (maxSteps := 2000000) [C0, c8, c12, c14, c16, c21, c22, c29, c30, c31, c32, c33, Try.f8, c1', d2', c3', d4', d5', d6', d7', d8', c9', c10', d11', c12', d13', c14', d15', d16', c17', d18', c19', c20', c21', d22', c23', c24']
      ·
       obtain rfl := Option.some.inj h
       simp (maxSteps := 2000000) [C0, c8, c12, c14, c16, c21, c22, c29, c30, c31, c32, c33, Try.f8, c1', d2', c3', d4', d5', d6', d7', d8', c9', c10', d11', c12', d13', c14']
     ·
      obtain rfl := Option.some.inj h
      simp (maxSteps := 2000000) [C0, c8, c12, c14, c16, c21, c22, c29, c30, c31, c32, c33, Try.f8, c1', d2', c3', d4', d5', d6', d7', d8', c9', c10', d11', c12']
    ·
     obtain rfl := Option.some.inj h
     simp (maxSteps := 2000000) [C0, c8, c12, c14, c16, c21, c22, c29, c30, c31, c32, c33, Try.f8, c1', d2', c3', d4', d5', d6', d7', d8', c9', c10']
   ·
    obtain rfl := Option.some.inj h
    simp (maxSteps := 2000000) [C0, c8, c12, c14, c16, c21, c22, c29, c30, c31, c32, c33, Try.f8, c1', d2', c3', d4', d5', d6', d7', d8', c9']
end Go.Proofs.Ytfjoamlgbegpgaa.P
