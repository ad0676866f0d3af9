/- Part of proofs of this seat: no statement of its own. -/
import Derived.Test.YtfjoamlgbegpgaaDB
set_option linter.unusedVariables false
set_option linter.unusedSimpArgs false
namespace Go.Proofs.Ytfjoamlgbegpgaa.P
open Go Go.Proofs.Ytfjoamlgbegpgaa.PM Go.Proofs
attribute [local simp] execK_seq execK_region execK_ret execK_skip execK_exit execK_block execK_cond condK_bool seqK_normal seqK_ret seqK_exit blockK_normal blockK_ret blockK_exit giveK_normal giveK_ret regionK clearK_none clearK_some normR_mk normR_def freshR fresh1 nextK_normal nextK_ret nextK_exit
  regionR runOps stepR wantR opR evalT lift lift1 Rd.run Rd.run_bind wrOk putT putAll putIn lookIn guardR Rd.ofOption obj buildSliceR mapR close close1 view1 plainB T.width T.cells room appendR strR newsR elemsR setAll most Ob.kill Ob.gone pure findK FCert.predsOf logsR Log.bare meets
  loadR storeR takeCells closeIf cellT splice T.withCells buildR fillR chk undT giveR resR outAll outOne outCell outCells outMany reachN refs refs1 posIn srcN validB mapV mapA mapC mapOb pickTmps lenR sliceR bound hiB loB makeSliceR copyR
  ev_add ev_sub ev_mul ev_quo ev_rem ev_sadd ev_eql ev_neq ev_lss ev_leq ev_gtr ev_geq ev_seql ev_sneq ev_slss ev_sleq ev_sgtr ev_sgeq ev_not ev_neg ev_unxor ev_conv scOf bsize_mk bytesOf bytesOf_map bytesOf_append eqSc eqFs strOf ev_min ev_and ev_or ev_xor ev_andNot ev_shl ev_shr indexAddrR intOf callR passAll passT pass1 reach passOb backN backS noSrc flatL verOf at_map byteAt_eq wid_append wid_nil wid_cons List.take_of_length_le wStr w_i64 w_u8 eStr eBool e_i64 e_u8 List.range_succ bytesL
  sz2 ag2 by2 ze2 sz3 ag3 by3 ze3 sz4 ag4 by4 ze4 sz5 ag5 by5 ze5 sz9 ag9 by9 ze9 sz22 ag22 by22 ze22 el22 sz23 ag23 by23 ze23 el23 sz25 ag25 by25 ze25 fs25 sz28 ag28 by28 ze28 el28 sz29 ag29 by29 ze29 el29 sz31 ag31 by31 ze31 fs31 sz38 ag38 by38 ze38 el38 sz40 ag40 by40 ze40 el40 sz51 ag51 by51 ze51 sz58 ag58 by58 ze58 el58 sz60 ag60 by60 ze60 fs60 sz73 ag73 by73 ze73 fs73 sz80 ag80 by80 ze80 fs80 sz81 ag81 by81 sz89 ag89 by89 ze89 el89 sz104 ag104 by104 ze104 fs104 sz106 ag106 by106 ze106 fs106 sz108 ag108 by108 ze108 fs108 sz120 ag120 by120 ze120 fs120 sz128 ag128 by128 ze128 el128 sz136 ag136 by136 ze136 fs136 sz141 ag141 by141 ze141 fs141 sz143 ag143 by143 ze143 sz145 ag145 by145 ze145 ck2 ck3 ck4 ck9 ck28 ck29 ck31 ck38 ck40 ck58 ck60 ck73 ck80 ck81 ck104 ck128 ck136 ck143 ck145 eq80 ft25_0 ft25_1 ft25_2 ft31_0 ft31_1 ft31_2 ft60_0 ft60_1 ft60_2 ft73_0 ft73_1 ft73_2 ft73_3 ft80_0 ft80_1 ft104_0 ft104_1 ft106_0 ft106_1 ft108_0 ft108_1 ft108_2 ft108_3 ft120_0 ft120_1 ft136_0 ft136_1 ft136_2 Try.underlying2 Try.underlying3 Try.underlying4 Try.underlying5 Try.underlying9 Try.underlying22 Try.underlying23 Try.underlying28 Try.underlying29 Try.underlying38 Try.underlying40 Try.underlying51 Try.underlying58 Try.underlying128 Try.underlying143 Try.underlying145 w73 w80 w104 w106 w108 w136 e73 e80 e104 e106 e108 e136
attribute [local simp] get_Int get_Str get_Bool get_byte g73 g80 g104 g106 g108 g136
set_option maxRecDepth 100000
set_option maxHeartbeats 4000000
theorem ok84 : okCode (C0 84) Try.f84.body.get! = true := by kernel_rfl
theorem f84_ok {k : Nat} {a0_0 : ByteArray} {r : Bool} (h : f84 k a0_0 = some r) : callT Try.prog C0 P0 84 [T.sc (.string a0_0)] [] = some (T.sc (.bool r), []) := by
 rw [callK_eq rfl Try.func84 rfl ok84]
 unfold f84 at h
 rcases ite_some h with ⟨c1', h⟩ | ⟨c1', h⟩
 ·
  obtain rfl := Option.some.inj h
  simp [C0, c84, Try.f84, c1']
 ·
  obtain rfl := Option.some.inj h
  simp [C0, c84, Try.f84, c1']
theorem ok52 : okCode (C0 52) Try.f52.body.get! = true := by kernel_rfl
theorem f52_ok {k : Nat} {a0_0 : List S80} {a1_0 : ByteArray} {r : Int} (h : f52 k a0_0 a1_0 = some r) : callT Try.prog C0 P0 52 [T.sl (List.map e80 a0_0) [], T.sc (.string a1_0)] [] = some (T.sc (.int .i64 r), []) := by
 rw [callK_eq rfl Try.func52 rfl ok52]
 unfold f52 at h
 simp [C0, c52, Try.f52]
 refine loop_ind (α := (List S80) × ByteArray × Int) k (fun x s => normR [(0, 0), (1, 0), (5, 0)] s = stf52_2 x.1 x.2.1 x.2.2) (fun k x => f52.l2 k x.1 x.2.1 x.2.2) (fun r => (some (T.sc (.int .i64 r), []) : Option (T × List Ob))) (fun x => by simp only [f52.l2]) _ ?_ (a0_0, a1_0, 0) _ ?_ h
 · rintro n1' ⟨x0, x1, x5⟩ s hn1' hs1' h ih2
   simp only [f52.l2] at h
   simp only [stf52_2] at hs1'
   rcases ite_some h with ⟨c2', h⟩ | ⟨c2', h⟩
   ·
    obtain ⟨c3', h⟩ := ite_l h
    rcases ite_some h with ⟨c4', h⟩ | ⟨c4', h⟩
    ·
     obtain rfl := Option.some.inj h
     simp [C0, c52, Try.f52, hs1', c2', c3', c4']
    ·
     simp [C0, c52, Try.f52, hs1', c2', c3', c4']
     refine ih2 _ (x0, x1, (IntKind.i64.wrap (x5 + 1))) _ (by omega) ?_ h
     simp [stf52_2, hs1', c2', c3', c4']
   ·
    obtain rfl := Option.some.inj h
    simp [C0, c52, Try.f52, hs1', c2']
 · simp [stf52_2]
theorem ok85 : okCode (C0 85) Try.f85.body.get! = true := by kernel_rfl
theorem f85_ok {k : Nat} {a0_0 : List S80} {a1_0 : ByteArray} {a2_0 : ByteArray} {r : (List S80)} (h : f85 k a0_0 a1_0 a2_0 = some r) : callT Try.prog C0 P0 85 [T.sl (List.map e80 a0_0) [], T.sc (.string a1_0), T.sc (.string a2_0)] [] = some (T.win 0 0 r.length, [Ob.mkRow 2 (List.map e80 r)]) := by
 rw [callK_eq rfl Try.func85 rfl ok85]
 unfold f85 at h
 simp (maxSteps := 2000000) [C0, c85, Try.f85]
 refine loop_ind (α := (List S80) × (List S80) × ByteArray × ByteArray × Bool × Int) k (fun x s => normR [(0, 0), (1, 0), (2, 0), (7, 0), (8, 0), (9, 0)] s = stf85_4 x.1 x.2.1 x.2.2.1 x.2.2.2.1 x.2.2.2.2.1 x.2.2.2.2.2) (fun k x => f85.l4 k x.1 x.2.1 x.2.2.1 x.2.2.2.1 x.2.2.2.2.1 x.2.2.2.2.2) (fun r => (some (T.win 0 0 r.length, [Ob.mkRow 2 (List.map e80 r)]) : Option (T × List Ob))) (fun x => by simp only [f85.l4]) _ ?_ (([] : List S80), a0_0, a1_0, a2_0, false, 0) _ ?_ h
 · rintro n1' ⟨q0, x0, x1, x2, x8, x9⟩ s hn1' hs1' h ih4
   simp only [f85.l4] at h
   simp only [stf85_4] at hs1'
   rcases ite_some h with ⟨c2', h⟩ | ⟨c2', h⟩
   ·
    rcases ite_some h with ⟨c3', h⟩ | ⟨c3', h⟩
    ·
     obtain ⟨c4', h⟩ := ite_l h
     rcases ite_some h with ⟨c5', h⟩ | ⟨c5', h⟩
     ·
      simp (maxSteps := 2000000) [C0, c85, Try.f85, hs1', c2', c3', c4', c5']
      refine ih4 _ (q0, x0, x1, x2, x8, (IntKind.i64.wrap (x9 + 1))) _ (by omega) ?_ h
      simp [stf85_4, hs1', c2', c3', c4', c5']
     ·
      obtain ⟨c6', h⟩ := ite_l h
      obtain ⟨c7', h⟩ := ite_l h
      simp (maxSteps := 2000000) [C0, c85, Try.f85, hs1', c2', c3', c4', c5', c6', c7']
      refine ih4 _ ((q0 ++ ([(⟨(at' x0 x9).f0, (at' x0 x9).f1⟩ : S80)] : List S80)), x0, x1, x2, x8, (IntKind.i64.wrap (x9 + 1))) _ (by omega) ?_ h
      simp [stf85_4, hs1', c2', c3', c4', c5', c6', c7']
    ·
     obtain ⟨c8', h⟩ := ite_l h
     rcases ite_some h with ⟨c9', h⟩ | ⟨c9', h⟩
     ·
      rcases ite_some h with ⟨c10', h⟩ | ⟨c10', h⟩
      ·
       simp (maxSteps := 2000000) [C0, c85, Try.f85, hs1', c2', c3', c8', c9', c10']
       refine ih4 _ (q0, x0, x1, x2, x8, (IntKind.i64.wrap (x9 + 1))) _ (by omega) ?_ h
       simp [stf85_4, hs1', c2', c3', c8', c9', c10']
      ·
       obtain ⟨c11', h⟩ := ite_l h
       obtain ⟨c12', h⟩ := ite_l h
       simp (maxSteps := 2000000) [C0, c85, Try.f85, hs1', c2', c3', c8', c9', c10', c11', c12']
       refine ih4 _ ((q0 ++ ([(⟨(at' x0 x9).f0, (at' x0 x9).f1⟩ : S80)] : List S80)), x0, x1, x2, x8, (IntKind.i64.wrap (x9 + 1))) _ (by omega) ?_ h
       simp [stf85_4, hs1', c2', c3', c8', c9', c10', c11', c12']
     ·
      obtain ⟨c13', h⟩ := ite_l h
      obtain ⟨c14', h⟩ := ite_l h
      rcases ite_some h with ⟨c15', h⟩ | ⟨c15', h⟩
      ·
       simp (maxSteps := 2000000) [C0, c85, Try.f85, hs1', c2', c3', c8', c9', c13', c14', c15']
       refine ih4 _ ((q0 ++ ([(⟨x1, x2⟩ : S80)] : List S80)), x0, x1, x2, true, (IntKind.i64.wrap (x9 + 1))) _ (by omega) ?_ h
       simp [stf85_4, hs1', c2', c3', c8', c9', c13', c14', c15']
      ·
       obtain ⟨c16', h⟩ := ite_l h
       obtain ⟨c17', h⟩ := ite_l h
       simp (maxSteps := 2000000) [C0, c85, Try.f85, hs1', c2', c3', c8', c9', c13', c14', c15', c16', c17']
       refine ih4 _ (((q0 ++ ([(⟨x1, x2⟩ : S80)] : List S80)) ++ ([(⟨(at' x0 x9).f0, (at' x0 x9).f1⟩ : S80)] : List S80)), x0, x1, x2, true, (IntKind.i64.wrap (x9 + 1))) _ (by omega) ?_ h
       simp [stf85_4, hs1', c2', c3', c8', c9', c13', c14', c15', c16', c17']
   ·
    rcases ite_some h with ⟨c18', h⟩ | ⟨c18', h⟩
    ·
     obtain rfl := Option.some.inj h
     simp (maxSteps := 2000000) [C0, c85, Try.f85, hs1', c2', c18']
    ·
     obtain ⟨c19', h⟩ := ite_l h
     obtain ⟨c20', h⟩ := ite_l h
     obtain rfl := Option.some.inj h
     simp (maxSteps := 2000000) [C0, c85, Try.f85, hs1', c2', c18', c19', c20']
 · simp [stf85_4]
theorem ok86 : okCode (C0 86) Try.f86.body.get! = true := by kernel_rfl
theorem f86_ok {k : Nat} {a0_0 : List S80} {a1_0 : ByteArray} {r : (List S80)} (h : f86 k a0_0 a1_0 = some r) : callT Try.prog C0 P0 86 [T.sl (List.map e80 a0_0) [], T.sc (.string a1_0)] [] = some (T.win 0 0 r.length, [Ob.mkRow 2 (List.map e80 r)]) := by
 rw [callK_eq rfl Try.func86 rfl ok86]
 unfold f86 at h
 simp [C0, c86, Try.f86]
 refine loop_ind (α := (List S80) × (List S80) × ByteArray × Int) k (fun x s => normR [(0, 0), (1, 0), (5, 0), (6, 0)] s = stf86_3 x.1 x.2.1 x.2.2.1 x.2.2.2) (fun k x => f86.l3 k x.1 x.2.1 x.2.2.1 x.2.2.2) (fun r => (some (T.win 0 0 r.length, [Ob.mkRow 2 (List.map e80 r)]) : Option (T × List Ob))) (fun x => by simp only [f86.l3]) _ ?_ (([] : List S80), a0_0, a1_0, 0) _ ?_ h
 · rintro n1' ⟨q0, x0, x1, x6⟩ s hn1' hs1' h ih3
   simp only [f86.l3] at h
   simp only [stf86_3] at hs1'
   rcases ite_some h with ⟨c2', h⟩ | ⟨c2', h⟩
   ·
    obtain ⟨c3', h⟩ := ite_l h
    rcases ite_some h with ⟨c4', h⟩ | ⟨c4', h⟩
    ·
     simp [C0, c86, Try.f86, hs1', c2', c3', c4']
     refine ih3 _ (q0, x0, x1, (IntKind.i64.wrap (x6 + 1))) _ (by omega) ?_ h
     simp [stf86_3, hs1', c2', c3', c4']
    ·
     obtain ⟨c5', h⟩ := ite_l h
     obtain ⟨c6', h⟩ := ite_l h
     simp [C0, c86, Try.f86, hs1', c2', c3', c4', c5', c6']
     refine ih3 _ ((q0 ++ ([(⟨(at' x0 x6).f0, (at' x0 x6).f1⟩ : S80)] : List S80)), x0, x1, (IntKind.i64.wrap (x6 + 1))) _ (by omega) ?_ h
     simp [stf86_3, hs1', c2', c3', c4', c5', c6']
   ·
    obtain rfl := Option.some.inj h
    simp [C0, c86, Try.f86, hs1', c2']
 · simp [stf86_3]
theorem ok58 : okCode (C0 58) Try.f58.body.get! = true := by kernel_rfl
theorem f58_ok {k : Nat} {a0_0 : Int} {a1_0 : Int} {a2_0 : Int} {r : Bool} (h : f58 k a0_0 a1_0 a2_0 = some r) : callT Try.prog C0 P0 58 [T.sc (.int .i64 a0_0), T.sc (.int .i64 a1_0), T.sc (.int .i64 a2_0)] [] = some (T.sc (.bool r), []) := by
 rw [callK_eq rfl Try.func58 rfl ok58]
 unfold f58 at h
 rcases ite_some h with ⟨c1', h⟩ | ⟨c1', h⟩
 ·
  obtain rfl := Option.some.inj h
  simp [C0, c58, Try.f58, c1']
 ·
  obtain rfl := Option.some.inj h
  simp [C0, c58, Try.f58, c1']
theorem f100_ok {k : Nat} {a1_0 : Int} {a2_0 : Int} {o0 : List S80} {r : (List S80)} (h : f100 k a1_0 a2_0 o0 = some r) : callT Try.prog C0 P0 100 [T.win 0 0 o0.length, T.sc (.int .i64 a1_0), T.sc (.int .i64 a2_0)] [Ob.mkRow 2 (List.map e80 o0)] = some (T.win 1 0 r.length, [(⟨true, false, true, true, 0, 2, List.map e80 o0⟩ : Ob), Ob.mkRow 2 (List.map e80 r)]) := by
 unfold f100 at h
 obtain ⟨⟨h0, h1, h2⟩, h⟩ := ite_l h
 obtain rfl := Option.some.inj h
 refine callT_prim (d := delD 2) rfl ?_
 have hl : (o0.take a1_0.toNat ++ o0.drop (a1_0.toNat + 1)).length = o0.length - 1 := by simp only [List.length_append, List.length_take, List.length_drop]; omega
 simp only [delD, List.length_map]
 rw [if_pos (by simp; omega), hl]
 simp [Ob.dead, Ob.mkRow]
theorem ok59 : okCode (C0 59) Try.f59.body.get! = true := by kernel_rfl
theorem f59_ok {k : Nat} {a0_0 : List S80} {r : (List S80)} (h : f59 k a0_0 = some r) : callT Try.prog C0 P0 59 [T.sl (List.map e80 a0_0) []] [] = some (T.win 0 0 r.length, [Ob.mkRow 2 (List.map e80 r)]) := by
 rw [callK_eq rfl Try.func59 rfl ok59]
 unfold f59 at h
 obtain ⟨c1', h⟩ := ite_l h
 obtain ⟨c2', h⟩ := ite_l h
 obtain rfl := Option.some.inj h
 simp [C0, c59, Try.f59, c1', c2']
end Go.Proofs.Ytfjoamlgbegpgaa.P
