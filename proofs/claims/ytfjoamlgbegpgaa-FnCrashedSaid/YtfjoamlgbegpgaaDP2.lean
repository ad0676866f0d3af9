/- Part of proofs of this seat: no statement of its own. -/
import Derived.Test.YtfjoamlgbegpgaaDB
import Derived.Test.YtfjoamlgbegpgaaDP0
import Derived.Test.YtfjoamlgbegpgaaDP1
set_option linter.unusedVariables false
set_option linter.unusedSimpArgs false
namespace Go.Proofs.Ytfjoamlgbegpgaa.P
open Go Go.Proofs.Ytfjoamlgbegpgaa.PM Go.Proofs
attribute [local simp] execK_seq execK_region execK_ret execK_skip execK_exit execK_block execK_cond condK_bool seqK_normal seqK_ret seqK_exit blockK_normal blockK_ret blockK_exit giveK_normal giveK_ret regionK clearK_none clearK_some normR_mk normR_def freshR fresh1 nextK_normal nextK_ret nextK_exit
  regionR runOps stepR wantR opR evalT lift lift1 Rd.run Rd.run_bind wrOk putT putAll putIn lookIn guardR Rd.ofOption obj buildSliceR mapR close close1 view1 plainB T.width T.cells room appendR strR newsR elemsR setAll most Ob.kill Ob.gone pure findK FCert.predsOf logsR Log.bare meets
  loadR storeR takeCells closeIf cellT splice T.withCells buildR fillR chk undT giveR resR outAll outOne outCell outCells outMany reachN refs refs1 posIn srcN validB mapV mapA mapC mapOb pickTmps lenR sliceR bound hiB loB makeSliceR copyR
  ev_add ev_sub ev_mul ev_quo ev_rem ev_sadd ev_eql ev_neq ev_lss ev_leq ev_gtr ev_geq ev_seql ev_sneq ev_slss ev_sleq ev_sgtr ev_sgeq ev_not ev_neg ev_unxor ev_conv scOf bsize_mk bytesOf bytesOf_map bytesOf_append eqSc eqFs strOf ev_min ev_and ev_or ev_xor ev_andNot ev_shl ev_shr indexAddrR intOf callR passAll passT pass1 reach passOb backN backS noSrc flatL verOf at_map byteAt_eq wid_append wid_nil wid_cons List.take_of_length_le wStr w_i64 w_u8 eStr eBool e_i64 e_u8 List.range_succ bytesL
  sz2 ag2 by2 ze2 sz3 ag3 by3 ze3 sz4 ag4 by4 ze4 sz5 ag5 by5 ze5 sz9 ag9 by9 ze9 sz22 ag22 by22 ze22 el22 sz23 ag23 by23 ze23 el23 sz25 ag25 by25 ze25 fs25 sz28 ag28 by28 ze28 el28 sz29 ag29 by29 ze29 el29 sz31 ag31 by31 ze31 fs31 sz38 ag38 by38 ze38 el38 sz40 ag40 by40 ze40 el40 sz51 ag51 by51 ze51 sz58 ag58 by58 ze58 el58 sz60 ag60 by60 ze60 fs60 sz73 ag73 by73 ze73 fs73 sz80 ag80 by80 ze80 fs80 sz81 ag81 by81 sz89 ag89 by89 ze89 el89 sz104 ag104 by104 ze104 fs104 sz106 ag106 by106 ze106 fs106 sz108 ag108 by108 ze108 fs108 sz120 ag120 by120 ze120 fs120 sz128 ag128 by128 ze128 el128 sz136 ag136 by136 ze136 fs136 sz141 ag141 by141 ze141 fs141 sz143 ag143 by143 ze143 sz145 ag145 by145 ze145 ck2 ck3 ck4 ck9 ck28 ck29 ck31 ck38 ck40 ck58 ck60 ck73 ck80 ck81 ck104 ck128 ck136 ck143 ck145 eq80 ft25_0 ft25_1 ft25_2 ft31_0 ft31_1 ft31_2 ft60_0 ft60_1 ft60_2 ft73_0 ft73_1 ft73_2 ft73_3 ft80_0 ft80_1 ft104_0 ft104_1 ft106_0 ft106_1 ft108_0 ft108_1 ft108_2 ft108_3 ft120_0 ft120_1 ft136_0 ft136_1 ft136_2 Try.underlying2 Try.underlying3 Try.underlying4 Try.underlying5 Try.underlying9 Try.underlying22 Try.underlying23 Try.underlying28 Try.underlying29 Try.underlying38 Try.underlying40 Try.underlying51 Try.underlying58 Try.underlying128 Try.underlying143 Try.underlying145 w73 w80 w104 w106 w108 w136 e73 e80 e104 e106 e108 e136
attribute [local simp] get_Int get_Str get_Bool get_byte g73 g80 g104 g106 g108 g136
set_option maxRecDepth 100000
set_option maxHeartbeats 4000000
def cend121 : FCert := ⟨[true, false, true], true, [], [(11, [[], [], [], [], [], [], [], [], [4, 7]]), (15, [[], [], [], [], [], [], [], [], [4, 7]])]⟩
theorem okend121 : okCode cend121 Try.f121.body.get! = true := by kernel_rfl
theorem end121 (xs : List T) (y : T) (hw : wid 2 xs = true) (hy : y.width = 2) (h1 : (xs.length + 1) * 32 ≤ most) (h2 : xs.length + 1 ≤ most) : callT Try.prog (fun _ => cend121) (fun _ => none) 121 [.win 0 0 xs.length, .sc (.int .i64 xs.length), .win 1 0 1] [Ob.mkRow 2 xs, Ob.mkRow 2 [y]] = some (.win 2 0 (xs.length + 1), [⟨true, false, true, true, 0, 2, xs⟩, Ob.mkRow 2 [y], Ob.mkRow 2 (xs ++ [y])]) := by
 unfold most at h1 h2
 rw [callK_eq rfl Try.func121 rfl okend121]
 cases y with
 | agg cs =>
  have hy' : cs.length = 2 := hy
  simp [cend121, Try.f121, hw, hy', h1, h2]
 | _ => exact absurd hy (by simp [T.width, T.cells])
def cend103 : FCert := ⟨[true, false, true], true, [], [(11, [[], [], [], [], [], [], [], [], [4, 7]]), (15, [[], [], [], [], [], [], [], [], [4, 7]])]⟩
theorem okend103 : okCode cend103 Try.f103.body.get! = true := by kernel_rfl
theorem end103 (xs : List T) (y : T) (hw : wid 4 xs = true) (hy : y.width = 4) (h1 : (xs.length + 1) * 56 ≤ most) (h2 : xs.length + 1 ≤ most) : callT Try.prog (fun _ => cend103) (fun _ => none) 103 [.win 0 0 xs.length, .sc (.int .i64 xs.length), .win 1 0 1] [Ob.mkRow 4 xs, Ob.mkRow 4 [y]] = some (.win 2 0 (xs.length + 1), [⟨true, false, true, true, 0, 4, xs⟩, Ob.mkRow 4 [y], Ob.mkRow 4 (xs ++ [y])]) := by
 unfold most at h1 h2
 rw [callK_eq rfl Try.func103 rfl okend103]
 cases y with
 | agg cs =>
  have hy' : cs.length = 4 := hy
  simp [cend103, Try.f103, hw, hy', h1, h2]
 | _ => exact absurd hy (by simp [T.width, T.cells])
theorem fnOk_of {P : Program} {f : FuncId} {fn : Func} (h : P.funcs[f]? = some fn) (h1 : (fn.name == "runtime.NumGoroutine") = false) (h2 : fn.body.isNone = false) : FnOk P f := ⟨fn, h, h1, h2⟩
theorem prims_ok : PrimOk Try.prog P0 := by
 intro f D hD args objs r objs' h
 unfold P0 at hD
 split at hD
 · rename_i hf
   subst hf
   obtain rfl := Option.some.inj hD
   exact cmp_ok (fnOk_of Try.func132 rfl rfl) cmpW h
 split at hD
 · rename_i hf
   subst hf
   obtain rfl := Option.some.inj hD
   exact ins_ok (by decide) (fnOk_of Try.func121 rfl rfl) (fun xs y hw hy h1 h2 => let ⟨m, hm⟩ := callT_some.1 (end121 xs y hw hy h1 h2); (callF_ok (by kernel_rfl) (by kernel_rfl) prim_none m _ _ _ _ _ hm).2) (fun g c i n C vs vb vc V w a1 a2 a3 a4 a5 a6 a7 a8 a9 a10 a11 => by
   unfold most at a5
   by_cases hr : n + 1 ≤ c
   · exact insRoom_File g c i n C vs vb vc V w a1 a2 a3 hr (by omega) a6 a7 a8 a9 a10 a11
   · exact insGrow_File g c i n C vs vb vc V w a1 a2 a3 a4 (by omega) (by omega) a6 a7 a8 a9 a10) h
 split at hD
 · rename_i hf
   subst hf
   obtain rfl := Option.some.inj hD
   exact del_ok (by decide) (fnOk_of Try.func100 rfl rfl) (fun g c i n C w h1 h2 h3 h4 h5 => delW_File g c i n C w h1 h2 h3 h4 h5) h
 split at hD
 · rename_i hf
   subst hf
   obtain rfl := Option.some.inj hD
   exact ins_ok (by decide) (fnOk_of Try.func103 rfl rfl) (fun xs y hw hy h1 h2 => let ⟨m, hm⟩ := callT_some.1 (end103 xs y hw hy h1 h2); (callF_ok (by kernel_rfl) (by kernel_rfl) prim_none m _ _ _ _ _ hm).2) (fun g c i n C vs vb vc V w a1 a2 a3 a4 a5 a6 a7 a8 a9 a10 a11 => by
   unfold most at a5
   by_cases hr : n + 1 ≤ c
   · exact insRoom_DOp g c i n C vs vb vc V w a1 a2 a3 hr (by omega) a6 a7 a8 a9 a10 a11
   · exact insGrow_DOp g c i n C vs vb vc V w a1 a2 a3 a4 (by omega) (by omega) a6 a7 a8 a9 a10) h
 cases hD
end Go.Proofs.Ytfjoamlgbegpgaa.P
