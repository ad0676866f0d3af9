/- Part of the proof of FnExactConfText: no statement of its own. -/
import Derived.Test.YtolloakdibhidaaDoorCFnExactConfTextB
import Derived.Test.YtolloakdibhidaaDoorCFnExactConfTextF0
import Derived.Test.YtolloakdibhidaaDoorCFnExactConfTextF1
import Derived.Test.YtolloakdibhidaaDoorCFnExactConfTextF2
set_option linter.unusedVariables false
set_option linter.unusedSimpArgs false
namespace Go.Proofs.YtolloakdibhidaaDoor.P
open Go Go.Proofs.YtolloakdibhidaaDoor.PM Go.Proofs
attribute [local simp] execK_seq execK_region execK_ret execK_skip execK_exit execK_block execK_cond condK_bool seqK_normal seqK_ret seqK_exit blockK_normal blockK_ret blockK_exit giveK_normal giveK_ret regionK clearK_none clearK_some normR_mk normR_def freshR fresh1 nextK_normal nextK_ret nextK_exit
  regionR runOps stepR wantR opR evalT lift lift1 Rd.run Rd.run_bind wrOk putT putAll putIn lookIn guardR Rd.ofOption obj buildSliceR mapR close close1 view1 plainB T.width T.cells room appendR strR newsR elemsR setAll most Ob.kill Ob.gone pure findK FCert.predsOf logsR Log.bare meets
  loadR storeR takeCells closeIf cellT splice T.withCells buildR fillR chk undT giveR resR outAll outOne outCell outCells outMany reachN refs refs1 posIn srcN validB mapV mapA mapC mapOb pickTmps lenR sliceR bound hiB loB makeSliceR copyR
  ev_add ev_sub ev_mul ev_quo ev_rem ev_sadd ev_eql ev_neq ev_lss ev_leq ev_gtr ev_geq ev_seql ev_sneq ev_slss ev_sleq ev_sgtr ev_sgeq ev_not ev_neg ev_unxor ev_conv scOf bsize_mk bytesOf bytesOf_map bytesOf_append eqSc eqFs strOf ev_min ev_and ev_or ev_xor ev_andNot ev_shl ev_shr indexAddrR intOf callR passAll passT pass1 reach passOb backN backS noSrc flatL verOf at_map byteAt_eq wid_append wid_nil wid_cons List.take_of_length_le wStr w_i64 w_u8 eStr eBool e_i64 e_u8 List.range_succ bytesL
  sz2 ag2 by2 ze2 sz3 ag3 by3 ze3 sz4 ag4 by4 ze4 sz5 ag5 by5 ze5 sz9 ag9 by9 ze9 sz22 ag22 by22 ze22 el22 sz24 ag24 by24 ze24 fs24 sz27 ag27 by27 ze27 fs27 sz45 ag45 by45 ze45 el45 sz63 ag63 by63 ze63 sz64 ag64 by64 ze64 ck3 ck4 ck9 ck22 ck27 ft24_0 ft24_1 ft27_0 ft27_1 Tryd.underlying2 Tryd.underlying5 Tryd.underlying9 Tryd.underlying22 Tryd.underlying45 Tryd.underlying64
attribute [local simp] get_Int get_Str get_Bool get_byte 
set_option maxRecDepth 100000
set_option maxHeartbeats 4000000
theorem ok9 : okCode (C0 9) Tryd.f9.body.get! = true := by kernel_rfl
theorem f9_ok {k : Nat} {a0_0 : List Int} {a0_1 : List Int} {a1_0 : List Int} {a1_1 : List Int} {r : Bool} (h : f9 k a0_0 a0_1 a1_0 a1_1 = some r) : callT Tryd.prog C0 P0 9 [T.agg [T.sl (List.map e_i64 a0_0) [], T.sl (List.map e_i64 a0_1) []], T.agg [T.sl (List.map e_i64 a1_0) [], T.sl (List.map e_i64 a1_1) []]] [] = some (T.sc (.bool r), []) := by
 rw [callK_eq rfl Tryd.func9 rfl ok9]
 unfold f9 at h
 obtain ⟨t1, d1', h⟩ := bind_l h
 replace d1' := f20_ok d1'
 rcases ite_some h with ⟨c2', h⟩ | ⟨c2', h⟩
 ·
  obtain ⟨t2, d3', h⟩ := bind_l h
  replace d3' := f20_ok d3'
  rcases ite_some h with ⟨c4', h⟩ | ⟨c4', h⟩
  ·
   obtain rfl := Option.some.inj h
   simp [C0, c9, c20, Tryd.f9, d1', c2', d3', c4']
  ·
   obtain rfl := Option.some.inj h
   simp [C0, c9, c20, Tryd.f9, d1', c2', d3', c4']
 ·
  obtain rfl := Option.some.inj h
  simp [C0, c9, c20, Tryd.f9, d1', c2']
theorem ok3 : okCode (C0 3) Tryd.f3.body.get! = true := by kernel_rfl
theorem f3_ok {k : Nat} {a0_0 : List Int} {a0_1 : List Int} {r : Bool} (h : f3 k a0_0 a0_1 = some r) : callT Tryd.prog C0 P0 3 [T.agg [T.sl (List.map e_i64 a0_0) [], T.sl (List.map e_i64 a0_1) []]] [] = some (T.sc (.bool r), []) := by
 rw [callK_eq rfl Tryd.func3 rfl ok3]
 unfold f3 at h
 obtain ⟨t1, d1', h⟩ := bind_l h
 replace d1' := f5_ok d1'
 rcases ite_some h with ⟨c2', h⟩ | ⟨c2', h⟩
 ·
  obtain rfl := Option.some.inj h
  simp [C0, c3, c5, c6, c7, c8, c9, Tryd.f3, d1', c2']
 ·
  obtain ⟨t2, d3', h⟩ := bind_l h
  replace d3' := f7_ok d3'
  obtain ⟨t3, d4', h⟩ := bind_l h
  replace d4' := f6_ok d4'
  obtain ⟨t4, d5', h⟩ := bind_l h
  replace d5' := f8_ok d5'
  rcases ite_some h with ⟨c6', h⟩ | ⟨c6', h⟩
  ·
   obtain ⟨t5, d7', h⟩ := bind_l h
   replace d7' := f9_ok d7'
   rcases ite_some h with ⟨c8', h⟩ | ⟨c8', h⟩
   ·
    obtain rfl := Option.some.inj h
    simp [C0, c3, c5, c6, c7, c8, c9, Tryd.f3, d1', c2', d3', d4', d5', c6', d7', c8']
   ·
    obtain rfl := Option.some.inj h
    simp [C0, c3, c5, c6, c7, c8, c9, Tryd.f3, d1', c2', d3', d4', d5', c6', d7', c8']
  ·
   obtain rfl := Option.some.inj h
   simp [C0, c3, c5, c6, c7, c8, c9, Tryd.f3, d1', c2', d3', d4', d5', c6']
end Go.Proofs.YtolloakdibhidaaDoor.P
