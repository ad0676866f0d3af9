/- Part of the proof of FnExactConfText: no statement of its own. -/
import Derived.Test.YtolloakdibhidaaDoorCFnExactConfTextB
import Derived.Test.YtolloakdibhidaaDoorCFnExactConfTextF0
import Derived.Test.YtolloakdibhidaaDoorCFnExactConfTextF1
set_option linter.unusedVariables false
set_option linter.unusedSimpArgs false
namespace Go.Proofs.YtolloakdibhidaaDoor.P
open Go Go.Proofs.YtolloakdibhidaaDoor.PM Go.Proofs
attribute [local simp] execK_seq execK_region execK_ret execK_skip execK_exit execK_block execK_cond condK_bool seqK_normal seqK_ret seqK_exit blockK_normal blockK_ret blockK_exit giveK_normal giveK_ret regionK clearK_none clearK_some normR_mk normR_def freshR fresh1 nextK_normal nextK_ret nextK_exit
  regionR runOps stepR wantR opR evalT lift lift1 Rd.run Rd.run_bind wrOk putT putAll putIn lookIn guardR Rd.ofOption obj buildSliceR mapR close close1 view1 plainB T.width T.cells room appendR strR newsR elemsR setAll most Ob.kill Ob.gone pure findK FCert.predsOf logsR Log.bare meets
  loadR storeR takeCells closeIf cellT splice T.withCells buildR fillR chk undT giveR resR outAll outOne outCell outCells outMany reachN refs refs1 posIn srcN validB mapV mapA mapC mapOb pickTmps lenR sliceR bound hiB loB makeSliceR copyR
  ev_add ev_sub ev_mul ev_quo ev_rem ev_sadd ev_eql ev_neq ev_lss ev_leq ev_gtr ev_geq ev_seql ev_sneq ev_slss ev_sleq ev_sgtr ev_sgeq ev_not ev_neg ev_unxor ev_conv scOf bsize_mk bytesOf bytesOf_map bytesOf_append eqSc eqFs strOf ev_min ev_and ev_or ev_xor ev_andNot ev_shl ev_shr indexAddrR intOf callR passAll passT pass1 reach passOb backN backS noSrc flatL verOf at_map byteAt_eq wid_append wid_nil wid_cons List.take_of_length_le wStr w_i64 w_u8 eStr eBool e_i64 e_u8 List.range_succ bytesL
  sz2 ag2 by2 ze2 sz3 ag3 by3 ze3 sz4 ag4 by4 ze4 sz5 ag5 by5 ze5 sz9 ag9 by9 ze9 sz22 ag22 by22 ze22 el22 sz24 ag24 by24 ze24 fs24 sz27 ag27 by27 ze27 fs27 sz45 ag45 by45 ze45 el45 sz63 ag63 by63 ze63 sz64 ag64 by64 ze64 ck3 ck4 ck9 ck22 ck27 ft24_0 ft24_1 ft27_0 ft27_1 Tryd.underlying2 Tryd.underlying5 Tryd.underlying9 Tryd.underlying22 Tryd.underlying45 Tryd.underlying64
attribute [local simp] get_Int get_Str get_Bool get_byte 
set_option maxRecDepth 100000
set_option maxHeartbeats 4000000
theorem ok38 : okCode (C0 38) Tryd.f38.body.get! = true := by kernel_rfl
theorem f38_ok {k : Nat} {a0_0 : List Int} {o0_0 : List Int} {o0_1 : List Int} {r : Int × (List Int) × (List Int)} (h : f38 k a0_0 o0_0 o0_1 = some r) : callT Tryd.prog C0 P0 38 [T.sl (List.map e_i64 a0_0) [], T.fn 30 [T.ptr 0 0 0]] [Ob.mkBox 2 (T.agg [T.sl (List.map e_i64 o0_0) [], T.sl (List.map e_i64 o0_1) []])] = some (T.sc (.int .i64 r.1), [Ob.mkBox 2 (T.agg [T.sl (List.map e_i64 r.2.1) [], T.sl (List.map e_i64 r.2.2) []])]) := by
 rw [callK_eq rfl Tryd.func38 rfl ok38]
 unfold f38 at h
 simp [C0, c38, c30, Tryd.f38]
 refine loop_ind (α := (List Int) × Int × Int × (List Int) × (List Int)) k (fun x s => normR [(0, 0), (1, 0), (7, 0), (8, 0)] s = stf38_2 x.1 x.2.1 x.2.2.1 x.2.2.2.1 x.2.2.2.2) (fun k x => f38.l2 k x.1 x.2.1 x.2.2.1 x.2.2.2.1 x.2.2.2.2) (fun r => (some (T.sc (.int .i64 r.1), [Ob.mkBox 2 (T.agg [T.sl (List.map e_i64 r.2.1) [], T.sl (List.map e_i64 r.2.2) []])]) : Option (T × List Ob))) (fun x => by simp only [f38.l2]) _ ?_ (a0_0, (a0_0.length : Int), 0, o0_0, o0_1) _ ?_ h
 · rintro n1' ⟨x0, x7, x8, b0_0, b0_1⟩ s hn1' hs1' h ih2
   simp only [f38.l2] at h
   simp only [stf38_2] at hs1'
   rcases ite_some h with ⟨c2', h⟩ | ⟨c2', h⟩
   ·
    obtain ⟨c3', h⟩ := ite_l h
    obtain ⟨c4', h⟩ := ite_l h
    obtain ⟨t1, d5', h⟩ := bind_l h
    replace d5' := f30_ok d5'
    rcases ite_some h with ⟨c6', h⟩ | ⟨c6', h⟩
    ·
     obtain rfl := Option.some.inj h
     simp [C0, c38, c30, Tryd.f38, hs1', c2', c3', c4', d5', c6']
    ·
     simp [C0, c38, c30, Tryd.f38, hs1', c2', c3', c4', d5', c6']
     refine ih2 _ (x0, x7, (IntKind.i64.wrap (x8 + 1)), b0_0, b0_1) _ (by omega) ?_ h
     simp [stf38_2, hs1', c2', c3', c4', d5', c6']
   ·
    obtain rfl := Option.some.inj h
    simp [C0, c38, c30, Tryd.f38, hs1', c2']
 · simp [stf38_2]
theorem ok29 : okCode (C0 29) Tryd.f29.body.get! = true := by kernel_rfl
theorem f29_ok {k : Nat} {a0_0 : List Int} {o0_0 : List Int} {o0_1 : List Int} {r : Bool × (List Int) × (List Int)} (h : f29 k a0_0 o0_0 o0_1 = some r) : callT Tryd.prog C0 P0 29 [T.sl (List.map e_i64 a0_0) [], T.fn 30 [T.ptr 0 0 0]] [Ob.mkBox 2 (T.agg [T.sl (List.map e_i64 o0_0) [], T.sl (List.map e_i64 o0_1) []])] = some (T.sc (.bool r.1), [Ob.mkBox 2 (T.agg [T.sl (List.map e_i64 r.2.1) [], T.sl (List.map e_i64 r.2.2) []])]) := by
 rw [callK_eq rfl Tryd.func29 rfl ok29]
 unfold f29 at h
 obtain ⟨t1, d1', h⟩ := bind_l h
 replace d1' := f38_ok d1'
 obtain rfl := Option.some.inj h
 simp [C0, c29, c38, Tryd.f29, d1']
theorem ok18 : okCode (C0 18) Tryd.f18.body.get! = true := by kernel_rfl
theorem f18_ok {k : Nat} {a0_0 : List Int} {a0_1 : List Int} {r : Bool} (h : f18 k a0_0 a0_1 = some r) : callT Tryd.prog C0 P0 18 [T.agg [T.sl (List.map e_i64 a0_0) [], T.sl (List.map e_i64 a0_1) []]] [] = some (T.sc (.bool r), []) := by
 rw [callK_eq rfl Tryd.func18 rfl ok18]
 unfold f18 at h
 rcases ite_some h with ⟨c1', h⟩ | ⟨c1', h⟩
 ·
  have c1'' : 0 < a0_0.length := Int.natCast_pos.1 c1'
  obtain ⟨t1, d2', h⟩ := bind_l h
  replace d2' := f28_ok d2'
  rcases ite_some h with ⟨c3', h⟩ | ⟨c3', h⟩
  ·
   obtain ⟨t2, d4', h⟩ := bind_l h
   replace d4' := f28_ok d4'
   rcases ite_some h with ⟨c5', h⟩ | ⟨c5', h⟩
   ·
    obtain ⟨t3, d6', h⟩ := bind_l h
    replace d6' := f29_ok d6'
    obtain rfl := Option.some.inj h
    simp [C0, c18, c28, c29, Tryd.f18, c1', c1'', d2', c3', d4', c5', d6']
   ·
    obtain rfl := Option.some.inj h
    simp [C0, c18, c28, c29, Tryd.f18, c1', c1'', d2', c3', d4', c5']
  ·
   obtain rfl := Option.some.inj h
   simp [C0, c18, c28, c29, Tryd.f18, c1', c1'', d2', c3']
 ·
  have c1'' : ¬ 0 < a0_0.length := fun h => c1' (Int.natCast_pos.2 h)
  obtain rfl := Option.some.inj h
  simp [C0, c18, c28, c29, Tryd.f18, c1', c1'']
theorem ok45 : okCode (C0 45) Tryd.f45.body.get! = true := by kernel_rfl
theorem f45_ok {k : Nat} {a0_0 : Int} {r : ByteArray} (h : f45 k a0_0 = some r) : callT Tryd.prog C0 P0 45 [T.sc (.int .i64 a0_0)] [] = some (T.sc (.string r), []) := by
 rw [callK_eq rfl Tryd.func45 rfl ok45]
 unfold f45 at h
 rcases ite_some h with ⟨c1', h⟩ | ⟨c1', h⟩
 ·
  obtain ⟨c2', h⟩ := ite_l h
  obtain ⟨c3', h⟩ := ite_l h
  obtain ⟨c4', h⟩ := ite_l h
  obtain ⟨c5', h⟩ := ite_l h
  obtain rfl := Option.some.inj h
  simp [C0, c45, Tryd.f45, c1', c2', c3', c4', c5']
 ·
  obtain ⟨c6', h⟩ := ite_l h
  obtain ⟨c7', h⟩ := ite_l h
  obtain ⟨c8', h⟩ := ite_l h
  obtain ⟨c9', h⟩ := ite_l h
  obtain rfl := Option.some.inj h
  simp [C0, c45, Tryd.f45, c1', c6', c7', c8', c9']
theorem ok40 : okCode (C0 40) Tryd.f40.body.get! = true := by kernel_rfl
theorem f40_ok {k : Nat} {a0_0 : Int} {a1_0 : Int} {r : ByteArray} (h : f40 k a0_0 a1_0 = some r) : callT Tryd.prog C0 P0 40 [T.sc (.int .i64 a0_0), T.sc (.int .i64 a1_0)] [] = some (T.sc (.string r), []) := by
 rw [callK_eq rfl Tryd.func40 rfl ok40]
 unfold f40 at h
 obtain ⟨c1', h⟩ := ite_l h
 obtain ⟨c2', h⟩ := ite_l h
 obtain ⟨c3', h⟩ := ite_l h
 obtain ⟨t1, d4', h⟩ := bind_l h
 replace d4' := f45_ok d4'
 obtain rfl := Option.some.inj h
 simp [C0, c40, c45, Tryd.f40, c1', c2', c3', d4']
theorem ok32 : okCode (C0 32) Tryd.f32.body.get! = true := by kernel_rfl
theorem f32_ok {k : Nat} {a0_0 : Int} {a1_0 : Int} {r : ByteArray} (h : f32 k a0_0 a1_0 = some r) : callT Tryd.prog C0 P0 32 [T.sc (.int .i64 a0_0), T.sc (.int .i64 a1_0)] [] = some (T.sc (.string r), []) := by
 rw [callK_eq rfl Tryd.func32 rfl ok32]
 unfold f32 at h
 obtain ⟨t1, d1', h⟩ := bind_l h
 replace d1' := f40_ok d1'
 obtain rfl := Option.some.inj h
 simp [C0, c32, c40, Tryd.f32, d1']
theorem ok19 : okCode (C0 19) Tryd.f19.body.get! = true := by kernel_rfl
theorem f19_ok {k : Nat} {a0_0 : List Int} {a0_1 : List Int} {r : ByteArray} (h : f19 k a0_0 a0_1 = some r) : callT Tryd.prog C0 P0 19 [T.agg [T.sl (List.map e_i64 a0_0) [], T.sl (List.map e_i64 a0_1) []]] [] = some (T.sc (.string r), []) := by
 rw [callK_eq rfl Tryd.func19 rfl ok19]
 unfold f19 at h
 simp [C0, c19, c32, Tryd.f19]
 refine loop_ind (α := ByteArray × (List Int) × Int × Int × (List Int) × (List Int)) k (fun x s => normR [(1, 0), (3, 0), (9, 0), (10, 0), (11, 0)] s = stf19_3 x.1 x.2.1 x.2.2.1 x.2.2.2.1 x.2.2.2.2.1 x.2.2.2.2.2) (fun k x => f19.l3 k x.1 x.2.1 x.2.2.1 x.2.2.2.1 x.2.2.2.2.1 x.2.2.2.2.2) (fun r => (some (T.sc (.string r), []) : Option (T × List Ob))) (fun x => by simp only [f19.l3]) _ ?_ ((⟨#[118]⟩ : ByteArray), a0_0, (a0_0.length : Int), 0, a0_0, a0_1) _ ?_ h
 · rintro n1' ⟨x3, x9, x10, x11, b0_0, b0_1⟩ s hn1' hs1' h ih3
   simp only [f19.l3] at h
   simp only [stf19_3] at hs1'
   rcases ite_some h with ⟨c2', h⟩ | ⟨c2', h⟩
   ·
    obtain ⟨c3', h⟩ := ite_l h
    obtain ⟨c4', h⟩ := ite_l h
    obtain ⟨t1, d5', h⟩ := bind_l h
    replace d5' := f32_ok d5'
    obtain ⟨c6', h⟩ := ite_l h
    obtain ⟨c7', h⟩ := ite_l h
    simp [C0, c19, c32, Tryd.f19, hs1', c2', c3', c4', d5', c6', c7']
    refine ih3 _ ((x3 ++ ((⟨#[32]⟩ : ByteArray) ++ t1)), x9, x10, (IntKind.i64.wrap (x11 + 1)), b0_0, b0_1) _ (by omega) ?_ h
    simp [stf19_3, hs1', c2', c3', c4', d5', c6', c7']
   ·
    rcases ite_some h with ⟨c8', h⟩ | ⟨c8', h⟩
    ·
     have c8'' : 0 < b0_1.length := Int.natCast_pos.1 c8'
     obtain ⟨c9', h⟩ := ite_l h
     simp [C0, c19, c32, Tryd.f19, hs1', c2', c8', c8'', c9']
     refine loop_ind (α := ByteArray × (List Int) × Int × Int) n1' (fun x s => normR [(3, 0), (28, 0), (29, 0), (30, 0)] s = stf19_10 x.1 x.2.1 x.2.2.1 x.2.2.2) (fun k x => f19.l10 k x.1 x.2.1 x.2.2.1 x.2.2.2) (fun r => (some (T.sc (.string r), []) : Option (T × List Ob))) (fun x => by simp only [f19.l10]) _ ?_ ((x3 ++ (⟨#[32, 108]⟩ : ByteArray)), b0_1, (b0_1.length : Int), 0) _ ?_ h
     · rintro n10' ⟨x3, x28, x29, x30⟩ s hn10' hs10' h ih10
       simp only [f19.l10] at h
       simp only [stf19_10] at hs10'
       rcases ite_some h with ⟨c11', h⟩ | ⟨c11', h⟩
       ·
        obtain ⟨c12', h⟩ := ite_l h
        obtain ⟨c13', h⟩ := ite_l h
        obtain ⟨t2, d14', h⟩ := bind_l h
        replace d14' := f32_ok d14'
        obtain ⟨c15', h⟩ := ite_l h
        obtain ⟨c16', h⟩ := ite_l h
        simp [C0, c19, c32, Tryd.f19, hs1', c2', c8', c8'', c9', hs10', c11', c12', c13', d14', c15', c16']
        refine ih10 _ ((x3 ++ ((⟨#[32]⟩ : ByteArray) ++ t2)), x28, x29, (IntKind.i64.wrap (x30 + 1))) _ (by omega) ?_ h
        simp [stf19_10, hs1', c2', c8', c8'', c9', hs10', c11', c12', c13', d14', c15', c16']
       ·
        obtain rfl := Option.some.inj h
        simp [C0, c19, c32, Tryd.f19, hs1', c2', c8', c8'', c9', hs10', c11']
     · simp [stf19_10, hs1', c2', c8', c8'', c9']
    ·
     have c8'' : ¬ 0 < b0_1.length := fun h => c8' (Int.natCast_pos.2 h)
     simp [C0, c19, c32, Tryd.f19, hs1', c2', c8', c8'']
     refine loop_ind (α := ByteArray × (List Int) × Int × Int) n1' (fun x s => normR [(3, 0), (28, 0), (29, 0), (30, 0)] s = stf19_10 x.1 x.2.1 x.2.2.1 x.2.2.2) (fun k x => f19.l10 k x.1 x.2.1 x.2.2.1 x.2.2.2) (fun r => (some (T.sc (.string r), []) : Option (T × List Ob))) (fun x => by simp only [f19.l10]) _ ?_ (x3, b0_1, (b0_1.length : Int), 0) _ ?_ h
     · rintro n17' ⟨x3, x28, x29, x30⟩ s hn17' hs17' h ih10
       simp only [f19.l10] at h
       simp only [stf19_10] at hs17'
       rcases ite_some h with ⟨c18', h⟩ | ⟨c18', h⟩
       ·
        obtain ⟨c19', h⟩ := ite_l h
        obtain ⟨c20', h⟩ := ite_l h
        obtain ⟨t2, d21', h⟩ := bind_l h
        replace d21' := f32_ok d21'
        obtain ⟨c22', h⟩ := ite_l h
        obtain ⟨c23', h⟩ := ite_l h
        simp [C0, c19, c32, Tryd.f19, hs1', c2', c8', c8'', hs17', c18', c19', c20', d21', c22', c23']
        refine ih10 _ ((x3 ++ ((⟨#[32]⟩ : ByteArray) ++ t2)), x28, x29, (IntKind.i64.wrap (x30 + 1))) _ (by omega) ?_ h
        simp [stf19_10, hs1', c2', c8', c8'', hs17', c18', c19', c20', d21', c22', c23']
       ·
        obtain rfl := Option.some.inj h
        simp [C0, c19, c32, Tryd.f19, hs1', c2', c8', c8'', hs17', c18']
     · simp [stf19_10, hs1', c2', c8', c8'']
 · simp [stf19_3]
theorem ok8 : okCode (C0 8) Tryd.f8.body.get! = true := by kernel_rfl
theorem f8_ok {k : Nat} {a0_0 : List Int} {a0_1 : List Int} {r : ByteArray} (h : f8 k a0_0 a0_1 = some r) : callT Tryd.prog C0 P0 8 [T.agg [T.sl (List.map e_i64 a0_0) [], T.sl (List.map e_i64 a0_1) []]] [] = some (T.sc (.string r), []) := by
 rw [callK_eq rfl Tryd.func8 rfl ok8]
 unfold f8 at h
 obtain ⟨t1, d1', h⟩ := bind_l h
 replace d1' := f18_ok d1'
 rcases ite_some h with ⟨c2', h⟩ | ⟨c2', h⟩
 ·
  obtain ⟨t2, d3', h⟩ := bind_l h
  replace d3' := f19_ok d3'
  obtain rfl := Option.some.inj h
  simp [C0, c8, c18, c19, Tryd.f8, d1', c2', d3']
 ·
  obtain rfl := Option.some.inj h
  simp [C0, c8, c18, c19, Tryd.f8, d1', c2']
theorem ok20 : okCode (C0 20) Tryd.f20.body.get! = true := by kernel_rfl
theorem f20_ok {k : Nat} {a0_0 : List Int} {a1_0 : List Int} {r : Bool} (h : f20 k a0_0 a1_0 = some r) : callT Tryd.prog C0 P0 20 [T.sl (List.map e_i64 a0_0) [], T.sl (List.map e_i64 a1_0) []] [] = some (T.sc (.bool r), []) := by
 rw [callK_eq rfl Tryd.func20 rfl ok20]
 unfold f20 at h
 rcases ite_some h with ⟨c1', h⟩ | ⟨c1', h⟩
 ·
  simp [C0, c20, Tryd.f20, c1']
  refine loop_ind (α := (List Int) × (List Int) × Int) k (fun x s => normR [(0, 0), (1, 0), (5, 0)] s = stf20_4 x.1 x.2.1 x.2.2) (fun k x => f20.l4 k x.1 x.2.1 x.2.2) (fun r => (some (T.sc (.bool r), []) : Option (T × List Ob))) (fun x => by simp only [f20.l4]) _ ?_ (a0_0, a1_0, 0) _ ?_ h
  · rintro n2' ⟨x0, x1, x5⟩ s hn2' hs2' h ih4
    simp only [f20.l4] at h
    simp only [stf20_4] at hs2'
    rcases ite_some h with ⟨c3', h⟩ | ⟨c3', h⟩
    ·
     obtain ⟨c4', h⟩ := ite_l h
     obtain ⟨c5', h⟩ := ite_l h
     rcases ite_some h with ⟨c6', h⟩ | ⟨c6', h⟩
     ·
      simp [C0, c20, Tryd.f20, c1', hs2', c3', c4', c5', c6']
      refine ih4 _ (x0, x1, (IntKind.i64.wrap (x5 + 1))) _ (by omega) ?_ h
      simp [stf20_4, c1', hs2', c3', c4', c5', c6']
     ·
      obtain rfl := Option.some.inj h
      simp [C0, c20, Tryd.f20, c1', hs2', c3', c4', c5', c6']
    ·
     obtain rfl := Option.some.inj h
     simp [C0, c20, Tryd.f20, c1', hs2', c3']
  · simp [stf20_4, c1']
 ·
  obtain rfl := Option.some.inj h
  simp [C0, c20, Tryd.f20, c1']
end Go.Proofs.YtolloakdibhidaaDoor.P
