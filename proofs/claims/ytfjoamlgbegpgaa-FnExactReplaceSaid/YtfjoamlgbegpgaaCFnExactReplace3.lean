/- Part 3 of what the row of FnExactReplace needs: functions of the program as plain Lean functions, their contracts, and lemmas; made by a program of this session out of its texts. -/
import Derived.Test.YtfjoamlgbegpgaaCFnExactReplace0
import Derived.Test.YtfjoamlgbegpgaaCFnExactReplace1
import Derived.Test.YtfjoamlgbegpgaaCFnExactReplace2
namespace Go.Proofs.Ytfjoamlgbegpgaa.Q
open Go.RowKit Go.Proofs.YtfjoamlgbegpgaaW.PrintWords Go.Proofs.YtfjoamlgbegpgaaW.PrintLast Go.Proofs.YtfjoamlgbegpgaaW.PrintMore
attribute [local go_sem] max2_int min2_int max_two min_two max_three min_three max_four min_four   -- for this text's walks alone
set_option linter.unusedVariables false
set_option linter.unusedSimpArgs false
section
def spec_l4Copy.f (l0_0 : List (S80)) (l0_1 : List (S80)) (l0_2 : List (S73)) : Option ((List (S80)) × (List (S80)) × (List (S73))) := (some (([] : List (S80)) : List (S80))).bind fun y103 => (if y103.length + l0_0.length < 4398046511104 then ((some (([] : List (S80)) : List (S80))).bind fun y109 => (if y109.length + l0_1.length < 4398046511104 then ((some (([] : List (S73)) : List (S73))).bind fun y115 => (if y115.length + l0_2.length < 2513169434916 then (some ((y103 ++ l0_0), (y109 ++ l0_1), (y115 ++ l0_2))) else (none))) else (none))) else (none))
def spec_l4Copy.T1 : Bool × List (List Nat × List Nat) := (true, [([], []), ([], []), ([1], [1]), ([0, 2], [0, 2]), ([], []), ([], []), ([5], [5]), ([4, 6, 3], [4, 6]), ([], []), ([], []), ([9], [9]), ([8, 10, 7], [8, 10]), ([3, 7, 11], [3, 7, 11]), ([12, 11, 0, 1, 2, 3, 4, 5, 6, 7, 8, 9, 10, 11, 12], [12])])
def spec_l4Copy.B1 : List Nat := [0, 0, 2, 7, 0, 0, 32, 127, 0, 0, 512, 2047, 4095, 8191]
theorem spec_l4Copy.tab1 : rtab .any (opsOf Try.f66 1) = spec_l4Copy.T1 := by kernel_rfl
theorem spec_l4Copy.bits1 : qcf spec_l4Copy.T1.2 spec_l4Copy.B1 = true := by kernel_rfl
set_option maxHeartbeats 8000000 in
set_option maxRecDepth 100000 in
theorem spec_l4Copy.calls (A0_0 : Option Addr) (c0_0 : Nat) (l0_0 : List (S80)) (A0_1 : Option Addr) (c0_1 : Nat) (l0_1 : List (S80)) (A0_2 : Option Addr) (c0_2 : Nat) (l0_2 : List (S73)) (r1 : List (S80)) (r2 : List (S80)) (r3 : List (S73)) (w : World) (hr0_0 : Kd.C k80 w A0_0 l0_0.length l0_0) (hc0_0 : l0_0.length ≤ c0_0) (hr0_1 : Kd.C k80 w A0_1 l0_1.length l0_1) (hc0_1 : l0_1.length ≤ c0_1) (hr0_2 : Kd.C k73 w A0_2 l0_2.length l0_2) (hc0_2 : l0_2.length ≤ c0_2) (h : spec_l4Copy.f l0_0 l0_1 l0_2 = some (r1, r2, r3)) :
 Calls Try.prog 66 #[.agg #[.slice A0_0 l0_0.length c0_0, .slice A0_1 l0_1.length c0_1, .slice A0_2 l0_2.length c0_2]] w fun e w' => ∃ v0_ v1_ v2_ : Value, e = .returned (.agg #[v0_, v1_, v2_]) ∧ Kd.R k80 80 w' w.heap.size (fun k_ => some k_ ≠ (v1_ : Value).ownBlock) v0_ r1 ∧ Kd.R k80 80 w' w.heap.size (fun k_ => some k_ ≠ (v0_ : Value).ownBlock) v1_ r2 ∧ Kd.R k73 73 w' w.heap.size (fun _ => True) v2_ r3 ∧ Below w.heap.size w w' := by
 have hu31 := Try.underlying31
 have HR0_0 := am hr0_0
 have HC0_0 := am hc0_0
 clear hr0_0 hc0_0
 have HR0_1 := am hr0_1
 have HC0_1 := am hc0_1
 clear hr0_1 hc0_1
 have HR0_2 := am hr0_2
 have HC0_2 := am hc0_2
 clear hr0_2 hc0_2
 have HB := am (Below.refl w.heap.size w)
 have H : ((some (([] : List (S80)) : List (S80))).bind fun y103 => (if y103.length + l0_0.length < 4398046511104 then ((some (([] : List (S80)) : List (S80))).bind fun y109 => (if y109.length + l0_1.length < 4398046511104 then ((some (([] : List (S73)) : List (S73))).bind fun y115 => (if y115.length + l0_2.length < 2513169434916 then (some ((y103 ++ l0_0), (y109 ++ l0_1), (y115 ++ l0_2))) else (none))) else (none))) else (none))) = some (r1, r2, r3) := h
 clear h
 obtain ⟨y103, hy103⟩ : ∃ y_ : List (S80), y_ = (([] : List (S80))) := ⟨_, rfl⟩
 replace H : (if y103.length + l0_0.length < 4398046511104 then ((some (([] : List (S80)) : List (S80))).bind fun y109 => (if y109.length + l0_1.length < 4398046511104 then ((some (([] : List (S73)) : List (S73))).bind fun y115 => (if y115.length + l0_2.length < 2513169434916 then (some ((y103 ++ l0_0), (y109 ++ l0_1), (y115 ++ l0_2))) else (none))) else (none))) else (none)) = some (r1, r2, r3) := by first | (rw [hy103]; with_reducible exact H) | (have H2_ := (Option.bind_some _ _).symm.trans H; rw [hy103]; with_reducible exact H2_) | (have H2_ := (Option.bind_some _ _).symm.trans H; with_reducible exact H2_) | with_reducible exact H | (rw [hy103]; exact H) | exact H
 have Ny103 := am hy103
 clear hy103
 by_cases c2 : y103.length + l0_0.length < 4398046511104
 ·
  rw [if_pos c2] at H
  have LMc2 := am c2
  clear c2
  obtain ⟨y106, hy106⟩ : ∃ y_ : List (S80), y_ = (y103 ++ l0_0) := ⟨_, rfl⟩
  replace H : ((some (([] : List (S80)) : List (S80))).bind fun y109 => (if y109.length + l0_1.length < 4398046511104 then ((some (([] : List (S73)) : List (S73))).bind fun y115 => (if y115.length + l0_2.length < 2513169434916 then (some (y106, (y109 ++ l0_1), (y115 ++ l0_2))) else (none))) else (none))) = some (r1, r2, r3) := by first | (rw [hy106]; with_reducible exact H) | (have H2_ := (Option.bind_some _ _).symm.trans H; rw [hy106]; with_reducible exact H2_) | (have H2_ := (Option.bind_some _ _).symm.trans H; with_reducible exact H2_) | with_reducible exact H | (rw [hy106]; exact H) | exact H
  have Ny106 := am hy106
  clear hy106
  obtain ⟨y109, hy109⟩ : ∃ y_ : List (S80), y_ = (([] : List (S80))) := ⟨_, rfl⟩
  replace H : (if y109.length + l0_1.length < 4398046511104 then ((some (([] : List (S73)) : List (S73))).bind fun y115 => (if y115.length + l0_2.length < 2513169434916 then (some (y106, (y109 ++ l0_1), (y115 ++ l0_2))) else (none))) else (none)) = some (r1, r2, r3) := by first | (rw [hy109]; with_reducible exact H) | (have H2_ := (Option.bind_some _ _).symm.trans H; rw [hy109]; with_reducible exact H2_) | (have H2_ := (Option.bind_some _ _).symm.trans H; with_reducible exact H2_) | with_reducible exact H | (rw [hy109]; exact H) | exact H
  have Ny109 := am hy109
  clear hy109
  by_cases c3 : y109.length + l0_1.length < 4398046511104
  ·
   rw [if_pos c3] at H
   have LMc3 := am c3
   clear c3
   obtain ⟨y112, hy112⟩ : ∃ y_ : List (S80), y_ = (y109 ++ l0_1) := ⟨_, rfl⟩
   replace H : ((some (([] : List (S73)) : List (S73))).bind fun y115 => (if y115.length + l0_2.length < 2513169434916 then (some (y106, y112, (y115 ++ l0_2))) else (none))) = some (r1, r2, r3) := by first | (rw [hy112]; with_reducible exact H) | (have H2_ := (Option.bind_some _ _).symm.trans H; rw [hy112]; with_reducible exact H2_) | (have H2_ := (Option.bind_some _ _).symm.trans H; with_reducible exact H2_) | with_reducible exact H | (rw [hy112]; exact H) | exact H
   have Ny112 := am hy112
   clear hy112
   obtain ⟨y115, hy115⟩ : ∃ y_ : List (S73), y_ = (([] : List (S73))) := ⟨_, rfl⟩
   replace H : (if y115.length + l0_2.length < 2513169434916 then (some (y106, y112, (y115 ++ l0_2))) else (none)) = some (r1, r2, r3) := by first | (rw [hy115]; with_reducible exact H) | (have H2_ := (Option.bind_some _ _).symm.trans H; rw [hy115]; with_reducible exact H2_) | (have H2_ := (Option.bind_some _ _).symm.trans H; with_reducible exact H2_) | with_reducible exact H | (rw [hy115]; exact H) | exact H
   have Ny115 := am hy115
   clear hy115
   by_cases c4 : y115.length + l0_2.length < 2513169434916
   ·
    rw [if_pos c4] at H
    have LMc4 := am c4
    clear c4
    obtain ⟨y118, hy118⟩ : ∃ y_ : List (S73), y_ = (y115 ++ l0_2) := ⟨_, rfl⟩
    replace H : (some (y106, y112, y118)) = some (r1, r2, r3) := by first | (rw [hy118]; with_reducible exact H) | (have H2_ := (Option.bind_some _ _).symm.trans H; rw [hy118]; with_reducible exact H2_) | (have H2_ := (Option.bind_some _ _).symm.trans H; with_reducible exact H2_) | with_reducible exact H | (rw [hy118]; exact H) | exact H
    have Ny118 := am hy118
    clear hy118
    simp only [Option.some.injEq, Prod.mk.injEq] at H
    obtain ⟨rfl, rfl, rfl⟩ := H
    go_enter Try.func66, Try.ntmps66
    try go_wp2_with (first | ((with_reducible refine qal (N := 1) rfl ?_); refine bxE (N := 1) (cs := #[.slice A0_0 l0_0.length c0_0, .slice A0_1 l0_1.length c0_1, .slice A0_2 l0_2.length c0_2]) (t := 31) ?_; intro gb101 hg w5 hbox hb; have BK101 := am (hbox); have GW101 := am (sgE hg (au3 HB.out) : w.heap.size ≤ gb101); have GE101 := GW101; replace HB := am (qad (au3 HB.out) hb); clear hb hbox hg) | ((with_reducible refine qal (N := 2) rfl ?_); refine bxE (N := 2) (cs := #[.slice none 0 0, .slice none 0 0, .slice none 0 0]) (t := 31) ?_; intro gb102 hg w6 hbox hb; have BK102 := am (hbox); have GW102 := am (sgE hg (au7 HB.out GE101.out) : w.heap.size ≤ gb102); have GE102 := GW102; replace HB := am (qad (au7 HB.out GE101.out) hb); have NB101_102 := am ((sltE hg (qan (au1 BK101.out)))); have NB102_101 := am ((sgtE hg (qan (au1 BK101.out)))); replace BK101 := am (qab (au1 BK101.out) hb); clear hb hbox hg))
    replace BK101 := am (qcm BK101.out)
    replace BK102 := am (qcm BK102.out)
    replace HB := am (qay HB.out)
    refine qdm (n := 14) (S := fun w' => w'.cell? ⟨gb101, 0, none⟩ = some (.slice A0_0 l0_0.length c0_0) ∧ w'.cell? ⟨gb101, 1, none⟩ = some (.slice A0_1 l0_1.length c0_1) ∧ w'.cell? ⟨gb101, 2, none⟩ = some (.slice A0_2 l0_2.length c0_2)) (ds := []) #[false, false, false, false, false, false, false, false, false, false, false, false, false, false] (by kernel_rfl) rfl rfl ⟨(qak BK101.out 0).trans rfl, (qak BK101.out 1).trans rfl, (qak BK101.out 2).trans rfl⟩ (fun hHeld => ?_); refine qbx spec_l4Copy.tab1 spec_l4Copy.bits1 (fun HT_ HW_ => ?_)
    generalize w6.drew = w7 at BK101 BK102 HB hHeld ⊢
    refine pure_ (i := 1) (N := some 4) (v := ?_) (a' := ?_) #[false, true, false, false, false, false, false, false, false, false, false, false, false, false] rfl rfl (qaz HT_.out (by kernel_rfl)) (fun _ _ _ h => h) (Or.inl ⟨by rfl, ?_⟩) ?_ ?_
    rotate_left
    ·
     intro w'
     go_simp
     with_reducible rfl
    rotate_left
    ·
     simp only [Act.put, qsA, qsZ, qsS, i64_w, i32_w]
     rfl
    refine pure_ (i := 5) (N := some 8) (v := ?_) (a' := ?_) #[false, true, false, false, false, true, false, false, false, false, false, false, false, false] rfl rfl (qaz HT_.out (by kernel_rfl)) (fun _ _ _ h => h) (Or.inl ⟨by rfl, ?_⟩) ?_ ?_
    rotate_left
    ·
     intro w'
     go_simp
     with_reducible rfl
    rotate_left
    ·
     simp only [Act.put, qsA, qsZ, qsS, i64_w, i32_w]
     rfl
    refine pure_ (i := 9) (N := some 12) (v := ?_) (a' := ?_) #[false, true, false, false, false, true, false, false, false, true, false, false, false, false] rfl rfl (qaz HT_.out (by kernel_rfl)) (fun _ _ _ h => h) (Or.inl ⟨by rfl, ?_⟩) ?_ ?_
    rotate_left
    ·
     intro w'
     go_simp
     with_reducible rfl
    rotate_left
    ·
     simp only [Act.put, qsA, qsZ, qsS, i64_w, i32_w]
     rfl
    refine take_ (i := 2) (N := some 5) (v := ?_) (a' := ?_) #[false, true, true, false, false, true, false, false, false, true, false, false, false, false] rfl rfl (qbj HT_.out HW_.out (by kernel_rfl)) (fun _ _ _ h => h) (Or.inl ⟨by rfl, ?_⟩) hHeld ?_ ?_
    rotate_left
    ·
     rintro w' ⟨s0, s1, s2⟩
     go_simp
     with_reducible rfl
    rotate_left
    ·
     simp only [Act.put, qsA, qsZ, qsS, i64_w, i32_w]
     rfl
    refine take_ (i := 6) (N := some 9) (v := ?_) (a' := ?_) #[false, true, true, false, false, true, true, false, false, true, false, false, false, false] rfl rfl (qbj HT_.out HW_.out (by kernel_rfl)) (fun _ _ _ h => h) (Or.inl ⟨by rfl, ?_⟩) hHeld ?_ ?_
    rotate_left
    ·
     rintro w' ⟨s0, s1, s2⟩
     go_simp
     with_reducible rfl
    rotate_left
    ·
     simp only [Act.put, qsA, qsZ, qsS, i64_w, i32_w]
     rfl
    refine take_ (i := 10) (N := some 13) (v := ?_) (a' := ?_) #[false, true, true, false, false, true, true, false, false, true, true, false, false, false] rfl rfl (qbj HT_.out HW_.out (by kernel_rfl)) (fun _ _ _ h => h) (Or.inl ⟨by rfl, ?_⟩) hHeld ?_ ?_
    rotate_left
    ·
     rintro w' ⟨s0, s1, s2⟩
     go_simp
     with_reducible rfl
    rotate_left
    ·
     simp only [Act.put, qsA, qsZ, qsS, i64_w, i32_w]
     rfl
    refine join_ (σ := Value × Value × Value × Value × Value) 3 #[true, true, true, true, true, true, true, true, true, true, true, false, false, false] (fun s_ => [(3, s_.1), (6, s_.2.1), (7, s_.2.2.1), (10, s_.2.2.2.1), (11, s_.2.2.2.2)]) (fun s_ w' => (w'.cell? ⟨gb101, 0, none⟩ = some (.slice A0_0 l0_0.length c0_0) ∧ w'.cell? ⟨gb101, 1, none⟩ = some (.slice A0_1 l0_1.length c0_1) ∧ w'.cell? ⟨gb101, 2, none⟩ = some (.slice A0_2 l0_2.length c0_2)) ∧ (Kd.R k80 80 w' w.heap.size (fun k_ => some k_ ≠ (s_.2.2.2.1 : Value).ownBlock) s_.2.1 y106) ∧ (Kd.R k80 80 w' w.heap.size (fun k_ => some k_ ≠ (s_.2.1 : Value).ownBlock) s_.2.2.2.1 y112) ∧ (Kd.R k73 73 w' w.heap.size (fun _ => True) s_.2.2.2.2 y115) ∧ (w'.heap[gb101]? = some (.cells #[.slice A0_0 l0_0.length c0_0, .slice A0_1 l0_1.length c0_1, .slice A0_2 l0_2.length c0_2] 31 (0, 0))) ∧ (w'.heap[gb102]? = some (.cells #[.slice none 0 0, .slice none 0 0, .slice none 0 0] 31 (0, 0))) ∧ (Below w.heap.size w w')) ?_ ?_
    rotate_left
    ·
     intro hJ0_3_4_7_8
     refine join_ (σ := Value × Value × Value × Value) 4 #[true, true, true, true, true, true, true, true, false, true, true, false, false, false] (fun s_ => [(3, s_.1), (6, s_.2.1), (7, s_.2.2.1), (10, s_.2.2.2)]) (fun s_ w' => (w'.cell? ⟨gb101, 0, none⟩ = some (.slice A0_0 l0_0.length c0_0) ∧ w'.cell? ⟨gb101, 1, none⟩ = some (.slice A0_1 l0_1.length c0_1) ∧ w'.cell? ⟨gb101, 2, none⟩ = some (.slice A0_2 l0_2.length c0_2)) ∧ (Kd.R k80 80 w' w.heap.size (fun k_ => some k_ ≠ (s_.2.2.2 : Value).ownBlock) s_.2.1 y106) ∧ (Kd.R k80 80 w' w.heap.size (fun k_ => some k_ ≠ (s_.2.1 : Value).ownBlock) s_.2.2.2 y112) ∧ (w'.heap[gb101]? = some (.cells #[.slice A0_0 l0_0.length c0_0, .slice A0_1 l0_1.length c0_1, .slice A0_2 l0_2.length c0_2] 31 (0, 0))) ∧ (w'.heap[gb102]? = some (.cells #[.slice none 0 0, .slice none 0 0, .slice none 0 0] 31 (0, 0))) ∧ (Below w.heap.size w w')) ?_ ?_
     rotate_left
     ·
      intro hJ0_3_4_7
      refine join_ (σ := Value × Value × Value × Value) 4 #[true, true, true, true, true, true, true, false, true, true, true, false, false, false] (fun s_ => [(3, s_.1), (6, s_.2.1), (7, s_.2.2.1), (11, s_.2.2.2)]) (fun s_ w' => (w'.cell? ⟨gb101, 0, none⟩ = some (.slice A0_0 l0_0.length c0_0) ∧ w'.cell? ⟨gb101, 1, none⟩ = some (.slice A0_1 l0_1.length c0_1) ∧ w'.cell? ⟨gb101, 2, none⟩ = some (.slice A0_2 l0_2.length c0_2)) ∧ (Kd.R k80 80 w' w.heap.size (fun k_ => some k_ ≠ (s_.2.2.1 : Value).ownBlock) s_.2.1 y106) ∧ (Kd.R k80 80 w' w.heap.size (fun k_ => some k_ ≠ (s_.2.1 : Value).ownBlock) s_.2.2.1 y109) ∧ (Kd.R k73 73 w' w.heap.size (fun _ => True) s_.2.2.2 y115) ∧ (w'.heap[gb101]? = some (.cells #[.slice A0_0 l0_0.length c0_0, .slice A0_1 l0_1.length c0_1, .slice A0_2 l0_2.length c0_2] 31 (0, 0))) ∧ (w'.heap[gb102]? = some (.cells #[.slice none 0 0, .slice none 0 0, .slice none 0 0] 31 (0, 0))) ∧ (Below w.heap.size w w')) ?_ ?_
      rotate_left
      ·
       intro hJ0_3_4_8
       refine join_ (σ := Value × Value × Value) 5 #[true, true, true, true, true, true, true, false, false, true, true, false, false, false] (fun s_ => [(3, s_.1), (6, s_.2.1), (7, s_.2.2)]) (fun s_ w' => (w'.cell? ⟨gb101, 0, none⟩ = some (.slice A0_0 l0_0.length c0_0) ∧ w'.cell? ⟨gb101, 1, none⟩ = some (.slice A0_1 l0_1.length c0_1) ∧ w'.cell? ⟨gb101, 2, none⟩ = some (.slice A0_2 l0_2.length c0_2)) ∧ (Kd.R k80 80 w' w.heap.size (fun k_ => some k_ ≠ (s_.2.2 : Value).ownBlock) s_.2.1 y106) ∧ (Kd.R k80 80 w' w.heap.size (fun k_ => some k_ ≠ (s_.2.1 : Value).ownBlock) s_.2.2 y109) ∧ (w'.heap[gb101]? = some (.cells #[.slice A0_0 l0_0.length c0_0, .slice A0_1 l0_1.length c0_1, .slice A0_2 l0_2.length c0_2] 31 (0, 0))) ∧ (w'.heap[gb102]? = some (.cells #[.slice none 0 0, .slice none 0 0, .slice none 0 0] 31 (0, 0))) ∧ (Below w.heap.size w w')) ?_ ?_
       rotate_left
       ·
        intro hJ0_3_4
        refine join_ (σ := Value × Value × Value) 5 #[true, true, true, true, false, true, true, false, true, true, true, false, false, false] (fun s_ => [(3, s_.1), (6, s_.2.1), (11, s_.2.2)]) (fun s_ w' => (w'.cell? ⟨gb101, 0, none⟩ = some (.slice A0_0 l0_0.length c0_0) ∧ w'.cell? ⟨gb101, 1, none⟩ = some (.slice A0_1 l0_1.length c0_1) ∧ w'.cell? ⟨gb101, 2, none⟩ = some (.slice A0_2 l0_2.length c0_2)) ∧ (Kd.R k80 80 w' w.heap.size (fun _ => True) s_.2.1 y106) ∧ (Kd.R k73 73 w' w.heap.size (fun _ => True) s_.2.2 y115) ∧ (w'.heap[gb101]? = some (.cells #[.slice A0_0 l0_0.length c0_0, .slice A0_1 l0_1.length c0_1, .slice A0_2 l0_2.length c0_2] 31 (0, 0))) ∧ (w'.heap[gb102]? = some (.cells #[.slice none 0 0, .slice none 0 0, .slice none 0 0] 31 (0, 0))) ∧ (Below w.heap.size w w')) ?_ ?_
        rotate_left
        ·
         intro hJ0_3_8
         refine join_ (σ := Value × Value × Value) 5 #[true, true, true, false, true, true, true, false, true, true, true, false, false, false] (fun s_ => [(3, s_.1), (7, s_.2.1), (11, s_.2.2)]) (fun s_ w' => (w'.cell? ⟨gb101, 0, none⟩ = some (.slice A0_0 l0_0.length c0_0) ∧ w'.cell? ⟨gb101, 1, none⟩ = some (.slice A0_1 l0_1.length c0_1) ∧ w'.cell? ⟨gb101, 2, none⟩ = some (.slice A0_2 l0_2.length c0_2)) ∧ (Kd.R k80 80 w' w.heap.size (fun k_ => some k_ ≠ (s_.2.1 : Value).ownBlock) s_.1 y103) ∧ (Kd.R k80 80 w' w.heap.size (fun k_ => some k_ ≠ (s_.1 : Value).ownBlock) s_.2.1 y109) ∧ (Kd.R k73 73 w' w.heap.size (fun _ => True) s_.2.2 y115) ∧ (w'.heap[gb101]? = some (.cells #[.slice A0_0 l0_0.length c0_0, .slice A0_1 l0_1.length c0_1, .slice A0_2 l0_2.length c0_2] 31 (0, 0))) ∧ (w'.heap[gb102]? = some (.cells #[.slice none 0 0, .slice none 0 0, .slice none 0 0] 31 (0, 0))) ∧ (Below w.heap.size w w')) ?_ ?_
         rotate_left
         ·
          intro hJ0_4_8
          refine join_ (σ := Value × Value) 6 #[true, true, true, true, false, true, true, false, false, true, true, false, false, false] (fun s_ => [(3, s_.1), (6, s_.2)]) (fun s_ w' => (w'.cell? ⟨gb101, 0, none⟩ = some (.slice A0_0 l0_0.length c0_0) ∧ w'.cell? ⟨gb101, 1, none⟩ = some (.slice A0_1 l0_1.length c0_1) ∧ w'.cell? ⟨gb101, 2, none⟩ = some (.slice A0_2 l0_2.length c0_2)) ∧ (Kd.R k80 80 w' w.heap.size (fun _ => True) s_.2 y106) ∧ (w'.heap[gb101]? = some (.cells #[.slice A0_0 l0_0.length c0_0, .slice A0_1 l0_1.length c0_1, .slice A0_2 l0_2.length c0_2] 31 (0, 0))) ∧ (w'.heap[gb102]? = some (.cells #[.slice none 0 0, .slice none 0 0, .slice none 0 0] 31 (0, 0))) ∧ (Below w.heap.size w w')) ?_ ?_
          rotate_left
          ·
           intro hJ0_3
           refine join_ (σ := Value × Value) 6 #[true, true, true, false, true, true, true, false, false, true, true, false, false, false] (fun s_ => [(3, s_.1), (7, s_.2)]) (fun s_ w' => (w'.cell? ⟨gb101, 0, none⟩ = some (.slice A0_0 l0_0.length c0_0) ∧ w'.cell? ⟨gb101, 1, none⟩ = some (.slice A0_1 l0_1.length c0_1) ∧ w'.cell? ⟨gb101, 2, none⟩ = some (.slice A0_2 l0_2.length c0_2)) ∧ (Kd.R k80 80 w' w.heap.size (fun k_ => some k_ ≠ (s_.2 : Value).ownBlock) s_.1 y103) ∧ (Kd.R k80 80 w' w.heap.size (fun k_ => some k_ ≠ (s_.1 : Value).ownBlock) s_.2 y109) ∧ (w'.heap[gb101]? = some (.cells #[.slice A0_0 l0_0.length c0_0, .slice A0_1 l0_1.length c0_1, .slice A0_2 l0_2.length c0_2] 31 (0, 0))) ∧ (w'.heap[gb102]? = some (.cells #[.slice none 0 0, .slice none 0 0, .slice none 0 0] 31 (0, 0))) ∧ (Below w.heap.size w w')) ?_ ?_
           rotate_left
           ·
            intro hJ0_4
            refine join_ (σ := Value × Value) 6 #[true, true, true, false, false, true, true, false, true, true, true, false, false, false] (fun s_ => [(3, s_.1), (11, s_.2)]) (fun s_ w' => (w'.cell? ⟨gb101, 0, none⟩ = some (.slice A0_0 l0_0.length c0_0) ∧ w'.cell? ⟨gb101, 1, none⟩ = some (.slice A0_1 l0_1.length c0_1) ∧ w'.cell? ⟨gb101, 2, none⟩ = some (.slice A0_2 l0_2.length c0_2)) ∧ (Kd.R k80 80 w' w.heap.size (fun _ => True) s_.1 y103) ∧ (Kd.R k73 73 w' w.heap.size (fun _ => True) s_.2 y115) ∧ (w'.heap[gb101]? = some (.cells #[.slice A0_0 l0_0.length c0_0, .slice A0_1 l0_1.length c0_1, .slice A0_2 l0_2.length c0_2] 31 (0, 0))) ∧ (w'.heap[gb102]? = some (.cells #[.slice none 0 0, .slice none 0 0, .slice none 0 0] 31 (0, 0))) ∧ (Below w.heap.size w w')) ?_ ?_
            rotate_left
            ·
             intro hJ0_8
             refine join_ (σ := Value × Value) 6 #[false, true, true, false, true, true, true, false, true, true, true, false, false, false] (fun s_ => [(7, s_.1), (11, s_.2)]) (fun s_ w' => (w'.cell? ⟨gb101, 0, none⟩ = some (.slice A0_0 l0_0.length c0_0) ∧ w'.cell? ⟨gb101, 1, none⟩ = some (.slice A0_1 l0_1.length c0_1) ∧ w'.cell? ⟨gb101, 2, none⟩ = some (.slice A0_2 l0_2.length c0_2)) ∧ (Kd.R k80 80 w' w.heap.size (fun _ => True) s_.1 y109) ∧ (Kd.R k73 73 w' w.heap.size (fun _ => True) s_.2 y115) ∧ (w'.heap[gb101]? = some (.cells #[.slice A0_0 l0_0.length c0_0, .slice A0_1 l0_1.length c0_1, .slice A0_2 l0_2.length c0_2] 31 (0, 0))) ∧ (w'.heap[gb102]? = some (.cells #[.slice none 0 0, .slice none 0 0, .slice none 0 0] 31 (0, 0))) ∧ (Below w.heap.size w w')) ?_ ?_
             rotate_left
             ·
              intro hJ4_8
              refine join_ (σ := Value) 7 #[true, true, true, false, false, true, true, false, false, true, true, false, false, false] (fun s_ => [(3, s_)]) (fun s_ w' => (w'.cell? ⟨gb101, 0, none⟩ = some (.slice A0_0 l0_0.length c0_0) ∧ w'.cell? ⟨gb101, 1, none⟩ = some (.slice A0_1 l0_1.length c0_1) ∧ w'.cell? ⟨gb101, 2, none⟩ = some (.slice A0_2 l0_2.length c0_2)) ∧ (Kd.R k80 80 w' w.heap.size (fun _ => True) s_ y103) ∧ (w'.heap[gb101]? = some (.cells #[.slice A0_0 l0_0.length c0_0, .slice A0_1 l0_1.length c0_1, .slice A0_2 l0_2.length c0_2] 31 (0, 0))) ∧ (w'.heap[gb102]? = some (.cells #[.slice none 0 0, .slice none 0 0, .slice none 0 0] 31 (0, 0))) ∧ (Below w.heap.size w w')) ?_ ?_
              rotate_left
              ·
               intro hJ0
               refine join_ (σ := Value) 7 #[false, true, true, false, true, true, true, false, false, true, true, false, false, false] (fun s_ => [(7, s_)]) (fun s_ w' => (w'.cell? ⟨gb101, 0, none⟩ = some (.slice A0_0 l0_0.length c0_0) ∧ w'.cell? ⟨gb101, 1, none⟩ = some (.slice A0_1 l0_1.length c0_1) ∧ w'.cell? ⟨gb101, 2, none⟩ = some (.slice A0_2 l0_2.length c0_2)) ∧ (Kd.R k80 80 w' w.heap.size (fun _ => True) s_ y109) ∧ (w'.heap[gb101]? = some (.cells #[.slice A0_0 l0_0.length c0_0, .slice A0_1 l0_1.length c0_1, .slice A0_2 l0_2.length c0_2] 31 (0, 0))) ∧ (w'.heap[gb102]? = some (.cells #[.slice none 0 0, .slice none 0 0, .slice none 0 0] 31 (0, 0))) ∧ (Below w.heap.size w w')) ?_ ?_
               rotate_left
               ·
                intro hJ4
                refine join_ (σ := Value) 7 #[false, true, true, false, false, true, true, false, true, true, true, false, false, false] (fun s_ => [(11, s_)]) (fun s_ w' => (w'.cell? ⟨gb101, 0, none⟩ = some (.slice A0_0 l0_0.length c0_0) ∧ w'.cell? ⟨gb101, 1, none⟩ = some (.slice A0_1 l0_1.length c0_1) ∧ w'.cell? ⟨gb101, 2, none⟩ = some (.slice A0_2 l0_2.length c0_2)) ∧ (Kd.R k73 73 w' w.heap.size (fun _ => True) s_ y115) ∧ (w'.heap[gb101]? = some (.cells #[.slice A0_0 l0_0.length c0_0, .slice A0_1 l0_1.length c0_1, .slice A0_2 l0_2.length c0_2] 31 (0, 0))) ∧ (w'.heap[gb102]? = some (.cells #[.slice none 0 0, .slice none 0 0, .slice none 0 0] 31 (0, 0))) ∧ (Below w.heap.size w w')) ?_ ?_
                rotate_left
                ·
                 intro hJ8
                 refine three_ (i := 0) (j := 4) (k := 8) (Ni := some 3) (Nj := some 7) (Nk := some 11) #[true, true, true, false, false, true, true, false, false, true, true, false, false, false] #[false, true, true, false, true, true, true, false, false, true, true, false, false, false] #[false, true, true, false, false, true, true, false, true, true, true, false, false, false] rfl rfl rfl rfl rfl rfl (three_of HT_.out (by kernel_rfl)) (by decide) (by decide) (by decide) (fun K hK => ?_) (fun K hK => ?_) (fun K hK => ?_)
                 ·
                  skip
                  refine Kd.R_lit_step k80 _ 80 ?hg (N := 3) ?hd (xs := ([] : List (S80))) (inner := []) (ok := fun _ => True) (okp := fun _ => True) ?hr ?hp (fun _ hk => hk) trivial (Below.refl _ _) (Nat.le_refl _) (by simp) ?_; (case hd => rfl); (case hg => rfl); (case hr => first | (go_simp; done) | (go_simp; rfl)); (case hp => exact (Reps.none _ _))
                  intro v104 w8 ho9 hb hg_ hnew_
                  clear hg_ hnew_
                  (first | rw [← Ny103.out] at ho9 | (simp only [Int.reduceToNat] at ho9; rw [← Ny103.out] at ho9))
                  have HO105 := am (Kd.R_lower ho9 (qaf (au4 HB.out GE101.out GE102.out)))
                  replace BK101 := am (qab (au1 BK101.out) hb)
                  replace BK102 := am (qab (au1 BK102.out) hb)
                  replace HB := am (qad (au4 HB.out GE101.out GE102.out) hb)
                  clear hb ho9
                  refine hK.out _ _ ⟨(qak BK101.out 0).trans rfl, (qak BK101.out 1).trans rfl, (qak BK101.out 2).trans rfl⟩ (fun hHeld => ?_)
                  clear hK K
                  refine norm_ (a' := ?_) ?_ ?_
                  rotate_left
                  ·
                   show Act.put _ (some 3) _ = _
                   simp only [Act.put, qsA, qsZ, qsS, i64_w, i32_w]
                   rfl
                  exact norm_ au19 (hJ0 (v104) _ ⟨hHeld, (au0 HO105.out), (au1 BK101.out), (au1 BK102.out), (au4 HB.out GE101.out GE102.out)⟩)
                 ·
                  skip
                  refine Kd.R_lit_step k80 _ 80 ?hg (N := 7) ?hd (xs := ([] : List (S80))) (inner := []) (ok := fun _ => True) (okp := fun _ => True) ?hr ?hp (fun _ hk => hk) trivial (Below.refl _ _) (Nat.le_refl _) (by simp) ?_; (case hd => rfl); (case hg => rfl); (case hr => first | (go_simp; done) | (go_simp; rfl)); (case hp => exact (Reps.none _ _))
                  intro v110 w8 ho9 hb hg_ hnew_
                  clear hg_ hnew_
                  (first | rw [← Ny109.out] at ho9 | (simp only [Int.reduceToNat] at ho9; rw [← Ny109.out] at ho9))
                  have HO111 := am (Kd.R_lower ho9 (qaf (au4 HB.out GE101.out GE102.out)))
                  replace BK101 := am (qab (au1 BK101.out) hb)
                  replace BK102 := am (qab (au1 BK102.out) hb)
                  replace HB := am (qad (au4 HB.out GE101.out GE102.out) hb)
                  clear hb ho9
                  refine hK.out _ _ ⟨(qak BK101.out 0).trans rfl, (qak BK101.out 1).trans rfl, (qak BK101.out 2).trans rfl⟩ (fun hHeld => ?_)
                  clear hK K
                  refine norm_ (a' := ?_) ?_ ?_
                  rotate_left
                  ·
                   show Act.put _ (some 7) _ = _
                   simp only [Act.put, qsA, qsZ, qsS, i64_w, i32_w]
                   rfl
                  exact norm_ au19 (hJ4 (v110) _ ⟨hHeld, (au0 HO111.out), (au1 BK101.out), (au1 BK102.out), (au4 HB.out GE101.out GE102.out)⟩)
                 ·
                  skip
                  refine Kd.R_lit_step k73 _ 73 ?hg (N := 11) ?hd (xs := ([] : List (S73))) (inner := []) (ok := fun _ => True) (okp := fun _ => True) ?hr ?hp (fun _ hk => hk) trivial (Below.refl _ _) (Nat.le_refl _) (by simp) ?_; (case hd => rfl); (case hg => rfl); (case hr => first | (go_simp; done) | (go_simp; rfl)); (case hp => exact (Reps.none _ _))
                  intro v116 w8 ho9 hb hg_ hnew_
                  clear hg_ hnew_
                  (first | rw [← Ny115.out] at ho9 | (simp only [Int.reduceToNat] at ho9; rw [← Ny115.out] at ho9))
                  have HO117 := am (Kd.R_lower ho9 (qaf (au4 HB.out GE101.out GE102.out)))
                  replace BK101 := am (qab (au1 BK101.out) hb)
                  replace BK102 := am (qab (au1 BK102.out) hb)
                  replace HB := am (qad (au4 HB.out GE101.out GE102.out) hb)
                  clear hb ho9
                  refine hK.out _ _ ⟨(qak BK101.out 0).trans rfl, (qak BK101.out 1).trans rfl, (qak BK101.out 2).trans rfl⟩ (fun hHeld => ?_)
                  clear hK K
                  refine norm_ (a' := ?_) ?_ ?_
                  rotate_left
                  ·
                   show Act.put _ (some 11) _ = _
                   simp only [Act.put, qsA, qsZ, qsS, i64_w, i32_w]
                   rfl
                  exact norm_ au19 (hJ8 (v116) _ ⟨hHeld, (au0 HO117.out), (au1 BK101.out), (au1 BK102.out), (au4 HB.out GE101.out GE102.out)⟩)
                ·
                 skip
                 rintro v116 w10 ⟨hS_, h0_, h1_, h2_, h3_⟩
                 have n0_ : Aside0 (Kd.R k73 73 w10 w.heap.size (fun _ => True) v116 y115) := ⟨h0_⟩
                 have n1_ : Aside0 (w10.heap[gb101]? = some (.cells #[.slice A0_0 l0_0.length c0_0, .slice A0_1 l0_1.length c0_1, .slice A0_2 l0_2.length c0_2] 31 (0, 0))) := ⟨h1_⟩
                 have n2_ : Aside0 (w10.heap[gb102]? = some (.cells #[.slice none 0 0, .slice none 0 0, .slice none 0 0] 31 (0, 0))) := ⟨h2_⟩
                 have n3_ : Aside0 (Below w.heap.size w w10) := ⟨h3_⟩
                 clear BK101
                 clear BK102
                 clear HB
                 clear h0_ h1_ h2_ h3_
                 have HO117 := n0_
                 have BK101 := n1_
                 have BK102 := n2_
                 have HB := n3_
                 clear n0_ n1_ n2_ n3_
                 have hHeld : w10.cell? ⟨gb101, 0, none⟩ = some (.slice A0_0 l0_0.length c0_0) ∧ w10.cell? ⟨gb101, 1, none⟩ = some (.slice A0_1 l0_1.length c0_1) ∧ w10.cell? ⟨gb101, 2, none⟩ = some (.slice A0_2 l0_2.length c0_2) := hS_
                 refine norm_ (a' := ?_) ?_ ?_
                 rotate_left
                 ·
                  simp only [qbz, Act.put, qsA, qsZ, qsS]
                  rfl
                 refine two_ (i := 0) (j := 4) (Ni := some 3) (Nj := some 7) #[true, true, true, false, false, true, true, false, true, true, true, false, false, false] #[false, true, true, false, true, true, true, false, true, true, true, false, false, false] rfl rfl rfl rfl (qew HT_.out (by kernel_rfl)) (by decide) (by decide) (fun K hK => ?_) (fun K hK => ?_)
                 ·
                  skip
                  refine Kd.R_lit_step k80 _ 80 ?hg (N := 3) ?hd (xs := ([] : List (S80))) (inner := []) (ok := fun _ => True) (okp := fun _ => True) ?hr ?hp (fun _ hk => hk) trivial (Below.refl _ _) (Nat.le_refl _) (by simp) ?_; (case hd => rfl); (case hg => rfl); (case hr => first | (go_simp; done) | (go_simp; rfl)); (case hp => exact (Reps.none _ _))
                  intro v104 w11 ho12 hb hg_ hnew_
                  clear hg_ hnew_
                  (first | rw [← Ny103.out] at ho12 | (simp only [Int.reduceToNat] at ho12; rw [← Ny103.out] at ho12))
                  replace HO117 := am (Kd.R_below (au0 HO117.out) hb)
                  have HO105 := am (Kd.R_lower ho12 (qaf (au4 HB.out GE101.out GE102.out)))
                  replace BK101 := am (qab (au1 BK101.out) hb)
                  replace BK102 := am (qab (au1 BK102.out) hb)
                  replace HB := am (qad (au4 HB.out GE101.out GE102.out) hb)
                  clear hb ho12
                  refine hK.out _ _ ⟨(qak BK101.out 0).trans rfl, (qak BK101.out 1).trans rfl, (qak BK101.out 2).trans rfl⟩ (fun hHeld => ?_)
                  clear hK K
                  refine norm_ (a' := ?_) ?_ ?_
                  rotate_left
                  ·
                   show Act.put _ (some 3) _ = _
                   simp only [Act.put, qsA, qsZ, qsS, i64_w, i32_w]
                   rfl
                  exact norm_ au19 (hJ0_8 (v104, v116) _ ⟨hHeld, (au0 HO105.out), (au0 HO117.out), (au1 BK101.out), (au1 BK102.out), (au4 HB.out GE101.out GE102.out)⟩)
                 ·
                  skip
                  refine Kd.R_lit_step k80 _ 80 ?hg (N := 7) ?hd (xs := ([] : List (S80))) (inner := []) (ok := fun _ => True) (okp := fun _ => True) ?hr ?hp (fun _ hk => hk) trivial (Below.refl _ _) (Nat.le_refl _) (by simp) ?_; (case hd => rfl); (case hg => rfl); (case hr => first | (go_simp; done) | (go_simp; rfl)); (case hp => exact (Reps.none _ _))
                  intro v110 w11 ho12 hb hg_ hnew_
                  clear hg_ hnew_
                  (first | rw [← Ny109.out] at ho12 | (simp only [Int.reduceToNat] at ho12; rw [← Ny109.out] at ho12))
                  replace HO117 := am (Kd.R_below (au0 HO117.out) hb)
                  have HO111 := am (Kd.R_lower ho12 (qaf (au4 HB.out GE101.out GE102.out)))
                  replace BK101 := am (qab (au1 BK101.out) hb)
                  replace BK102 := am (qab (au1 BK102.out) hb)
                  replace HB := am (qad (au4 HB.out GE101.out GE102.out) hb)
                  clear hb ho12
                  refine hK.out _ _ ⟨(qak BK101.out 0).trans rfl, (qak BK101.out 1).trans rfl, (qak BK101.out 2).trans rfl⟩ (fun hHeld => ?_)
                  clear hK K
                  refine norm_ (a' := ?_) ?_ ?_
                  rotate_left
                  ·
                   show Act.put _ (some 7) _ = _
                   simp only [Act.put, qsA, qsZ, qsS, i64_w, i32_w]
                   rfl
                  exact norm_ au19 (hJ4_8 (v110, v116) _ ⟨hHeld, (au0 HO111.out), (au0 HO117.out), (au1 BK101.out), (au1 BK102.out), (au4 HB.out GE101.out GE102.out)⟩)
               ·
                skip
                rintro v110 w10 ⟨hS_, h0_, h1_, h2_, h3_⟩
                have n0_ : Aside0 (Kd.R k80 80 w10 w.heap.size (fun _ => True) v110 y109) := ⟨h0_⟩
                have n1_ : Aside0 (w10.heap[gb101]? = some (.cells #[.slice A0_0 l0_0.length c0_0, .slice A0_1 l0_1.length c0_1, .slice A0_2 l0_2.length c0_2] 31 (0, 0))) := ⟨h1_⟩
                have n2_ : Aside0 (w10.heap[gb102]? = some (.cells #[.slice none 0 0, .slice none 0 0, .slice none 0 0] 31 (0, 0))) := ⟨h2_⟩
                have n3_ : Aside0 (Below w.heap.size w w10) := ⟨h3_⟩
                clear BK101
                clear BK102
                clear HB
                clear h0_ h1_ h2_ h3_
                have HO111 := n0_
                have BK101 := n1_
                have BK102 := n2_
                have HB := n3_
                clear n0_ n1_ n2_ n3_
                have hHeld : w10.cell? ⟨gb101, 0, none⟩ = some (.slice A0_0 l0_0.length c0_0) ∧ w10.cell? ⟨gb101, 1, none⟩ = some (.slice A0_1 l0_1.length c0_1) ∧ w10.cell? ⟨gb101, 2, none⟩ = some (.slice A0_2 l0_2.length c0_2) := hS_
                refine norm_ (a' := ?_) ?_ ?_
                rotate_left
                ·
                 simp only [qbz, Act.put, qsA, qsZ, qsS]
                 rfl
                refine two_ (i := 0) (j := 8) (Ni := some 3) (Nj := some 11) #[true, true, true, false, true, true, true, false, false, true, true, false, false, false] #[false, true, true, false, true, true, true, false, true, true, true, false, false, false] rfl rfl rfl rfl (qew HT_.out (by kernel_rfl)) (by decide) (by decide) (fun K hK => ?_) (fun K hK => ?_)
                ·
                 skip
                 refine Kd.R_lit_step k80 _ 80 ?hg (N := 3) ?hd (xs := ([] : List (S80))) (inner := []) (ok := fun _ => True) (okp := fun _ => True) ?hr ?hp (fun _ hk => hk) trivial (Below.refl _ _) (Nat.le_refl _) (by simp) ?_; (case hd => rfl); (case hg => rfl); (case hr => first | (go_simp; done) | (go_simp; rfl)); (case hp => exact (Reps.none _ _))
                 intro v104 w11 ho12 hb hg_ hnew_
                 clear hg_ hnew_
                 (first | rw [← Ny103.out] at ho12 | (simp only [Int.reduceToNat] at ho12; rw [← Ny103.out] at ho12))
                 have HO105 := am (Kd.R_lower (Kd.R_new' ho12 (Kd.R_lt (au0 HO111.out))) (qaf (au4 HB.out GE101.out GE102.out)))
                 replace HO111 := am (Kd.R_elder' (au0 HO111.out) (Kd.R_base ho12) hb)
                 replace BK101 := am (qab (au1 BK101.out) hb)
                 replace BK102 := am (qab (au1 BK102.out) hb)
                 replace HB := am (qad (au4 HB.out GE101.out GE102.out) hb)
                 clear hb ho12
                 refine hK.out _ _ ⟨(qak BK101.out 0).trans rfl, (qak BK101.out 1).trans rfl, (qak BK101.out 2).trans rfl⟩ (fun hHeld => ?_)
                 clear hK K
                 refine norm_ (a' := ?_) ?_ ?_
                 rotate_left
                 ·
                  show Act.put _ (some 3) _ = _
                  simp only [Act.put, qsA, qsZ, qsS, i64_w, i32_w]
                  rfl
                 exact norm_ au19 (hJ0_4 (v104, v110) _ ⟨hHeld, (by refine au0 ?_; exact Kd.R_mono HO105.out k2E), (by refine au0 ?_; exact Kd.R_mono HO111.out k2E), (au1 BK101.out), (au1 BK102.out), (au4 HB.out GE101.out GE102.out)⟩)
                ·
                 skip
                 refine Kd.R_lit_step k73 _ 73 ?hg (N := 11) ?hd (xs := ([] : List (S73))) (inner := []) (ok := fun _ => True) (okp := fun _ => True) ?hr ?hp (fun _ hk => hk) trivial (Below.refl _ _) (Nat.le_refl _) (by simp) ?_; (case hd => rfl); (case hg => rfl); (case hr => first | (go_simp; done) | (go_simp; rfl)); (case hp => exact (Reps.none _ _))
                 intro v116 w11 ho12 hb hg_ hnew_
                 clear hg_ hnew_
                 (first | rw [← Ny115.out] at ho12 | (simp only [Int.reduceToNat] at ho12; rw [← Ny115.out] at ho12))
                 replace HO111 := am (Kd.R_below (au0 HO111.out) hb)
                 have HO117 := am (Kd.R_lower ho12 (qaf (au4 HB.out GE101.out GE102.out)))
                 replace BK101 := am (qab (au1 BK101.out) hb)
                 replace BK102 := am (qab (au1 BK102.out) hb)
                 replace HB := am (qad (au4 HB.out GE101.out GE102.out) hb)
                 clear hb ho12
                 refine hK.out _ _ ⟨(qak BK101.out 0).trans rfl, (qak BK101.out 1).trans rfl, (qak BK101.out 2).trans rfl⟩ (fun hHeld => ?_)
                 clear hK K
                 refine norm_ (a' := ?_) ?_ ?_
                 rotate_left
                 ·
                  show Act.put _ (some 11) _ = _
                  simp only [Act.put, qsA, qsZ, qsS, i64_w, i32_w]
                  rfl
                 exact norm_ au19 (hJ4_8 (v110, v116) _ ⟨hHeld, (au0 HO111.out), (au0 HO117.out), (au1 BK101.out), (au1 BK102.out), (au4 HB.out GE101.out GE102.out)⟩)
              ·
               skip
               rintro v104 w10 ⟨hS_, h0_, h1_, h2_, h3_⟩
               have n0_ : Aside0 (Kd.R k80 80 w10 w.heap.size (fun _ => True) v104 y103) := ⟨h0_⟩
               have n1_ : Aside0 (w10.heap[gb101]? = some (.cells #[.slice A0_0 l0_0.length c0_0, .slice A0_1 l0_1.length c0_1, .slice A0_2 l0_2.length c0_2] 31 (0, 0))) := ⟨h1_⟩
               have n2_ : Aside0 (w10.heap[gb102]? = some (.cells #[.slice none 0 0, .slice none 0 0, .slice none 0 0] 31 (0, 0))) := ⟨h2_⟩
               have n3_ : Aside0 (Below w.heap.size w w10) := ⟨h3_⟩
               clear BK101
               clear BK102
               clear HB
               clear h0_ h1_ h2_ h3_
               have HO105 := n0_
               have BK101 := n1_
               have BK102 := n2_
               have HB := n3_
               clear n0_ n1_ n2_ n3_
               have hHeld : w10.cell? ⟨gb101, 0, none⟩ = some (.slice A0_0 l0_0.length c0_0) ∧ w10.cell? ⟨gb101, 1, none⟩ = some (.slice A0_1 l0_1.length c0_1) ∧ w10.cell? ⟨gb101, 2, none⟩ = some (.slice A0_2 l0_2.length c0_2) := hS_
               refine norm_ (a' := ?_) ?_ ?_
               rotate_left
               ·
                simp only [qbz, Act.put, qsA, qsZ, qsS]
                rfl
               refine three_ (i := 3) (j := 4) (k := 8) (Ni := some 6) (Nj := some 7) (Nk := some 11) #[true, true, true, true, false, true, true, false, false, true, true, false, false, false] #[true, true, true, false, true, true, true, false, false, true, true, false, false, false] #[true, true, true, false, false, true, true, false, true, true, true, false, false, false] rfl rfl rfl rfl rfl rfl (three_of HT_.out (by kernel_rfl)) (by decide) (by decide) (by decide) (fun K hK => ?_) (fun K hK => ?_) (fun K hK => ?_)
               ·
                skip
                refine Kd.R_append_rows_step k80 (w0 := w) w.heap.size (by rfl) (.tmp 3) (.tmp 5) 28 80 (.agg #[(.string ⟨#[]⟩), (.string ⟨#[]⟩)]) 32 rfl Try.underlying28 qch rfl (by decide) (by omega) v104 y103 l0_0 _ _ _ (fun _ => True) (fun _ => False) rfl rfl ?aO ?aR (fun _ _ h => h) (fun _ h => h.elim) ?aF ?aB ?aS ?aL ?_
                (case aR => exact scE (Kd.C_below HR0_0.out HB.out))
                (case aB => exact (au4 HB.out GE101.out GE102.out))
                (case aF => exact (fun _ _ => trivial))
                (case aO => exact (au0 HO105.out))
                (case aS => exact (qaf (au4 HB.out GE101.out GE102.out)))
                (case aL => have := LMc2.out; omega)
                intro v107 w11 ho hb hg hat
                rw [← Ny106.out] at ho
                replace BK101 := am (qbb (au1 BK101.out) hg (Kd.R_ne HO105.out BK101.out (by decide)))
                replace BK102 := am (qbb (au1 BK102.out) hg (Kd.R_ne HO105.out BK102.out (by decide)))
                replace HB := am (hb)
                have HO108 := am (ho)
                clear HO105
                clear ho hb hg hat
                refine hK.out _ _ ⟨(qak BK101.out 0).trans rfl, (qak BK101.out 1).trans rfl, (qak BK101.out 2).trans rfl⟩ (fun hHeld => ?_)
                clear hK K
                refine norm_ (a' := ?_) ?_ ?_
                rotate_left
                ·
                 show Act.put _ (some 6) _ = _
                 simp only [Act.put, qsA, qsZ, qsS, i64_w, i32_w]
                 rfl
                exact norm_ au19 (hJ0_3 (v104, v107) _ ⟨hHeld, (au0 HO108.out), (au1 BK101.out), (au1 BK102.out), (au4 HB.out GE101.out GE102.out)⟩)
               ·
                skip
                refine Kd.R_lit_step k80 _ 80 ?hg (N := 7) ?hd (xs := ([] : List (S80))) (inner := []) (ok := fun _ => True) (okp := fun _ => True) ?hr ?hp (fun _ hk => hk) trivial (Below.refl _ _) (Nat.le_refl _) (by simp) ?_; (case hd => rfl); (case hg => rfl); (case hr => first | (go_simp; done) | (go_simp; rfl)); (case hp => exact (Reps.none _ _))
                intro v110 w11 ho12 hb hg_ hnew_
                clear hg_ hnew_
                (first | rw [← Ny109.out] at ho12 | (simp only [Int.reduceToNat] at ho12; rw [← Ny109.out] at ho12))
                have HO111 := am (Kd.R_lower (Kd.R_new' ho12 (Kd.R_lt (au0 HO105.out))) (qaf (au4 HB.out GE101.out GE102.out)))
                replace HO105 := am (Kd.R_elder' (au0 HO105.out) (Kd.R_base ho12) hb)
                replace BK101 := am (qab (au1 BK101.out) hb)
                replace BK102 := am (qab (au1 BK102.out) hb)
                replace HB := am (qad (au4 HB.out GE101.out GE102.out) hb)
                clear hb ho12
                refine hK.out _ _ ⟨(qak BK101.out 0).trans rfl, (qak BK101.out 1).trans rfl, (qak BK101.out 2).trans rfl⟩ (fun hHeld => ?_)
                clear hK K
                refine norm_ (a' := ?_) ?_ ?_
                rotate_left
                ·
                 show Act.put _ (some 7) _ = _
                 simp only [Act.put, qsA, qsZ, qsS, i64_w, i32_w]
                 rfl
                exact norm_ au19 (hJ0_4 (v104, v110) _ ⟨hHeld, (by refine au0 ?_; exact Kd.R_mono HO105.out k2E), (by refine au0 ?_; exact Kd.R_mono HO111.out k2E), (au1 BK101.out), (au1 BK102.out), (au4 HB.out GE101.out GE102.out)⟩)
               ·
                skip
                refine Kd.R_lit_step k73 _ 73 ?hg (N := 11) ?hd (xs := ([] : List (S73))) (inner := []) (ok := fun _ => True) (okp := fun _ => True) ?hr ?hp (fun _ hk => hk) trivial (Below.refl _ _) (Nat.le_refl _) (by simp) ?_; (case hd => rfl); (case hg => rfl); (case hr => first | (go_simp; done) | (go_simp; rfl)); (case hp => exact (Reps.none _ _))
                intro v116 w11 ho12 hb hg_ hnew_
                clear hg_ hnew_
                (first | rw [← Ny115.out] at ho12 | (simp only [Int.reduceToNat] at ho12; rw [← Ny115.out] at ho12))
                replace HO105 := am (Kd.R_below (au0 HO105.out) hb)
                have HO117 := am (Kd.R_lower ho12 (qaf (au4 HB.out GE101.out GE102.out)))
                replace BK101 := am (qab (au1 BK101.out) hb)
                replace BK102 := am (qab (au1 BK102.out) hb)
                replace HB := am (qad (au4 HB.out GE101.out GE102.out) hb)
                clear hb ho12
                refine hK.out _ _ ⟨(qak BK101.out 0).trans rfl, (qak BK101.out 1).trans rfl, (qak BK101.out 2).trans rfl⟩ (fun hHeld => ?_)
                clear hK K
                refine norm_ (a' := ?_) ?_ ?_
                rotate_left
                ·
                 show Act.put _ (some 11) _ = _
                 simp only [Act.put, qsA, qsZ, qsS, i64_w, i32_w]
                 rfl
                exact norm_ au19 (hJ0_8 (v104, v116) _ ⟨hHeld, (au0 HO105.out), (au0 HO117.out), (au1 BK101.out), (au1 BK102.out), (au4 HB.out GE101.out GE102.out)⟩)
             ·
              skip
              rintro ⟨v110, v116⟩ w12 ⟨hS_, h0_, h1_, h2_, h3_, h4_⟩
              have n0_ : Aside0 (Kd.R k80 80 w12 w.heap.size (fun _ => True) v110 y109) := ⟨h0_⟩
              have n1_ : Aside0 (Kd.R k73 73 w12 w.heap.size (fun _ => True) v116 y115) := ⟨h1_⟩
              have n2_ : Aside0 (w12.heap[gb101]? = some (.cells #[.slice A0_0 l0_0.length c0_0, .slice A0_1 l0_1.length c0_1, .slice A0_2 l0_2.length c0_2] 31 (0, 0))) := ⟨h2_⟩
              have n3_ : Aside0 (w12.heap[gb102]? = some (.cells #[.slice none 0 0, .slice none 0 0, .slice none 0 0] 31 (0, 0))) := ⟨h3_⟩
              have n4_ : Aside0 (Below w.heap.size w w12) := ⟨h4_⟩
              clear BK101
              clear BK102
              clear HB
              clear h0_ h1_ h2_ h3_ h4_
              have HO111 := n0_
              have HO117 := n1_
              have BK101 := n2_
              have BK102 := n3_
              have HB := n4_
              clear n0_ n1_ n2_ n3_ n4_
              have hHeld : w12.cell? ⟨gb101, 0, none⟩ = some (.slice A0_0 l0_0.length c0_0) ∧ w12.cell? ⟨gb101, 1, none⟩ = some (.slice A0_1 l0_1.length c0_1) ∧ w12.cell? ⟨gb101, 2, none⟩ = some (.slice A0_2 l0_2.length c0_2) := hS_
              refine norm_ (a' := ?_) ?_ ?_
              rotate_left
              ·
               simp only [qbz, Act.put, qsA, qsZ, qsS]
               rfl
              refine one_ (i := 0) (N := some 3) #[true, true, true, false, true, true, true, false, true, true, true, false, false, false] rfl rfl (qbw HT_.out (by kernel_rfl)) (by decide) (fun K hK => ?_)
              refine Kd.R_lit_step k80 _ 80 ?hg (N := 3) ?hd (xs := ([] : List (S80))) (inner := []) (ok := fun _ => True) (okp := fun _ => True) ?hr ?hp (fun _ hk => hk) trivial (Below.refl _ _) (Nat.le_refl _) (by simp) ?_; (case hd => rfl); (case hg => rfl); (case hr => first | (go_simp; done) | (go_simp; rfl)); (case hp => exact (Reps.none _ _))
              intro v104 w13 ho14 hb hg_ hnew_
              clear hg_ hnew_
              (first | rw [← Ny103.out] at ho14 | (simp only [Int.reduceToNat] at ho14; rw [← Ny103.out] at ho14))
              replace HO117 := am (Kd.R_below (au0 HO117.out) hb)
              have HO105 := am (Kd.R_lower (Kd.R_new' ho14 (Kd.R_lt (au0 HO111.out))) (qaf (au4 HB.out GE101.out GE102.out)))
              replace HO111 := am (Kd.R_elder' (au0 HO111.out) (Kd.R_base ho14) hb)
              replace BK101 := am (qab (au1 BK101.out) hb)
              replace BK102 := am (qab (au1 BK102.out) hb)
              replace HB := am (qad (au4 HB.out GE101.out GE102.out) hb)
              clear hb ho14
              refine hK.out _ _ ⟨(qak BK101.out 0).trans rfl, (qak BK101.out 1).trans rfl, (qak BK101.out 2).trans rfl⟩ (fun hHeld => ?_)
              clear hK K
              refine norm_ (a' := ?_) ?_ ?_
              rotate_left
              ·
               show Act.put _ (some 3) _ = _
               simp only [Act.put, qsA, qsZ, qsS, i64_w, i32_w]
               rfl
              exact norm_ au19 (hJ0_4_8 (v104, v110, v116) _ ⟨hHeld, (by refine au0 ?_; exact Kd.R_mono HO105.out k2E), (by refine au0 ?_; exact Kd.R_mono HO111.out k2E), (au0 HO117.out), (au1 BK101.out), (au1 BK102.out), (au4 HB.out GE101.out GE102.out)⟩)
            ·
             skip
             rintro ⟨v104, v116⟩ w12 ⟨hS_, h0_, h1_, h2_, h3_, h4_⟩
             have n0_ : Aside0 (Kd.R k80 80 w12 w.heap.size (fun _ => True) v104 y103) := ⟨h0_⟩
             have n1_ : Aside0 (Kd.R k73 73 w12 w.heap.size (fun _ => True) v116 y115) := ⟨h1_⟩
             have n2_ : Aside0 (w12.heap[gb101]? = some (.cells #[.slice A0_0 l0_0.length c0_0, .slice A0_1 l0_1.length c0_1, .slice A0_2 l0_2.length c0_2] 31 (0, 0))) := ⟨h2_⟩
             have n3_ : Aside0 (w12.heap[gb102]? = some (.cells #[.slice none 0 0, .slice none 0 0, .slice none 0 0] 31 (0, 0))) := ⟨h3_⟩
             have n4_ : Aside0 (Below w.heap.size w w12) := ⟨h4_⟩
             clear BK101
             clear BK102
             clear HB
             clear h0_ h1_ h2_ h3_ h4_
             have HO105 := n0_
             have HO117 := n1_
             have BK101 := n2_
             have BK102 := n3_
             have HB := n4_
             clear n0_ n1_ n2_ n3_ n4_
             have hHeld : w12.cell? ⟨gb101, 0, none⟩ = some (.slice A0_0 l0_0.length c0_0) ∧ w12.cell? ⟨gb101, 1, none⟩ = some (.slice A0_1 l0_1.length c0_1) ∧ w12.cell? ⟨gb101, 2, none⟩ = some (.slice A0_2 l0_2.length c0_2) := hS_
             refine norm_ (a' := ?_) ?_ ?_
             rotate_left
             ·
              simp only [qbz, Act.put, qsA, qsZ, qsS]
              rfl
             refine two_ (i := 3) (j := 4) (Ni := some 6) (Nj := some 7) #[true, true, true, true, false, true, true, false, true, true, true, false, false, false] #[true, true, true, false, true, true, true, false, true, true, true, false, false, false] rfl rfl rfl rfl (qew HT_.out (by kernel_rfl)) (by decide) (by decide) (fun K hK => ?_) (fun K hK => ?_)
             ·
              skip
              refine Kd.R_append_rows_step k80 (w0 := w) w.heap.size (by rfl) (.tmp 3) (.tmp 5) 28 80 (.agg #[(.string ⟨#[]⟩), (.string ⟨#[]⟩)]) 32 rfl Try.underlying28 qch rfl (by decide) (by omega) v104 y103 l0_0 _ _ _ (fun _ => True) (fun _ => False) rfl rfl ?aO ?aR (fun _ _ h => h) (fun _ h => h.elim) ?aF ?aB ?aS ?aL ?_
              (case aR => exact scE (Kd.C_below HR0_0.out HB.out))
              (case aB => exact (au4 HB.out GE101.out GE102.out))
              (case aF => exact (fun _ _ => trivial))
              (case aO => exact (au0 HO105.out))
              (case aS => exact (qaf (au4 HB.out GE101.out GE102.out)))
              (case aL => have := LMc2.out; omega)
              intro v107 w13 ho hb hg hat
              rw [← Ny106.out] at ho
              replace BK101 := am (qbb (au1 BK101.out) hg (Kd.R_ne HO105.out BK101.out (by decide)))
              replace BK102 := am (qbb (au1 BK102.out) hg (Kd.R_ne HO105.out BK102.out (by decide)))
              replace HO117 := am (Kd.R_over' (au0 HO117.out) (Kd.R_typed (au0 HO105.out)) (by decide) hg)
              replace HB := am (hb)
              have HO108 := am (ho)
              clear HO105
              clear ho hb hg hat
              refine hK.out _ _ ⟨(qak BK101.out 0).trans rfl, (qak BK101.out 1).trans rfl, (qak BK101.out 2).trans rfl⟩ (fun hHeld => ?_)
              clear hK K
              refine norm_ (a' := ?_) ?_ ?_
              rotate_left
              ·
               show Act.put _ (some 6) _ = _
               simp only [Act.put, qsA, qsZ, qsS, i64_w, i32_w]
               rfl
              exact norm_ au19 (hJ0_3_8 (v104, v107, v116) _ ⟨hHeld, (au0 HO108.out), (au0 HO117.out), (au1 BK101.out), (au1 BK102.out), (au4 HB.out GE101.out GE102.out)⟩)
             ·
              skip
              refine Kd.R_lit_step k80 _ 80 ?hg (N := 7) ?hd (xs := ([] : List (S80))) (inner := []) (ok := fun _ => True) (okp := fun _ => True) ?hr ?hp (fun _ hk => hk) trivial (Below.refl _ _) (Nat.le_refl _) (by simp) ?_; (case hd => rfl); (case hg => rfl); (case hr => first | (go_simp; done) | (go_simp; rfl)); (case hp => exact (Reps.none _ _))
              intro v110 w13 ho14 hb hg_ hnew_
              clear hg_ hnew_
              (first | rw [← Ny109.out] at ho14 | (simp only [Int.reduceToNat] at ho14; rw [← Ny109.out] at ho14))
              replace HO117 := am (Kd.R_below (au0 HO117.out) hb)
              have HO111 := am (Kd.R_lower (Kd.R_new' ho14 (Kd.R_lt (au0 HO105.out))) (qaf (au4 HB.out GE101.out GE102.out)))
              replace HO105 := am (Kd.R_elder' (au0 HO105.out) (Kd.R_base ho14) hb)
              replace BK101 := am (qab (au1 BK101.out) hb)
              replace BK102 := am (qab (au1 BK102.out) hb)
              replace HB := am (qad (au4 HB.out GE101.out GE102.out) hb)
              clear hb ho14
              refine hK.out _ _ ⟨(qak BK101.out 0).trans rfl, (qak BK101.out 1).trans rfl, (qak BK101.out 2).trans rfl⟩ (fun hHeld => ?_)
              clear hK K
              refine norm_ (a' := ?_) ?_ ?_
              rotate_left
              ·
               show Act.put _ (some 7) _ = _
               simp only [Act.put, qsA, qsZ, qsS, i64_w, i32_w]
               rfl
              exact norm_ au19 (hJ0_4_8 (v104, v110, v116) _ ⟨hHeld, (by refine au0 ?_; exact Kd.R_mono HO105.out k2E), (by refine au0 ?_; exact Kd.R_mono HO111.out k2E), (au0 HO117.out), (au1 BK101.out), (au1 BK102.out), (au4 HB.out GE101.out GE102.out)⟩)
           ·
            skip
            rintro ⟨v104, v110⟩ w12 ⟨hS_, h0_, h1_, h2_, h3_, h4_⟩
            have n0_ : Aside0 (Kd.R k80 80 w12 w.heap.size (fun k_ => some k_ ≠ (v110 : Value).ownBlock) v104 y103) := ⟨h0_⟩
            have n1_ : Aside0 (Kd.R k80 80 w12 w.heap.size (fun k_ => some k_ ≠ (v104 : Value).ownBlock) v110 y109) := ⟨h1_⟩
            have n2_ : Aside0 (w12.heap[gb101]? = some (.cells #[.slice A0_0 l0_0.length c0_0, .slice A0_1 l0_1.length c0_1, .slice A0_2 l0_2.length c0_2] 31 (0, 0))) := ⟨h2_⟩
            have n3_ : Aside0 (w12.heap[gb102]? = some (.cells #[.slice none 0 0, .slice none 0 0, .slice none 0 0] 31 (0, 0))) := ⟨h3_⟩
            have n4_ : Aside0 (Below w.heap.size w w12) := ⟨h4_⟩
            clear BK101
            clear BK102
            clear HB
            clear h0_ h1_ h2_ h3_ h4_
            have HO105 := n0_
            have HO111 := n1_
            have BK101 := n2_
            have BK102 := n3_
            have HB := n4_
            clear n0_ n1_ n2_ n3_ n4_
            have hHeld : w12.cell? ⟨gb101, 0, none⟩ = some (.slice A0_0 l0_0.length c0_0) ∧ w12.cell? ⟨gb101, 1, none⟩ = some (.slice A0_1 l0_1.length c0_1) ∧ w12.cell? ⟨gb101, 2, none⟩ = some (.slice A0_2 l0_2.length c0_2) := hS_
            refine norm_ (a' := ?_) ?_ ?_
            rotate_left
            ·
             simp only [qbz, Act.put, qsA, qsZ, qsS]
             rfl
            refine two_ (i := 3) (j := 8) (Ni := some 6) (Nj := some 11) #[true, true, true, true, true, true, true, false, false, true, true, false, false, false] #[true, true, true, false, true, true, true, false, true, true, true, false, false, false] rfl rfl rfl rfl (qew HT_.out (by kernel_rfl)) (by decide) (by decide) (fun K hK => ?_) (fun K hK => ?_)
            ·
             skip
             refine Kd.R_append_rows_step k80 (w0 := w) w.heap.size (by rfl) (.tmp 3) (.tmp 5) 28 80 (.agg #[(.string ⟨#[]⟩), (.string ⟨#[]⟩)]) 32 rfl Try.underlying28 qch rfl (by decide) (by omega) v104 y103 l0_0 _ _ _ (fun k_ => some k_ ≠ (v110 : Value).ownBlock) (fun _ => False) rfl rfl ?aO ?aR (fun _ _ h => h) (fun _ h => h.elim) ?aF ?aB ?aS ?aL ?_
             (case aR => exact scE (Kd.C_below HR0_0.out HB.out))
             (case aB => exact (au4 HB.out GE101.out GE102.out))
             (case aF => exact (fun k_ hk => Kd.fresh' (Kd.R_lt (au0 HO111.out)) k_ hk))
             (case aO => exact (au0 HO105.out))
             (case aS => exact (qaf (au4 HB.out GE101.out GE102.out)))
             (case aL => have := LMc2.out; omega)
             intro v107 w13 ho hb hg hat
             rw [← Ny106.out] at ho
             replace BK101 := am (qbb (au1 BK101.out) hg (Kd.R_ne HO105.out BK101.out (by decide)))
             replace BK102 := am (qbb (au1 BK102.out) hg (Kd.R_ne HO105.out BK102.out (by decide)))
             replace HO111 := am (Kd.R_after (ok := (fun _ => True)) (by refine au0 ?_; exact Kd.R_mono HO111.out (fun _ hk => ⟨trivial, hk⟩)) hg hat)
             replace HB := am (hb)
             have HO108 := am (ho)
             clear HO105
             clear ho hb hg hat
             refine hK.out _ _ ⟨(qak BK101.out 0).trans rfl, (qak BK101.out 1).trans rfl, (qak BK101.out 2).trans rfl⟩ (fun hHeld => ?_)
             clear hK K
             refine norm_ (a' := ?_) ?_ ?_
             rotate_left
             ·
              show Act.put _ (some 6) _ = _
              simp only [Act.put, qsA, qsZ, qsS, i64_w, i32_w]
              rfl
             exact norm_ au19 (hJ0_3_4 (v104, v107, v110) _ ⟨hHeld, (au0 HO108.out), (by refine au0 ?_; exact Kd.R_mono HO111.out k2E), (au1 BK101.out), (au1 BK102.out), (au4 HB.out GE101.out GE102.out)⟩)
            ·
             skip
             refine Kd.R_lit_step k73 _ 73 ?hg (N := 11) ?hd (xs := ([] : List (S73))) (inner := []) (ok := fun _ => True) (okp := fun _ => True) ?hr ?hp (fun _ hk => hk) trivial (Below.refl _ _) (Nat.le_refl _) (by simp) ?_; (case hd => rfl); (case hg => rfl); (case hr => first | (go_simp; done) | (go_simp; rfl)); (case hp => exact (Reps.none _ _))
             intro v116 w13 ho14 hb hg_ hnew_
             clear hg_ hnew_
             (first | rw [← Ny115.out] at ho14 | (simp only [Int.reduceToNat] at ho14; rw [← Ny115.out] at ho14))
             replace HO105 := am (Kd.R_below (au0 HO105.out) hb)
             replace HO111 := am (Kd.R_below (au0 HO111.out) hb)
             have HO117 := am (Kd.R_lower ho14 (qaf (au4 HB.out GE101.out GE102.out)))
             replace BK101 := am (qab (au1 BK101.out) hb)
             replace BK102 := am (qab (au1 BK102.out) hb)
             replace HB := am (qad (au4 HB.out GE101.out GE102.out) hb)
             clear hb ho14
             refine hK.out _ _ ⟨(qak BK101.out 0).trans rfl, (qak BK101.out 1).trans rfl, (qak BK101.out 2).trans rfl⟩ (fun hHeld => ?_)
             clear hK K
             refine norm_ (a' := ?_) ?_ ?_
             rotate_left
             ·
              show Act.put _ (some 11) _ = _
              simp only [Act.put, qsA, qsZ, qsS, i64_w, i32_w]
              rfl
             exact norm_ au19 (hJ0_4_8 (v104, v110, v116) _ ⟨hHeld, (au0 HO105.out), (au0 HO111.out), (au0 HO117.out), (au1 BK101.out), (au1 BK102.out), (au4 HB.out GE101.out GE102.out)⟩)
          ·
           skip
           rintro ⟨v104, v107⟩ w11 ⟨hS_, h0_, h1_, h2_, h3_⟩
           have n0_ : Aside0 (Kd.R k80 80 w11 w.heap.size (fun _ => True) v107 y106) := ⟨h0_⟩
           have n1_ : Aside0 (w11.heap[gb101]? = some (.cells #[.slice A0_0 l0_0.length c0_0, .slice A0_1 l0_1.length c0_1, .slice A0_2 l0_2.length c0_2] 31 (0, 0))) := ⟨h1_⟩
           have n2_ : Aside0 (w11.heap[gb102]? = some (.cells #[.slice none 0 0, .slice none 0 0, .slice none 0 0] 31 (0, 0))) := ⟨h2_⟩
           have n3_ : Aside0 (Below w.heap.size w w11) := ⟨h3_⟩
           clear BK101
           clear BK102
           clear HB
           clear h0_ h1_ h2_ h3_
           have HO108 := n0_
           have BK101 := n1_
           have BK102 := n2_
           have HB := n3_
           clear n0_ n1_ n2_ n3_
           have hHeld : w11.cell? ⟨gb101, 0, none⟩ = some (.slice A0_0 l0_0.length c0_0) ∧ w11.cell? ⟨gb101, 1, none⟩ = some (.slice A0_1 l0_1.length c0_1) ∧ w11.cell? ⟨gb101, 2, none⟩ = some (.slice A0_2 l0_2.length c0_2) := hS_
           refine norm_ (a' := ?_) ?_ ?_
           rotate_left
           ·
            simp only [qbz, Act.put, qsA, qsZ, qsS]
            rfl
           refine two_ (i := 4) (j := 8) (Ni := some 7) (Nj := some 11) #[true, true, true, true, true, true, true, false, false, true, true, false, false, false] #[true, true, true, true, false, true, true, false, true, true, true, false, false, false] rfl rfl rfl rfl (qew HT_.out (by kernel_rfl)) (by decide) (by decide) (fun K hK => ?_) (fun K hK => ?_)
           ·
            skip
            refine Kd.R_lit_step k80 _ 80 ?hg (N := 7) ?hd (xs := ([] : List (S80))) (inner := []) (ok := fun _ => True) (okp := fun _ => True) ?hr ?hp (fun _ hk => hk) trivial (Below.refl _ _) (Nat.le_refl _) (by simp) ?_; (case hd => rfl); (case hg => rfl); (case hr => first | (go_simp; done) | (go_simp; rfl)); (case hp => exact (Reps.none _ _))
            intro v110 w12 ho13 hb hg_ hnew_
            clear hg_ hnew_
            (first | rw [← Ny109.out] at ho13 | (simp only [Int.reduceToNat] at ho13; rw [← Ny109.out] at ho13))
            have HO111 := am (Kd.R_lower (Kd.R_new' ho13 (Kd.R_lt (au0 HO108.out))) (qaf (au4 HB.out GE101.out GE102.out)))
            replace HO108 := am (Kd.R_elder' (au0 HO108.out) (Kd.R_base ho13) hb)
            replace BK101 := am (qab (au1 BK101.out) hb)
            replace BK102 := am (qab (au1 BK102.out) hb)
            replace HB := am (qad (au4 HB.out GE101.out GE102.out) hb)
            clear hb ho13
            refine hK.out _ _ ⟨(qak BK101.out 0).trans rfl, (qak BK101.out 1).trans rfl, (qak BK101.out 2).trans rfl⟩ (fun hHeld => ?_)
            clear hK K
            refine norm_ (a' := ?_) ?_ ?_
            rotate_left
            ·
             show Act.put _ (some 7) _ = _
             simp only [Act.put, qsA, qsZ, qsS, i64_w, i32_w]
             rfl
            exact norm_ au19 (hJ0_3_4 (v104, v107, v110) _ ⟨hHeld, (by refine au0 ?_; exact Kd.R_mono HO108.out k2E), (by refine au0 ?_; exact Kd.R_mono HO111.out k2E), (au1 BK101.out), (au1 BK102.out), (au4 HB.out GE101.out GE102.out)⟩)
           ·
            skip
            refine Kd.R_lit_step k73 _ 73 ?hg (N := 11) ?hd (xs := ([] : List (S73))) (inner := []) (ok := fun _ => True) (okp := fun _ => True) ?hr ?hp (fun _ hk => hk) trivial (Below.refl _ _) (Nat.le_refl _) (by simp) ?_; (case hd => rfl); (case hg => rfl); (case hr => first | (go_simp; done) | (go_simp; rfl)); (case hp => exact (Reps.none _ _))
            intro v116 w12 ho13 hb hg_ hnew_
            clear hg_ hnew_
            (first | rw [← Ny115.out] at ho13 | (simp only [Int.reduceToNat] at ho13; rw [← Ny115.out] at ho13))
            replace HO108 := am (Kd.R_below (au0 HO108.out) hb)
            have HO117 := am (Kd.R_lower ho13 (qaf (au4 HB.out GE101.out GE102.out)))
            replace BK101 := am (qab (au1 BK101.out) hb)
            replace BK102 := am (qab (au1 BK102.out) hb)
            replace HB := am (qad (au4 HB.out GE101.out GE102.out) hb)
            clear hb ho13
            refine hK.out _ _ ⟨(qak BK101.out 0).trans rfl, (qak BK101.out 1).trans rfl, (qak BK101.out 2).trans rfl⟩ (fun hHeld => ?_)
            clear hK K
            refine norm_ (a' := ?_) ?_ ?_
            rotate_left
            ·
             show Act.put _ (some 11) _ = _
             simp only [Act.put, qsA, qsZ, qsS, i64_w, i32_w]
             rfl
            exact norm_ au19 (hJ0_3_8 (v104, v107, v116) _ ⟨hHeld, (au0 HO108.out), (au0 HO117.out), (au1 BK101.out), (au1 BK102.out), (au4 HB.out GE101.out GE102.out)⟩)
         ·
          skip
          rintro ⟨v104, v110, v116⟩ w14 ⟨hS_, h0_, h1_, h2_, h3_, h4_, h5_⟩
          have n0_ : Aside0 (Kd.R k80 80 w14 w.heap.size (fun k_ => some k_ ≠ (v110 : Value).ownBlock) v104 y103) := ⟨h0_⟩
          have n1_ : Aside0 (Kd.R k80 80 w14 w.heap.size (fun k_ => some k_ ≠ (v104 : Value).ownBlock) v110 y109) := ⟨h1_⟩
          have n2_ : Aside0 (Kd.R k73 73 w14 w.heap.size (fun _ => True) v116 y115) := ⟨h2_⟩
          have n3_ : Aside0 (w14.heap[gb101]? = some (.cells #[.slice A0_0 l0_0.length c0_0, .slice A0_1 l0_1.length c0_1, .slice A0_2 l0_2.length c0_2] 31 (0, 0))) := ⟨h3_⟩
          have n4_ : Aside0 (w14.heap[gb102]? = some (.cells #[.slice none 0 0, .slice none 0 0, .slice none 0 0] 31 (0, 0))) := ⟨h4_⟩
          have n5_ : Aside0 (Below w.heap.size w w14) := ⟨h5_⟩
          clear BK101
          clear BK102
          clear HB
          clear h0_ h1_ h2_ h3_ h4_ h5_
          have HO105 := n0_
          have HO111 := n1_
          have HO117 := n2_
          have BK101 := n3_
          have BK102 := n4_
          have HB := n5_
          clear n0_ n1_ n2_ n3_ n4_ n5_
          have hHeld : w14.cell? ⟨gb101, 0, none⟩ = some (.slice A0_0 l0_0.length c0_0) ∧ w14.cell? ⟨gb101, 1, none⟩ = some (.slice A0_1 l0_1.length c0_1) ∧ w14.cell? ⟨gb101, 2, none⟩ = some (.slice A0_2 l0_2.length c0_2) := hS_
          refine norm_ (a' := ?_) ?_ ?_
          rotate_left
          ·
           simp only [qbz, Act.put, qsA, qsZ, qsS]
           rfl
          refine one_ (i := 3) (N := some 6) #[true, true, true, true, true, true, true, false, true, true, true, false, false, false] rfl rfl (qbw HT_.out (by kernel_rfl)) (by decide) (fun K hK => ?_)
          refine Kd.R_append_rows_step k80 (w0 := w) w.heap.size (by rfl) (.tmp 3) (.tmp 5) 28 80 (.agg #[(.string ⟨#[]⟩), (.string ⟨#[]⟩)]) 32 rfl Try.underlying28 qch rfl (by decide) (by omega) v104 y103 l0_0 _ _ _ (fun k_ => some k_ ≠ (v110 : Value).ownBlock) (fun _ => False) rfl rfl ?aO ?aR (fun _ _ h => h) (fun _ h => h.elim) ?aF ?aB ?aS ?aL ?_
          (case aR => exact scE (Kd.C_below HR0_0.out HB.out))
          (case aB => exact (au4 HB.out GE101.out GE102.out))
          (case aF => exact (fun k_ hk => Kd.fresh' (Kd.R_lt (au0 HO111.out)) k_ hk))
          (case aO => exact (au0 HO105.out))
          (case aS => exact (qaf (au4 HB.out GE101.out GE102.out)))
          (case aL => have := LMc2.out; omega)
          intro v107 w15 ho hb hg hat
          rw [← Ny106.out] at ho
          replace BK101 := am (qbb (au1 BK101.out) hg (Kd.R_ne HO105.out BK101.out (by decide)))
          replace BK102 := am (qbb (au1 BK102.out) hg (Kd.R_ne HO105.out BK102.out (by decide)))
          replace HO111 := am (Kd.R_after (ok := (fun _ => True)) (by refine au0 ?_; exact Kd.R_mono HO111.out (fun _ hk => ⟨trivial, hk⟩)) hg hat)
          replace HO117 := am (Kd.R_over' (au0 HO117.out) (Kd.R_typed (au0 HO105.out)) (by decide) hg)
          replace HB := am (hb)
          have HO108 := am (ho)
          clear HO105
          clear ho hb hg hat
          refine hK.out _ _ ⟨(qak BK101.out 0).trans rfl, (qak BK101.out 1).trans rfl, (qak BK101.out 2).trans rfl⟩ (fun hHeld => ?_)
          clear hK K
          refine norm_ (a' := ?_) ?_ ?_
          rotate_left
          ·
           show Act.put _ (some 6) _ = _
           simp only [Act.put, qsA, qsZ, qsS, i64_w, i32_w]
           rfl
          exact norm_ au19 (hJ0_3_4_8 (v104, v107, v110, v116) _ ⟨hHeld, (au0 HO108.out), (by refine au0 ?_; exact Kd.R_mono HO111.out k2E), (au0 HO117.out), (au1 BK101.out), (au1 BK102.out), (au4 HB.out GE101.out GE102.out)⟩)
        ·
         skip
         rintro ⟨v104, v107, v116⟩ w13 ⟨hS_, h0_, h1_, h2_, h3_, h4_⟩
         have n0_ : Aside0 (Kd.R k80 80 w13 w.heap.size (fun _ => True) v107 y106) := ⟨h0_⟩
         have n1_ : Aside0 (Kd.R k73 73 w13 w.heap.size (fun _ => True) v116 y115) := ⟨h1_⟩
         have n2_ : Aside0 (w13.heap[gb101]? = some (.cells #[.slice A0_0 l0_0.length c0_0, .slice A0_1 l0_1.length c0_1, .slice A0_2 l0_2.length c0_2] 31 (0, 0))) := ⟨h2_⟩
         have n3_ : Aside0 (w13.heap[gb102]? = some (.cells #[.slice none 0 0, .slice none 0 0, .slice none 0 0] 31 (0, 0))) := ⟨h3_⟩
         have n4_ : Aside0 (Below w.heap.size w w13) := ⟨h4_⟩
         clear BK101
         clear BK102
         clear HB
         clear h0_ h1_ h2_ h3_ h4_
         have HO108 := n0_
         have HO117 := n1_
         have BK101 := n2_
         have BK102 := n3_
         have HB := n4_
         clear n0_ n1_ n2_ n3_ n4_
         have hHeld : w13.cell? ⟨gb101, 0, none⟩ = some (.slice A0_0 l0_0.length c0_0) ∧ w13.cell? ⟨gb101, 1, none⟩ = some (.slice A0_1 l0_1.length c0_1) ∧ w13.cell? ⟨gb101, 2, none⟩ = some (.slice A0_2 l0_2.length c0_2) := hS_
         refine norm_ (a' := ?_) ?_ ?_
         rotate_left
         ·
          simp only [qbz, Act.put, qsA, qsZ, qsS]
          rfl
         refine one_ (i := 4) (N := some 7) #[true, true, true, true, true, true, true, false, true, true, true, false, false, false] rfl rfl (qbw HT_.out (by kernel_rfl)) (by decide) (fun K hK => ?_)
         refine Kd.R_lit_step k80 _ 80 ?hg (N := 7) ?hd (xs := ([] : List (S80))) (inner := []) (ok := fun _ => True) (okp := fun _ => True) ?hr ?hp (fun _ hk => hk) trivial (Below.refl _ _) (Nat.le_refl _) (by simp) ?_; (case hd => rfl); (case hg => rfl); (case hr => first | (go_simp; done) | (go_simp; rfl)); (case hp => exact (Reps.none _ _))
         intro v110 w14 ho15 hb hg_ hnew_
         clear hg_ hnew_
         (first | rw [← Ny109.out] at ho15 | (simp only [Int.reduceToNat] at ho15; rw [← Ny109.out] at ho15))
         replace HO117 := am (Kd.R_below (au0 HO117.out) hb)
         have HO111 := am (Kd.R_lower (Kd.R_new' ho15 (Kd.R_lt (au0 HO108.out))) (qaf (au4 HB.out GE101.out GE102.out)))
         replace HO108 := am (Kd.R_elder' (au0 HO108.out) (Kd.R_base ho15) hb)
         replace BK101 := am (qab (au1 BK101.out) hb)
         replace BK102 := am (qab (au1 BK102.out) hb)
         replace HB := am (qad (au4 HB.out GE101.out GE102.out) hb)
         clear hb ho15
         refine hK.out _ _ ⟨(qak BK101.out 0).trans rfl, (qak BK101.out 1).trans rfl, (qak BK101.out 2).trans rfl⟩ (fun hHeld => ?_)
         clear hK K
         refine norm_ (a' := ?_) ?_ ?_
         rotate_left
         ·
          show Act.put _ (some 7) _ = _
          simp only [Act.put, qsA, qsZ, qsS, i64_w, i32_w]
          rfl
         exact norm_ au19 (hJ0_3_4_8 (v104, v107, v110, v116) _ ⟨hHeld, (by refine au0 ?_; exact Kd.R_mono HO108.out k2E), (by refine au0 ?_; exact Kd.R_mono HO111.out k2E), (au0 HO117.out), (au1 BK101.out), (au1 BK102.out), (au4 HB.out GE101.out GE102.out)⟩)
       ·
        skip
        rintro ⟨v104, v107, v110⟩ w13 ⟨hS_, h0_, h1_, h2_, h3_, h4_⟩
        have n0_ : Aside0 (Kd.R k80 80 w13 w.heap.size (fun k_ => some k_ ≠ (v110 : Value).ownBlock) v107 y106) := ⟨h0_⟩
        have n1_ : Aside0 (Kd.R k80 80 w13 w.heap.size (fun k_ => some k_ ≠ (v107 : Value).ownBlock) v110 y109) := ⟨h1_⟩
        have n2_ : Aside0 (w13.heap[gb101]? = some (.cells #[.slice A0_0 l0_0.length c0_0, .slice A0_1 l0_1.length c0_1, .slice A0_2 l0_2.length c0_2] 31 (0, 0))) := ⟨h2_⟩
        have n3_ : Aside0 (w13.heap[gb102]? = some (.cells #[.slice none 0 0, .slice none 0 0, .slice none 0 0] 31 (0, 0))) := ⟨h3_⟩
        have n4_ : Aside0 (Below w.heap.size w w13) := ⟨h4_⟩
        clear BK101
        clear BK102
        clear HB
        clear h0_ h1_ h2_ h3_ h4_
        have HO108 := n0_
        have HO111 := n1_
        have BK101 := n2_
        have BK102 := n3_
        have HB := n4_
        clear n0_ n1_ n2_ n3_ n4_
        have hHeld : w13.cell? ⟨gb101, 0, none⟩ = some (.slice A0_0 l0_0.length c0_0) ∧ w13.cell? ⟨gb101, 1, none⟩ = some (.slice A0_1 l0_1.length c0_1) ∧ w13.cell? ⟨gb101, 2, none⟩ = some (.slice A0_2 l0_2.length c0_2) := hS_
        refine norm_ (a' := ?_) ?_ ?_
        rotate_left
        ·
         simp only [qbz, Act.put, qsA, qsZ, qsS]
         rfl
        refine two_ (i := 7) (j := 8) (Ni := some 10) (Nj := some 11) #[true, true, true, true, true, true, true, true, false, true, true, false, false, false] #[true, true, true, true, true, true, true, false, true, true, true, false, false, false] rfl rfl rfl rfl (qew HT_.out (by kernel_rfl)) (by decide) (by decide) (fun K hK => ?_) (fun K hK => ?_)
        ·
         skip
         refine Kd.R_append_rows_step k80 (w0 := w) w.heap.size (by rfl) (.tmp 7) (.tmp 9) 28 80 (.agg #[(.string ⟨#[]⟩), (.string ⟨#[]⟩)]) 32 rfl Try.underlying28 qch rfl (by decide) (by omega) v110 y109 l0_1 _ _ _ (fun k_ => some k_ ≠ (v107 : Value).ownBlock) (fun _ => False) rfl rfl ?aO ?aR (fun _ _ h => h) (fun _ h => h.elim) ?aF ?aB ?aS ?aL ?_
         (case aR => exact scE (Kd.C_below HR0_1.out HB.out))
         (case aB => exact (au4 HB.out GE101.out GE102.out))
         (case aF => exact (fun k_ hk => Kd.fresh' (Kd.R_lt (au0 HO108.out)) k_ hk))
         (case aO => exact (au0 HO111.out))
         (case aS => exact (qaf (au4 HB.out GE101.out GE102.out)))
         (case aL => have := LMc3.out; omega)
         intro v113 w14 ho hb hg hat
         rw [← Ny112.out] at ho
         replace BK101 := am (qbb (au1 BK101.out) hg (Kd.R_ne HO111.out BK101.out (by decide)))
         replace BK102 := am (qbb (au1 BK102.out) hg (Kd.R_ne HO111.out BK102.out (by decide)))
         replace HO108 := am (Kd.R_after (ok := (fun _ => True)) (by refine au0 ?_; exact Kd.R_mono HO108.out (fun _ hk => ⟨trivial, hk⟩)) hg hat)
         replace HB := am (hb)
         have HO114 := am (ho)
         clear HO111
         clear ho hb hg hat
         refine hK.out _ _ ⟨(qak BK101.out 0).trans rfl, (qak BK101.out 1).trans rfl, (qak BK101.out 2).trans rfl⟩ (fun hHeld => ?_)
         clear hK K
         refine norm_ (a' := ?_) ?_ ?_
         rotate_left
         ·
          show Act.put _ (some 10) _ = _
          simp only [Act.put, qsA, qsZ, qsS, i64_w, i32_w]
          rfl
         exact norm_ au19 (hJ0_3_4_7 (v104, v107, v110, v113) _ ⟨hHeld, (by refine au0 ?_; exact Kd.R_mono HO108.out k2E), (au0 HO114.out), (au1 BK101.out), (au1 BK102.out), (au4 HB.out GE101.out GE102.out)⟩)
        ·
         skip
         refine Kd.R_lit_step k73 _ 73 ?hg (N := 11) ?hd (xs := ([] : List (S73))) (inner := []) (ok := fun _ => True) (okp := fun _ => True) ?hr ?hp (fun _ hk => hk) trivial (Below.refl _ _) (Nat.le_refl _) (by simp) ?_; (case hd => rfl); (case hg => rfl); (case hr => first | (go_simp; done) | (go_simp; rfl)); (case hp => exact (Reps.none _ _))
         intro v116 w14 ho15 hb hg_ hnew_
         clear hg_ hnew_
         (first | rw [← Ny115.out] at ho15 | (simp only [Int.reduceToNat] at ho15; rw [← Ny115.out] at ho15))
         replace HO108 := am (Kd.R_below (au0 HO108.out) hb)
         replace HO111 := am (Kd.R_below (au0 HO111.out) hb)
         have HO117 := am (Kd.R_lower ho15 (qaf (au4 HB.out GE101.out GE102.out)))
         replace BK101 := am (qab (au1 BK101.out) hb)
         replace BK102 := am (qab (au1 BK102.out) hb)
         replace HB := am (qad (au4 HB.out GE101.out GE102.out) hb)
         clear hb ho15
         refine hK.out _ _ ⟨(qak BK101.out 0).trans rfl, (qak BK101.out 1).trans rfl, (qak BK101.out 2).trans rfl⟩ (fun hHeld => ?_)
         clear hK K
         refine norm_ (a' := ?_) ?_ ?_
         rotate_left
         ·
          show Act.put _ (some 11) _ = _
          simp only [Act.put, qsA, qsZ, qsS, i64_w, i32_w]
          rfl
         exact norm_ au19 (hJ0_3_4_8 (v104, v107, v110, v116) _ ⟨hHeld, (au0 HO108.out), (au0 HO111.out), (au0 HO117.out), (au1 BK101.out), (au1 BK102.out), (au4 HB.out GE101.out GE102.out)⟩)
      ·
       skip
       rintro ⟨v104, v107, v110, v116⟩ w15 ⟨hS_, h0_, h1_, h2_, h3_, h4_, h5_⟩
       have n0_ : Aside0 (Kd.R k80 80 w15 w.heap.size (fun k_ => some k_ ≠ (v110 : Value).ownBlock) v107 y106) := ⟨h0_⟩
       have n1_ : Aside0 (Kd.R k80 80 w15 w.heap.size (fun k_ => some k_ ≠ (v107 : Value).ownBlock) v110 y109) := ⟨h1_⟩
       have n2_ : Aside0 (Kd.R k73 73 w15 w.heap.size (fun _ => True) v116 y115) := ⟨h2_⟩
       have n3_ : Aside0 (w15.heap[gb101]? = some (.cells #[.slice A0_0 l0_0.length c0_0, .slice A0_1 l0_1.length c0_1, .slice A0_2 l0_2.length c0_2] 31 (0, 0))) := ⟨h3_⟩
       have n4_ : Aside0 (w15.heap[gb102]? = some (.cells #[.slice none 0 0, .slice none 0 0, .slice none 0 0] 31 (0, 0))) := ⟨h4_⟩
       have n5_ : Aside0 (Below w.heap.size w w15) := ⟨h5_⟩
       clear BK101
       clear BK102
       clear HB
       clear h0_ h1_ h2_ h3_ h4_ h5_
       have HO108 := n0_
       have HO111 := n1_
       have HO117 := n2_
       have BK101 := n3_
       have BK102 := n4_
       have HB := n5_
       clear n0_ n1_ n2_ n3_ n4_ n5_
       have hHeld : w15.cell? ⟨gb101, 0, none⟩ = some (.slice A0_0 l0_0.length c0_0) ∧ w15.cell? ⟨gb101, 1, none⟩ = some (.slice A0_1 l0_1.length c0_1) ∧ w15.cell? ⟨gb101, 2, none⟩ = some (.slice A0_2 l0_2.length c0_2) := hS_
       refine norm_ (a' := ?_) ?_ ?_
       rotate_left
       ·
        simp only [qbz, Act.put, qsA, qsZ, qsS]
        rfl
       refine one_ (i := 7) (N := some 10) #[true, true, true, true, true, true, true, true, true, true, true, false, false, false] rfl rfl (qbw HT_.out (by kernel_rfl)) (by decide) (fun K hK => ?_)
       refine Kd.R_append_rows_step k80 (w0 := w) w.heap.size (by rfl) (.tmp 7) (.tmp 9) 28 80 (.agg #[(.string ⟨#[]⟩), (.string ⟨#[]⟩)]) 32 rfl Try.underlying28 qch rfl (by decide) (by omega) v110 y109 l0_1 _ _ _ (fun k_ => some k_ ≠ (v107 : Value).ownBlock) (fun _ => False) rfl rfl ?aO ?aR (fun _ _ h => h) (fun _ h => h.elim) ?aF ?aB ?aS ?aL ?_
       (case aR => exact scE (Kd.C_below HR0_1.out HB.out))
       (case aB => exact (au4 HB.out GE101.out GE102.out))
       (case aF => exact (fun k_ hk => Kd.fresh' (Kd.R_lt (au0 HO108.out)) k_ hk))
       (case aO => exact (au0 HO111.out))
       (case aS => exact (qaf (au4 HB.out GE101.out GE102.out)))
       (case aL => have := LMc3.out; omega)
       intro v113 w16 ho hb hg hat
       rw [← Ny112.out] at ho
       replace BK101 := am (qbb (au1 BK101.out) hg (Kd.R_ne HO111.out BK101.out (by decide)))
       replace BK102 := am (qbb (au1 BK102.out) hg (Kd.R_ne HO111.out BK102.out (by decide)))
       replace HO108 := am (Kd.R_after (ok := (fun _ => True)) (by refine au0 ?_; exact Kd.R_mono HO108.out (fun _ hk => ⟨trivial, hk⟩)) hg hat)
       replace HO117 := am (Kd.R_over' (au0 HO117.out) (Kd.R_typed (au0 HO111.out)) (by decide) hg)
       replace HB := am (hb)
       have HO114 := am (ho)
       clear HO111
       clear ho hb hg hat
       refine hK.out _ _ ⟨(qak BK101.out 0).trans rfl, (qak BK101.out 1).trans rfl, (qak BK101.out 2).trans rfl⟩ (fun hHeld => ?_)
       clear hK K
       refine norm_ (a' := ?_) ?_ ?_
       rotate_left
       ·
        show Act.put _ (some 10) _ = _
        simp only [Act.put, qsA, qsZ, qsS, i64_w, i32_w]
        rfl
       exact norm_ au19 (hJ0_3_4_7_8 (v104, v107, v110, v113, v116) _ ⟨hHeld, (by refine au0 ?_; exact Kd.R_mono HO108.out k2E), (au0 HO114.out), (au0 HO117.out), (au1 BK101.out), (au1 BK102.out), (au4 HB.out GE101.out GE102.out)⟩)
     ·
      skip
      rintro ⟨v104, v107, v110, v113⟩ w14 ⟨hS_, h0_, h1_, h2_, h3_, h4_⟩
      have n0_ : Aside0 (Kd.R k80 80 w14 w.heap.size (fun k_ => some k_ ≠ (v113 : Value).ownBlock) v107 y106) := ⟨h0_⟩
      have n1_ : Aside0 (Kd.R k80 80 w14 w.heap.size (fun k_ => some k_ ≠ (v107 : Value).ownBlock) v113 y112) := ⟨h1_⟩
      have n2_ : Aside0 (w14.heap[gb101]? = some (.cells #[.slice A0_0 l0_0.length c0_0, .slice A0_1 l0_1.length c0_1, .slice A0_2 l0_2.length c0_2] 31 (0, 0))) := ⟨h2_⟩
      have n3_ : Aside0 (w14.heap[gb102]? = some (.cells #[.slice none 0 0, .slice none 0 0, .slice none 0 0] 31 (0, 0))) := ⟨h3_⟩
      have n4_ : Aside0 (Below w.heap.size w w14) := ⟨h4_⟩
      clear BK101
      clear BK102
      clear HB
      clear h0_ h1_ h2_ h3_ h4_
      have HO108 := n0_
      have HO114 := n1_
      have BK101 := n2_
      have BK102 := n3_
      have HB := n4_
      clear n0_ n1_ n2_ n3_ n4_
      have hHeld : w14.cell? ⟨gb101, 0, none⟩ = some (.slice A0_0 l0_0.length c0_0) ∧ w14.cell? ⟨gb101, 1, none⟩ = some (.slice A0_1 l0_1.length c0_1) ∧ w14.cell? ⟨gb101, 2, none⟩ = some (.slice A0_2 l0_2.length c0_2) := hS_
      refine norm_ (a' := ?_) ?_ ?_
      rotate_left
      ·
       simp only [qbz, Act.put, qsA, qsZ, qsS]
       rfl
      refine one_ (i := 8) (N := some 11) #[true, true, true, true, true, true, true, true, true, true, true, false, false, false] rfl rfl (qbw HT_.out (by kernel_rfl)) (by decide) (fun K hK => ?_)
      refine Kd.R_lit_step k73 _ 73 ?hg (N := 11) ?hd (xs := ([] : List (S73))) (inner := []) (ok := fun _ => True) (okp := fun _ => True) ?hr ?hp (fun _ hk => hk) trivial (Below.refl _ _) (Nat.le_refl _) (by simp) ?_; (case hd => rfl); (case hg => rfl); (case hr => first | (go_simp; done) | (go_simp; rfl)); (case hp => exact (Reps.none _ _))
      intro v116 w15 ho16 hb hg_ hnew_
      clear hg_ hnew_
      (first | rw [← Ny115.out] at ho16 | (simp only [Int.reduceToNat] at ho16; rw [← Ny115.out] at ho16))
      replace HO108 := am (Kd.R_below (au0 HO108.out) hb)
      replace HO114 := am (Kd.R_below (au0 HO114.out) hb)
      have HO117 := am (Kd.R_lower ho16 (qaf (au4 HB.out GE101.out GE102.out)))
      replace BK101 := am (qab (au1 BK101.out) hb)
      replace BK102 := am (qab (au1 BK102.out) hb)
      replace HB := am (qad (au4 HB.out GE101.out GE102.out) hb)
      clear hb ho16
      refine hK.out _ _ ⟨(qak BK101.out 0).trans rfl, (qak BK101.out 1).trans rfl, (qak BK101.out 2).trans rfl⟩ (fun hHeld => ?_)
      clear hK K
      refine norm_ (a' := ?_) ?_ ?_
      rotate_left
      ·
       show Act.put _ (some 11) _ = _
       simp only [Act.put, qsA, qsZ, qsS, i64_w, i32_w]
       rfl
      exact norm_ au19 (hJ0_3_4_7_8 (v104, v107, v110, v113, v116) _ ⟨hHeld, (au0 HO108.out), (au0 HO114.out), (au0 HO117.out), (au1 BK101.out), (au1 BK102.out), (au4 HB.out GE101.out GE102.out)⟩)
    rintro ⟨v104, v107, v110, v113, v116⟩ w16 ⟨hS_, h0_, h1_, h2_, h3_, h4_, h5_⟩
    have n0_ : Aside0 (Kd.R k80 80 w16 w.heap.size (fun k_ => some k_ ≠ (v113 : Value).ownBlock) v107 y106) := ⟨h0_⟩
    have n1_ : Aside0 (Kd.R k80 80 w16 w.heap.size (fun k_ => some k_ ≠ (v107 : Value).ownBlock) v113 y112) := ⟨h1_⟩
    have n2_ : Aside0 (Kd.R k73 73 w16 w.heap.size (fun _ => True) v116 y115) := ⟨h2_⟩
    have n3_ : Aside0 (w16.heap[gb101]? = some (.cells #[.slice A0_0 l0_0.length c0_0, .slice A0_1 l0_1.length c0_1, .slice A0_2 l0_2.length c0_2] 31 (0, 0))) := ⟨h3_⟩
    have n4_ : Aside0 (w16.heap[gb102]? = some (.cells #[.slice none 0 0, .slice none 0 0, .slice none 0 0] 31 (0, 0))) := ⟨h4_⟩
    have n5_ : Aside0 (Below w.heap.size w w16) := ⟨h5_⟩
    clear BK101
    clear BK102
    clear HB
    clear h0_ h1_ h2_ h3_ h4_ h5_
    have HO108 := n0_
    have HO114 := n1_
    have HO117 := n2_
    have BK101 := n3_
    have BK102 := n4_
    have HB := n5_
    clear n0_ n1_ n2_ n3_ n4_ n5_
    have hHeld : w16.cell? ⟨gb101, 0, none⟩ = some (.slice A0_0 l0_0.length c0_0) ∧ w16.cell? ⟨gb101, 1, none⟩ = some (.slice A0_1 l0_1.length c0_1) ∧ w16.cell? ⟨gb101, 2, none⟩ = some (.slice A0_2 l0_2.length c0_2) := hS_
    refine norm_ (a' := ?_) ?_ ?_
    rotate_left
    ·
     simp only [qbz, Act.put, qsA, qsZ, qsS]
     rfl
    refine one_ (i := 11) (N := some 14) #[true, true, true, true, true, true, true, true, true, true, true, true, false, false] rfl rfl (qbw HT_.out (by kernel_rfl)) (by decide) (fun K hK => ?_)
    refine Kd.R_append_rows_step k73 (w0 := w) w.heap.size (by rfl) (.tmp 11) (.tmp 13) 29 73 (.agg #[(.int .i64 0), (.string ⟨#[]⟩), (.string ⟨#[]⟩), (.string ⟨#[]⟩)]) 56 rfl Try.underlying29 qex rfl (by decide) (by omega) v116 y115 l0_2 _ _ _ (fun _ => True) (fun _ => False) rfl rfl ?aO ?aR (fun _ _ h => h) (fun _ h => h.elim) ?aF ?aB ?aS ?aL ?_
    (case aR => exact scE (Kd.C_below HR0_2.out HB.out))
    (case aB => exact (au4 HB.out GE101.out GE102.out))
    (case aF => exact (fun _ _ => trivial))
    (case aO => exact (au0 HO117.out))
    (case aS => exact (qaf (au4 HB.out GE101.out GE102.out)))
    (case aL => have := LMc4.out; omega)
    intro v119 w17 ho hb hg hat
    rw [← Ny118.out] at ho
    replace BK101 := am (qbb (au1 BK101.out) hg (Kd.R_ne HO117.out BK101.out (by decide)))
    replace BK102 := am (qbb (au1 BK102.out) hg (Kd.R_ne HO117.out BK102.out (by decide)))
    replace HO108 := am (Kd.R_over' (au0 HO108.out) (Kd.R_typed (au0 HO117.out)) (by decide) hg)
    replace HO114 := am (Kd.R_over' (au0 HO114.out) (Kd.R_typed (au0 HO117.out)) (by decide) hg)
    replace HB := am (hb)
    have HO120 := am (ho)
    clear HO117
    clear ho hb hg hat
    obtain ⟨Ao18, co18, eo18⟩ := Kd.R_slice HO120.out
    (first | subst eo18 | (injection eo18 with f1_ f2_ f3_; have f4_ := f1_.symm; have f5_ := f3_.symm; clear f1_ f2_ f3_; subst f4_; subst f5_))
    obtain ⟨Ao19, co19, eo19⟩ := Kd.R_slice HO114.out
    (first | subst eo19 | (injection eo19 with f1_ f2_ f3_; have f4_ := f1_.symm; have f5_ := f3_.symm; clear f1_ f2_ f3_; subst f4_; subst f5_))
    obtain ⟨Ao20, co20, eo20⟩ := Kd.R_slice HO108.out
    (first | subst eo20 | (injection eo20 with f1_ f2_ f3_; have f4_ := f1_.symm; have f5_ := f3_.symm; clear f1_ f2_ f3_; subst f4_; subst f5_))
    refine hK.out _ _ ⟨(qak BK101.out 0).trans rfl, (qak BK101.out 1).trans rfl, (qak BK101.out 2).trans rfl⟩ (fun hHeld => ?_)
    clear hK K
    refine norm_ (a' := ?_) ?_ ?_
    rotate_left
    ·
     show Act.put _ (some 14) _ = _
     simp only [Act.put, qsA, qsZ, qsS, i64_w, i32_w]
     rfl
    refine pure_ (i := 12) (N := some 15) (v := ?_) (a' := ?_) #[true, true, true, true, true, true, true, true, true, true, true, true, true, false] rfl rfl (qaz HT_.out (by kernel_rfl)) (fun _ _ _ h => h) (Or.inl ⟨by rfl, ?_⟩) ?_ ?_
    rotate_left
    ·
     intro w'
     go_simp
     with_reducible rfl
    rotate_left
    ·
     simp only [Act.put, qsA, qsZ, qsS, i64_w, i32_w]
     rfl
    refine one_ (i := 13) (N := none) #[true, true, true, true, true, true, true, true, true, true, true, true, true, true] rfl rfl (qbw HT_.out (by kernel_rfl)) (by decide) (fun K hK => ?_)
    have hs21 : w17.cell? ⟨gb102, 0, none⟩ = some (.slice none 0 0) := (qak BK102.out 0).trans rfl
    have hfs21 := qaa BK102.out 0
    have hns21_0 := NB101_102.out
    have hms21_0 := NB102_101.out
    have hs22 : w17.cell? ⟨gb102, 1, none⟩ = some (.slice none 0 0) := (qak BK102.out 1).trans rfl
    have hfs22 := qaa BK102.out 1
    have hns22_0 := NB101_102.out
    have hms22_0 := NB102_101.out
    have hs23 : w17.cell? ⟨gb102, 2, none⟩ = some (.slice none 0 0) := (qak BK102.out 2).trans rfl
    have hfs23 := qaa BK102.out 2
    have hns23_0 := NB101_102.out
    have hms23_0 := NB102_101.out
    refine skip_ (w1 := ?_) (by rfl) rfl ?_ ?_
    rotate_left
    ·
     go_simp
     rfl
    refine hK.out _ _ ⟨((qav (p := ⟨gb102, _, none⟩) NB101_102.out _).trans (((qav (p := ⟨gb102, _, none⟩) NB101_102.out _).trans (((qav (p := ⟨gb102, _, none⟩) NB101_102.out _).trans (hHeld.1)))))), ((qav (p := ⟨gb102, _, none⟩) NB101_102.out _).trans (((qav (p := ⟨gb102, _, none⟩) NB101_102.out _).trans (((qav (p := ⟨gb102, _, none⟩) NB101_102.out _).trans (hHeld.2.1)))))), ((qav (p := ⟨gb102, _, none⟩) NB101_102.out _).trans (((qav (p := ⟨gb102, _, none⟩) NB101_102.out _).trans (((qav (p := ⟨gb102, _, none⟩) NB101_102.out _).trans (hHeld.2.2))))))⟩ (fun hHeld => ?_)
    clear hK K
    refine done_ (qdd HT_.out (by kernel_rfl)) ?_
    try go_wp2
    refine bodyPost_ret (results_cell_row rfl _ _ gb102 31 #[.slice Ao20 y106.length co20, .slice Ao19 y112.length co19, .slice Ao18 y118.length co18] (0, 0) _ rfl (by refine au1 ?_; refine qam (cs := #[.slice Ao20 y106.length co20, .slice Ao19 y112.length co19, .slice none 0 0]) ?_ 2 _ rfl; refine au1 ?_; refine qam (cs := #[.slice Ao20 y106.length co20, .slice none 0 0, .slice none 0 0]) ?_ 1 _ rfl; refine au1 ?_; refine qam (cs := #[.slice none 0 0, .slice none 0 0, .slice none 0 0]) ?_ 0 _ rfl; refine au1 ?_; exact BK102.out) Try.underlying31 rfl (by kernel_rfl)) rfl ?_
    exact ⟨_, _, _, by first | rfl | (simp [qag, qah] <;> rfl) | (simp [*, qag, qah] <;> rfl), by refine au0 ?_; exact Kd.R_mono (Kd.R_far (p := ⟨gb102, 2, none⟩) (Kd.R_far (p := ⟨gb102, 1, none⟩) (Kd.R_far (p := ⟨gb102, 0, none⟩) (Kd.R_types HO108.out BK102.out (by decide)) k2E (.slice Ao20 y106.length co20)) k2E (.slice Ao19 y112.length co19)) k2E (.slice Ao18 y118.length co18)) (fun _ hk => hk.1), by refine au0 ?_; exact Kd.R_mono (Kd.R_far (p := ⟨gb102, 2, none⟩) (Kd.R_far (p := ⟨gb102, 1, none⟩) (Kd.R_far (p := ⟨gb102, 0, none⟩) (Kd.R_types HO114.out BK102.out (by decide)) k2E (.slice Ao20 y106.length co20)) k2E (.slice Ao19 y112.length co19)) k2E (.slice Ao18 y118.length co18)) (fun _ hk => hk.1), by refine au0 ?_; exact Kd.R_mono (Kd.R_far (p := ⟨gb102, 2, none⟩) (Kd.R_far (p := ⟨gb102, 1, none⟩) (Kd.R_far (p := ⟨gb102, 0, none⟩) (Kd.R_types HO120.out BK102.out (by decide)) k2E (.slice Ao20 y106.length co20)) k2E (.slice Ao19 y112.length co19)) k2E (.slice Ao18 y118.length co18)) (fun _ hk => trivial), (au4 HB.out GE101.out GE102.out)⟩
   ·
    rw [if_neg c4] at H
    exact absurd H (by simp)
  ·
   rw [if_neg c3] at H
   exact absurd H (by simp)
 ·
  rw [if_neg c2] at H
  exact absurd H (by simp)

end

section
def spec_l4Act.j0 : Nat → List (S80) → Bool → List (S80) → List (S80) → List (S73) → Int → ByteArray → ByteArray → ByteArray → Option ((List (S80)) × (List (S80)) × (List (S73)) × Int)
 | 0, _, _, _, _, _, _, _, _, _ => none
 | k + 1, x6, x33, x102000, x102001, x102002, x103000, x103001, x103002, x103003 => if x33 = true then ((spec_l4Copy.f x102000 x102001 x102002).bind fun bt128 => (some (bt128.1, bt128.2.1, bt128.2.2, 4))) else ((spec_l4Copy.f x102000 x102001 x102002).bind fun bt137 => (if bt137.2.2.length < 2513169434916 then (some (x6, bt137.2.1, (bt137.2.2 ++ [(⟨x103000, x103001, x103002, x103003⟩ : S73)]), 0)) else (none)))
def spec_l4Act.f (k : Nat) (l0_0 : List (S80)) (l0_1 : List (S80)) (l0_2 : List (S73)) (a1_0 : Int) (a1_1 : ByteArray) (a1_2 : ByteArray) (a1_3 : ByteArray) : Option ((List (S80)) × (List (S80)) × (List (S73)) × Int) := (spec_l4Form.f k a1_0 a1_1 a1_2 a1_3).bind fun t104 => (if t104 = true then ((spec_l4Do.f k l0_0 a1_0 a1_1 a1_2 a1_3).bind fun bt114 => (if bt114.2 = true then (if (l0_2.length : Int) = 200 then (spec_l4Act.j0 k bt114.1 true l0_0 l0_1 l0_2 a1_0 a1_1 a1_2 a1_3) else ((spec_l4Files.f k bt114.1).bind fun t127 => (spec_l4Act.j0 k bt114.1 (!t127) l0_0 l0_1 l0_2 a1_0 a1_1 a1_2 a1_3))) else ((spec_l4Copy.f l0_0 l0_1 l0_2).bind fun bt118 => (some (bt118.1, bt118.2.1, bt118.2.2, 3))))) else ((spec_l4Copy.f l0_0 l0_1 l0_2).bind fun bt105 => (some (bt105.1, bt105.2.1, bt105.2.2, 2))))
theorem spec_l4Act.mono_l : ∀ k, (∀ y0 y1 y2 y3 y4 y5 y6 y7 y8, LeO (spec_l4Act.j0 k y0 y1 y2 y3 y4 y5 y6 y7 y8) (spec_l4Act.j0 (k + 1) y0 y1 y2 y3 y4 y5 y6 y7 y8))
 | 0 => fun _ _ _ _ _ _ _ _ _ r h => by simp [spec_l4Act.j0] at h
 | k + 1 => by
  have ih0 := spec_l4Act.mono_l k
  ·
   intro y0 y1 y2 y3 y4 y5 y6 y7 y8
   unfold spec_l4Act.j0
   repeat' first
   | (with_reducible exact ih0 _ _ _ _ _ _ _ _ _)
   | (with_reducible exact spec_l4Do.mono _ _ _ _ _ _)
   | (with_reducible exact spec_l4Files.mono _ _)
   | (with_reducible exact spec_l4Form.mono _ _ _ _ _)
   | (with_reducible exact LeO.refl _)
   | (with_reducible exact LeO.none _)
   | (with_reducible refine LeO.ite ?_ ?_)
   | (with_reducible refine LeO.bind ?_ (fun _ => ?_))
   | exact ih0 _ _ _ _ _ _ _ _ _
   | exact spec_l4Do.mono _ _ _ _ _ _
   | exact spec_l4Files.mono _ _
   | exact spec_l4Form.mono _ _ _ _ _
   | exact LeO.none _
   | refine LeO.ite ?_ ?_
   | refine LeO.bind ?_ (fun _ => ?_)
theorem spec_l4Act.mono : ∀ a0 a1 a2 a3 a4 a5 a6 k, LeO (spec_l4Act.f k a0 a1 a2 a3 a4 a5 a6) (spec_l4Act.f (k + 1) a0 a1 a2 a3 a4 a5 a6) := by
 intro a0 a1 a2 a3 a4 a5 a6 k
 have ih0 := spec_l4Act.mono_l k
 unfold spec_l4Act.f
 repeat' first
  | (with_reducible exact ih0 _ _ _ _ _ _ _ _ _)
  | (with_reducible exact spec_l4Do.mono _ _ _ _ _ _)
  | (with_reducible exact spec_l4Files.mono _ _)
  | (with_reducible exact spec_l4Form.mono _ _ _ _ _)
  | (with_reducible exact LeO.refl _)
  | (with_reducible exact LeO.none _)
  | (with_reducible refine LeO.ite ?_ ?_)
  | (with_reducible refine LeO.bind ?_ (fun _ => ?_))
  | exact ih0 _ _ _ _ _ _ _ _ _
  | exact spec_l4Do.mono _ _ _ _ _ _
  | exact spec_l4Files.mono _ _
  | exact spec_l4Form.mono _ _ _ _ _
  | exact LeO.none _
  | refine LeO.ite ?_ ?_
  | refine LeO.bind ?_ (fun _ => ?_)
set_option maxHeartbeats 8000000 in
set_option maxRecDepth 100000 in
theorem spec_l4Act.callsR (k : Nat) (A0_0 : Option Addr) (c0_0 : Nat) (l0_0 : List (S80)) (A0_1 : Option Addr) (c0_1 : Nat) (l0_1 : List (S80)) (A0_2 : Option Addr) (c0_2 : Nat) (l0_2 : List (S73)) (a1_0 : Int) (a1_1 : ByteArray) (a1_2 : ByteArray) (a1_3 : ByteArray) (r1 : List (S80)) (r2 : List (S80)) (r3 : List (S73)) (r4 : Int) (w : World) (hr0_0 : Kd.C k80 w A0_0 l0_0.length l0_0) (hc0_0 : l0_0.length ≤ c0_0) (hr0_1 : Kd.C k80 w A0_1 l0_1.length l0_1) (hc0_1 : l0_1.length ≤ c0_1) (hr0_2 : Kd.C k73 w A0_2 l0_2.length l0_2) (hc0_2 : l0_2.length ≤ c0_2) (h : spec_l4Act.f k l0_0 l0_1 l0_2 a1_0 a1_1 a1_2 a1_3 = some (r1, r2, r3, r4)) :
 Calls Try.prog 65 #[.agg #[.slice A0_0 l0_0.length c0_0, .slice A0_1 l0_1.length c0_1, .slice A0_2 l0_2.length c0_2], .agg #[.int .i64 a1_0, .string a1_1, .string a1_2, .string a1_3]] w fun e w' => ∃ v0_ v1_ v2_ : Value, e = .returned (.tuple #[.agg #[v0_, v1_, v2_], .int .i64 r4]) ∧ Kd.R k80 80 w' w.heap.size (fun k_ => some k_ ≠ (v1_ : Value).ownBlock) v0_ r1 ∧ Kd.R k80 80 w' w.heap.size (fun k_ => some k_ ≠ (v0_ : Value).ownBlock) v1_ r2 ∧ Kd.R k73 73 w' w.heap.size (fun _ => True) v2_ r3 ∧ Below w.heap.size w w' := by
 have hu31 := Try.underlying31
 have hu73 := Try.underlying73
 have HR0_0 := am hr0_0
 have HC0_0 := am hc0_0
 clear hr0_0 hc0_0
 have HR0_1 := am hr0_1
 have HC0_1 := am hc0_1
 clear hr0_1 hc0_1
 have HR0_2 := am hr0_2
 have HC0_2 := am hc0_2
 clear hr0_2 hc0_2
 have HB := am (Below.refl w.heap.size w)
 have H : ((spec_l4Form.f k a1_0 a1_1 a1_2 a1_3).bind fun t104 => (if t104 = true then ((spec_l4Do.f k l0_0 a1_0 a1_1 a1_2 a1_3).bind fun bt114 => (if bt114.2 = true then (if (l0_2.length : Int) = 200 then (spec_l4Act.j0 k bt114.1 true l0_0 l0_1 l0_2 a1_0 a1_1 a1_2 a1_3) else ((spec_l4Files.f k bt114.1).bind fun t127 => (spec_l4Act.j0 k bt114.1 (!t127) l0_0 l0_1 l0_2 a1_0 a1_1 a1_2 a1_3))) else ((spec_l4Copy.f l0_0 l0_1 l0_2).bind fun bt118 => (some (bt118.1, bt118.2.1, bt118.2.2, 3))))) else ((spec_l4Copy.f l0_0 l0_1 l0_2).bind fun bt105 => (some (bt105.1, bt105.2.1, bt105.2.2, 2))))) = some (r1, r2, r3, r4) := h
 clear h
 replace H := Option.bind_eq_some_iff.mp H
 obtain ⟨t104, A30, H⟩ := H
 replace H : (if t104 = true then ((spec_l4Do.f k l0_0 a1_0 a1_1 a1_2 a1_3).bind fun bt114 => (if bt114.2 = true then (if (l0_2.length : Int) = 200 then (spec_l4Act.j0 k bt114.1 true l0_0 l0_1 l0_2 a1_0 a1_1 a1_2 a1_3) else ((spec_l4Files.f k bt114.1).bind fun t127 => (spec_l4Act.j0 k bt114.1 (!t127) l0_0 l0_1 l0_2 a1_0 a1_1 a1_2 a1_3))) else ((spec_l4Copy.f l0_0 l0_1 l0_2).bind fun bt118 => (some (bt118.1, bt118.2.1, bt118.2.2, 3))))) else ((spec_l4Copy.f l0_0 l0_1 l0_2).bind fun bt105 => (some (bt105.1, bt105.2.1, bt105.2.2, 2)))) = some (r1, r2, r3, r4) := H
 have A3 := am A30
 clear A30
 by_cases c4 : t104 = true
 ·
  subst c4
  have H1 : ((spec_l4Do.f k l0_0 a1_0 a1_1 a1_2 a1_3).bind fun bt114 => (if bt114.2 = true then (if (l0_2.length : Int) = 200 then (spec_l4Act.j0 k bt114.1 true l0_0 l0_1 l0_2 a1_0 a1_1 a1_2 a1_3) else ((spec_l4Files.f k bt114.1).bind fun t127 => (spec_l4Act.j0 k bt114.1 (!t127) l0_0 l0_1 l0_2 a1_0 a1_1 a1_2 a1_3))) else ((spec_l4Copy.f l0_0 l0_1 l0_2).bind fun bt118 => (some (bt118.1, bt118.2.1, bt118.2.2, 3))))) = some (r1, r2, r3, r4) := by rw [if_pos rfl] at H; exact H
  clear H
  have H := H1
  clear H1
  replace H := Option.bind_eq_some_iff.mp H
  obtain ⟨⟨t114, t117⟩, A50, H⟩ := H
  replace H : (if t117 = true then (if (l0_2.length : Int) = 200 then (spec_l4Act.j0 k t114 true l0_0 l0_1 l0_2 a1_0 a1_1 a1_2 a1_3) else ((spec_l4Files.f k t114).bind fun t127 => (spec_l4Act.j0 k t114 (!t127) l0_0 l0_1 l0_2 a1_0 a1_1 a1_2 a1_3))) else ((spec_l4Copy.f l0_0 l0_1 l0_2).bind fun bt118 => (some (bt118.1, bt118.2.1, bt118.2.2, 3)))) = some (r1, r2, r3, r4) := H
  have A5 := am A50
  clear A50
  by_cases c6 : t117 = true
  ·
   subst c6
   have H1 : (if (l0_2.length : Int) = 200 then (spec_l4Act.j0 k t114 true l0_0 l0_1 l0_2 a1_0 a1_1 a1_2 a1_3) else ((spec_l4Files.f k t114).bind fun t127 => (spec_l4Act.j0 k t114 (!t127) l0_0 l0_1 l0_2 a1_0 a1_1 a1_2 a1_3))) = some (r1, r2, r3, r4) := by rw [if_pos rfl] at H; exact H
   clear H
   have H := H1
   clear H1
   have HC7 := am H
   clear H
   go_enter Try.func65, Try.ntmps65
   go_upto_region 6 with (first | ((with_reducible refine qal (N := 2) rfl ?_); refine bxE (N := 2) (cs := #[.slice A0_0 l0_0.length c0_0, .slice A0_1 l0_1.length c0_1, .slice A0_2 l0_2.length c0_2]) (t := 31) ?_; intro gb101 hg w8 hbox hb; have BK101 := am (hbox); have GW101 := am (sgE hg (au3 HB.out) : w.heap.size ≤ gb101); have GE101 := GW101; replace HB := am (qad (au3 HB.out) hb); clear hb hbox hg) | ((with_reducible refine qal (N := 3) rfl ?_); refine bxE (N := 3) (cs := #[.int .i64 a1_0, .string a1_1, .string a1_2, .string a1_3]) (t := 73) ?_; intro gb102 hg w9 hbox hb; have BK102 := am (hbox); have GW102 := am (sgE hg (au7 HB.out GE101.out) : w.heap.size ≤ gb102); have GE102 := GW102; replace HB := am (qad (au7 HB.out GE101.out) hb); have NB101_102 := am ((sltE hg (qan (au1 BK101.out)))); have NB102_101 := am ((sgtE hg (qan (au1 BK101.out)))); replace BK101 := am (qab (au1 BK101.out) hb); clear hb hbox hg) | ((with_reducible refine qal (N := 4) rfl ?_); refine bxE (N := 4) (cs := #[.slice none 0 0, .slice none 0 0, .slice none 0 0]) (t := 31) ?_; intro gb103 hg w10 hbox hb; have BK103 := am (hbox); have GW103 := am (sgE hg (au4 HB.out GE101.out GE102.out) : w.heap.size ≤ gb103); have GE103 := GW103; replace HB := am (qad (au4 HB.out GE101.out GE102.out) hb); have NB101_103 := am ((sltE hg (qan (au1 BK101.out)))); have NB103_101 := am ((sgtE hg (qan (au1 BK101.out)))); replace BK101 := am (qab (au1 BK101.out) hb); have NB102_103 := am ((sltE hg (qan (au1 BK102.out)))); have NB103_102 := am ((sgtE hg (qan (au1 BK102.out)))); replace BK102 := am (qab (au1 BK102.out) hb); clear hb hbox hg; have hnb11 := NB102_101.out; have hnc11 := NB101_102.out; have hnb12 := NB102_103.out; have hnc12 := NB103_102.out; have hcz13_0 : _ = some (Value.int .i64 a1_0) := bcE BK102.out 0; have hcz13_1 : _ = some (Value.string a1_1) := bcE BK102.out 1; have hcz13_2 : _ = some (Value.string a1_2) := bcE BK102.out 2; have hcz13_3 : _ = some (Value.string a1_3) := bcE BK102.out 3; have hfz13_0 := qaa BK102.out 0; have hfz13_1 := qaa BK102.out 1; have hfz13_2 := qaa BK102.out 2; have hfz13_3 := qaa BK102.out 3) | ((with_reducible refine qaj (f := 45) rfl ?_); refine qap (some 10) rfl rfl Try.func45 (by kernel_rfl) rfl #[.agg #[.int .i64 a1_0, .string a1_1, .string a1_2, .string a1_3]] rfl au6 ?_; (with_reducible refine (spec_l4Form.calls k a1_0 a1_1 a1_2 a1_3 true _ A3.out).mono ?_); rintro e w14 ⟨rfl, hb⟩; refine ⟨_, rfl, ?_⟩; replace BK101 := am (qab (au1 BK101.out) hb); replace BK102 := am (qab (au1 BK102.out) hb); replace BK103 := am (qab (au1 BK103.out) hb); replace HB := am (qad (au11 HB.out GE101.out GE102.out GE103.out) hb); (try clear hb); (try clear hb2); (try clear hk); (try clear hi); have hnb15 := NB101_103.out; have hnc15 := NB103_101.out; have hcz16_0 : _ = some (Value.slice A0_0 l0_0.length c0_0) := bcE BK101.out 0; have hcz16_1 : _ = some (Value.slice A0_1 l0_1.length c0_1) := bcE BK101.out 1; have hcz16_2 : _ = some (Value.slice A0_2 l0_2.length c0_2) := bcE BK101.out 2; have hfz16_0 := qaa BK101.out 0; have hfz16_1 := qaa BK101.out 1; have hfz16_2 := qaa BK101.out 2; have hcz17_0 : _ = some (Value.int .i64 a1_0) := bcE BK102.out 0; have hcz17_1 : _ = some (Value.string a1_1) := bcE BK102.out 1; have hcz17_2 : _ = some (Value.string a1_2) := bcE BK102.out 2; have hcz17_3 : _ = some (Value.string a1_3) := bcE BK102.out 3; have hfz17_0 := qaa BK102.out 0; have hfz17_1 := qaa BK102.out 1; have hfz17_2 := qaa BK102.out 2; have hfz17_3 := qaa BK102.out 3) | ((with_reducible refine qaj (f := 44) rfl ?_); refine qap (some 18) rfl rfl Try.func44 (by kernel_rfl) rfl #[.slice A0_0 l0_0.length c0_0, .agg #[.int .i64 a1_0, .string a1_1, .string a1_2, .string a1_3]] rfl au6 ?_; (with_reducible refine (spec_l4Do.calls k _ _ l0_0 a1_0 a1_1 a1_2 a1_3 t114 true _ ?side1 ?side2 A5.out).mono ?_); (case side1 => exact scE (Kd.C_below HR0_0.out HB.out)); (case side2 => exact HC0_0.out); rintro e w18 ⟨v115, rfl, ho0, hb⟩; refine ⟨_, rfl, ?_⟩; have HO116 := am (Kd.R_lower ho0 (qaf (au11 HB.out GE101.out GE102.out GE103.out))); replace BK101 := am (qab (au1 BK101.out) hb); replace BK102 := am (qab (au1 BK102.out) hb); replace BK103 := am (qab (au1 BK103.out) hb); replace HB := am (qad (au11 HB.out GE101.out GE102.out GE103.out) hb); (try clear hb); (try clear hb2); (try clear hk); (try clear hi); (try clear ho0)))
   (try simp only [Act.put, qsA, qsZ, qsS])
   go_cut [33] (fun v33 wc => ∃ (kq : Nat) (x33_6 : Bool), v33 = .bool x33_6 ∧ Aside0 (spec_l4Act.j0 kq t114 x33_6 l0_0 l0_1 l0_2 a1_0 a1_1 a1_2 a1_3 = some (r1, r2, r3, r4)) ∧ Aside0 (kq ≤ k) ∧ Aside0 (Kd.R k80 80 wc w.heap.size (fun _ => True) v115 t114) ∧ Aside0 (wc.heap[gb101]? = some (.cells #[(.slice A0_0 l0_0.length c0_0), (.slice A0_1 l0_1.length c0_1), (.slice A0_2 l0_2.length c0_2)] 31 (0, 0))) ∧ Aside0 (wc.heap[gb102]? = some (.cells #[.int .i64 a1_0, .string a1_1, .string a1_2, .string a1_3] 73 (0, 0))) ∧ Aside0 (wc.heap[gb103]? = some (.cells #[(.slice none 0 0), (.slice none 0 0), (.slice none 0 0)] 31 (0, 0))) ∧ Aside0 (Below w.heap.size w wc))
   case first =>
    have H := HC7.out
    clear HC7
    by_cases c19 : (l0_2.length : Int) = 200
    ·
     rw [if_pos c19] at H
     have c19b0 : ((l0_2.length : Int) == 200) = true := beq_iff_eq.mpr c19
     have c19b1 : ((l0_2.length : Int) != 200) = false := bne_eq_false_iff_eq.mpr c19
     clear c19
     (first | rw [c19b0] | (simp only [i64_w, i32_w]; rw [c19b0]) | skip)
     have H' := am H
     clear H
     have hnb20 := NB101_102.out
     have hnc20 := NB102_101.out
     have hnb21 := NB101_103.out
     have hnc21 := NB103_101.out
     have hcz22_0 : _ = some (Value.slice A0_0 l0_0.length c0_0) := bcE BK101.out 0
     have hcz22_1 : _ = some (Value.slice A0_1 l0_1.length c0_1) := bcE BK101.out 1
     have hcz22_2 : _ = some (Value.slice A0_2 l0_2.length c0_2) := bcE BK101.out 2
     have hfz22_0 := qaa BK101.out 0
     have hfz22_1 := qaa BK101.out 1
     have hfz22_2 := qaa BK101.out 2
     go_wp2
     go_meet
     case rel => exact ⟨_, (true), au10, H', ⟨by first | omega | exact Nat.le_refl _⟩, ⟨au0 HO116.out⟩, ⟨au1 BK101.out⟩, ⟨au1 BK102.out⟩, ⟨au1 BK103.out⟩, ⟨(au11 HB.out GE101.out GE102.out GE103.out)⟩⟩
    ·
     rw [if_neg c19] at H
     have c19b0 : ((l0_2.length : Int) == 200) = false := beq_eq_false_iff_ne.mpr c19
     have c19b1 : ((l0_2.length : Int) != 200) = true := bne_iff_ne.mpr c19
     (first | rw [c19b0] | (simp only [i64_w, i32_w]; rw [c19b0]) | skip)
     replace H := Option.bind_eq_some_iff.mp H
     obtain ⟨t127, A230, H⟩ := H
     replace H : (spec_l4Act.j0 k t114 (!t127) l0_0 l0_1 l0_2 a1_0 a1_1 a1_2 a1_3) = some (r1, r2, r3, r4) := H
     have A23 := am A230
     clear A230
     have H' := am H
     clear H
     have hnb24 := NB101_102.out
     have hnc24 := NB102_101.out
     have hnb25 := NB101_103.out
     have hnc25 := NB103_101.out
     have hcz26_0 : _ = some (Value.slice A0_0 l0_0.length c0_0) := bcE BK101.out 0
     have hcz26_1 : _ = some (Value.slice A0_1 l0_1.length c0_1) := bcE BK101.out 1
     have hcz26_2 : _ = some (Value.slice A0_2 l0_2.length c0_2) := bcE BK101.out 2
     have hfz26_0 := qaa BK101.out 0
     have hfz26_1 := qaa BK101.out 1
     have hfz26_2 := qaa BK101.out 2
     obtain ⟨Ao27, co27, eo27⟩ := Kd.R_slice HO116.out
     subst eo27
     go_wp2_with (first | (go_at_call 43; (with_reducible refine (spec_l4Files.calls k _ _ t114 t127 _ ?side1 ?side2 A23.out).mono ?_); (case side1 => repeat (first | exact (Kd.R_reads' HO116.out).2.2 | (with_reducible refine Kd.C_alloc ?_ _) | (with_reducible refine Kd.C_drewN ?_ _) | (with_reducible refine Kd.C_drew ?_))); (case side2 => exact (Kd.R_reads' HO116.out).2.1); rintro e w' ⟨rfl, ⟨nd, rfl⟩⟩))
     go_meet
     case rel => exact ⟨_, (!t127), au10, H', ⟨by first | omega | exact Nat.le_refl _⟩, ⟨au0 HO116.out⟩, ⟨au1 BK101.out⟩, ⟨au1 BK102.out⟩, ⟨au1 BK103.out⟩, ⟨(au11 HB.out GE101.out GE102.out GE103.out)⟩⟩
   case rest =>
    clear HC7
    obtain ⟨kq, x33_6, rfl, HA, HJ6, HO_6, BK101, BK102, BK103, HB⟩ := hcut
    cases kq with
    | zero => exact absurd HA.out (by simp [spec_l4Act.j0])
    | succ kj6 =>
     have H := HA.out
     clear HA
     simp only [spec_l4Act.j0] at H
     by_cases c28 : x33_6 = true
     ·
      subst c28
      have H1 : ((spec_l4Copy.f l0_0 l0_1 l0_2).bind fun bt128 => (some (bt128.1, bt128.2.1, bt128.2.2, 4))) = some (r1, r2, r3, r4) := by rw [if_pos rfl] at H; exact H
      clear H
      have H := H1
      clear H1
      replace H := Option.bind_eq_some_iff.mp H
      obtain ⟨⟨t128, t131, t134⟩, A290, H⟩ := H
      replace H : (some (t128, t131, t134, 4)) = some (r1, r2, r3, r4) := H
      have A29 := am A290
      clear A290
      simp only [Option.some.injEq, Prod.mk.injEq] at H
      obtain ⟨rfl, rfl, rfl, rfl⟩ := H
      have hnb30 := NB101_102.out
      have hnc30 := NB102_101.out
      have hnb31 := NB101_103.out
      have hnc31 := NB103_101.out
      have hcz32_0 : _ = some (Value.slice A0_0 l0_0.length c0_0) := bcE BK101.out 0
      have hcz32_1 : _ = some (Value.slice A0_1 l0_1.length c0_1) := bcE BK101.out 1
      have hcz32_2 : _ = some (Value.slice A0_2 l0_2.length c0_2) := bcE BK101.out 2
      have hfz32_0 := qaa BK101.out 0
      have hfz32_1 := qaa BK101.out 1
      have hfz32_2 := qaa BK101.out 2
      go_wp2_with (first | ((with_reducible refine qaj (f := 66) rfl ?_); refine qap (some 35) rfl rfl Try.func66 (by kernel_rfl) rfl #[.agg #[.slice A0_0 l0_0.length c0_0, .slice A0_1 l0_1.length c0_1, .slice A0_2 l0_2.length c0_2]] rfl au6 ?_; (with_reducible refine (spec_l4Copy.calls _ _ l0_0 _ _ l0_1 _ _ l0_2 t128 t131 t134 _ ?side1 ?side2 ?side3 ?side4 ?side5 ?side6 A29.out).mono ?_); (case side1 => exact scE (Kd.C_below HR0_0.out HB.out)); (case side2 => exact HC0_0.out); (case side3 => exact scE (Kd.C_below HR0_1.out HB.out)); (case side4 => exact HC0_1.out); (case side5 => exact scE (Kd.C_below HR0_2.out HB.out)); (case side6 => exact HC0_2.out); rintro e w33 ⟨v129, v132, v135, rfl, ho0, ho1, ho2, hb⟩; refine ⟨_, rfl, ?_⟩; have HO130 := am (Kd.R_lower (Kd.R_new' ho0 (Kd.R_lt (au0 HO_6.out))) (qaf (au11 HB.out GE101.out GE102.out GE103.out))); have HO133 := am (Kd.R_lower (Kd.R_new' ho1 (Kd.R_lt (au0 HO_6.out))) (qaf (au11 HB.out GE101.out GE102.out GE103.out))); replace HO_6 := am (Kd.R_mono (Kd.R_told (Kd.R_told (Kd.R_old (au0 HO_6.out) hb) (Kd.R_base ho0)) (Kd.R_base ho1)) k1E); have HO136 := am (Kd.R_lower (Kd.R_newB ho2 (g := gb102) (o := .cells #[.int .i64 a1_0, .string a1_1, .string a1_2, .string a1_3] 73 (0, 0)) (au1 BK102.out)) (qaf (au11 HB.out GE101.out GE102.out GE103.out))); replace BK101 := am (qab (au1 BK101.out) hb); replace BK102 := am (qab (au1 BK102.out) hb); replace BK103 := am (qab (au1 BK103.out) hb); replace HB := am (qad (au11 HB.out GE101.out GE102.out GE103.out) hb); (try clear hb); (try clear hb2); (try clear hk); (try clear hi); (try clear ho0); (try clear ho1); (try clear ho2); obtain ⟨Ao34, co34, eo34⟩ := Kd.R_slice HO130.out; subst eo34; have hnb35 := NB103_102.out; have hnc35 := NB102_103.out; have hcz36_0 : _ = some (Value.slice none 0 0) := bcE BK103.out 0; have hcz36_1 : _ = some (Value.slice none 0 0) := bcE BK103.out 1; have hcz36_2 : _ = some (Value.slice none 0 0) := bcE BK103.out 2; have hfz36_0 := qaa BK103.out 0; have hfz36_1 := qaa BK103.out 1; have hfz36_2 := qaa BK103.out 2; obtain ⟨Ao37, co37, eo37⟩ := Kd.R_slice HO133.out; subst eo37; obtain ⟨Ao38, co38, eo38⟩ := Kd.R_slice HO136.out; subst eo38))
      refine bodyPost_ret (qbd rfl _ _ gb103 31 #[.slice Ao34 t128.length co34, .slice Ao37 t131.length co37, .slice Ao38 t134.length co38] (0, 0) _ rfl (by refine au1 ?_; refine qam (cs := #[.slice Ao34 t128.length co34, .slice Ao37 t131.length co37, .slice none 0 0]) ?_ 2 _ rfl; refine au1 ?_; refine qam (cs := #[.slice Ao34 t128.length co34, .slice none 0 0, .slice none 0 0]) ?_ 1 _ rfl; refine au1 ?_; refine qam (cs := #[.slice none 0 0, .slice none 0 0, .slice none 0 0]) ?_ 0 _ rfl; refine au1 ?_; exact BK103.out) Try.underlying31 rfl (by kernel_rfl)) rfl ?_
      exact ⟨_, _, _, by first | rfl | (simp [qag, qah] <;> rfl) | (simp [*, qag, qah] <;> rfl), by refine au0 ?_; exact Kd.R_mono (Kd.R_far (p := ⟨gb103, 2, none⟩) (Kd.R_far (p := ⟨gb103, 1, none⟩) (Kd.R_far (p := ⟨gb103, 0, none⟩) (Kd.R_types HO130.out BK103.out (by decide)) k2E (.slice Ao34 t128.length co34)) k2E (.slice Ao37 t131.length co37)) k2E (.slice Ao38 t134.length co38)) (fun _ hk => hk.1.1), by refine au0 ?_; exact Kd.R_mono (Kd.R_far (p := ⟨gb103, 2, none⟩) (Kd.R_far (p := ⟨gb103, 1, none⟩) (Kd.R_far (p := ⟨gb103, 0, none⟩) (Kd.R_types HO133.out BK103.out (by decide)) k2E (.slice Ao34 t128.length co34)) k2E (.slice Ao37 t131.length co37)) k2E (.slice Ao38 t134.length co38)) (fun _ hk => hk.1.1), by refine au0 ?_; exact Kd.R_mono (Kd.R_far (p := ⟨gb103, 2, none⟩) (Kd.R_far (p := ⟨gb103, 1, none⟩) (Kd.R_far (p := ⟨gb103, 0, none⟩) (Kd.R_types HO136.out BK103.out (by decide)) k2E (.slice Ao34 t128.length co34)) k2E (.slice Ao37 t131.length co37)) k2E (.slice Ao38 t134.length co38)) (fun _ hk => trivial), (au11 HB.out GE101.out GE102.out GE103.out)⟩
     ·
      replace c28 := Bool.eq_false_iff.mpr c28
      subst c28
      have H1 : ((spec_l4Copy.f l0_0 l0_1 l0_2).bind fun bt137 => (if bt137.2.2.length < 2513169434916 then (some (t114, bt137.2.1, (bt137.2.2 ++ [(⟨a1_0, a1_1, a1_2, a1_3⟩ : S73)]), 0)) else (none))) = some (r1, r2, r3, r4) := by rw [if_neg (show ¬ (false = true) by decide)] at H; exact H
      clear H
      have H := H1
      clear H1
      replace H := Option.bind_eq_some_iff.mp H
      obtain ⟨⟨t137, t140, t143⟩, A390, H⟩ := H
      replace H : (if t143.length < 2513169434916 then (some (t114, t140, (t143 ++ [(⟨a1_0, a1_1, a1_2, a1_3⟩ : S73)]), 0)) else (none)) = some (r1, r2, r3, r4) := H
      have A39 := am A390
      clear A390
      by_cases c40 : t143.length < 2513169434916
      ·
       rw [if_pos c40] at H
       have LMc40 := am c40
       clear c40
       obtain ⟨y147, hy147⟩ : ∃ y_ : List (S73), y_ = (t143 ++ [(⟨a1_0, a1_1, a1_2, a1_3⟩ : S73)]) := ⟨_, rfl⟩
       replace H : (some (t114, t140, y147, 0)) = some (r1, r2, r3, r4) := by first | (rw [hy147]; with_reducible exact H) | (have H2_ := (Option.bind_some _ _).symm.trans H; rw [hy147]; with_reducible exact H2_) | (have H2_ := (Option.bind_some _ _).symm.trans H; with_reducible exact H2_) | with_reducible exact H | (rw [hy147]; exact H) | exact H
       have Ny147 := am hy147
       clear hy147
       simp only [Option.some.injEq, Prod.mk.injEq] at H
       obtain ⟨rfl, rfl, rfl, rfl⟩ := H
       have hnb41 := NB101_102.out
       have hnc41 := NB102_101.out
       have hnb42 := NB101_103.out
       have hnc42 := NB103_101.out
       have hcz43_0 : _ = some (Value.slice A0_0 l0_0.length c0_0) := bcE BK101.out 0
       have hcz43_1 : _ = some (Value.slice A0_1 l0_1.length c0_1) := bcE BK101.out 1
       have hcz43_2 : _ = some (Value.slice A0_2 l0_2.length c0_2) := bcE BK101.out 2
       have hfz43_0 := qaa BK101.out 0
       have hfz43_1 := qaa BK101.out 1
       have hfz43_2 := qaa BK101.out 2
       go_wp2_with (first | ((with_reducible refine qaj (f := 66) rfl ?_); refine qap (some 37) rfl rfl Try.func66 (by kernel_rfl) rfl #[.agg #[.slice A0_0 l0_0.length c0_0, .slice A0_1 l0_1.length c0_1, .slice A0_2 l0_2.length c0_2]] rfl au6 ?_; (with_reducible refine (spec_l4Copy.calls _ _ l0_0 _ _ l0_1 _ _ l0_2 t137 t140 t143 _ ?side1 ?side2 ?side3 ?side4 ?side5 ?side6 A39.out).mono ?_); (case side1 => exact scE (Kd.C_below HR0_0.out HB.out)); (case side2 => exact HC0_0.out); (case side3 => exact scE (Kd.C_below HR0_1.out HB.out)); (case side4 => exact HC0_1.out); (case side5 => exact scE (Kd.C_below HR0_2.out HB.out)); (case side6 => exact HC0_2.out); rintro e w44 ⟨v138, v141, v144, rfl, ho0, ho1, ho2, hb⟩; refine ⟨_, rfl, ?_⟩; have HO139 := am (Kd.R_lower (Kd.R_new' ho0 (Kd.R_lt (au0 HO_6.out))) (qaf (au11 HB.out GE101.out GE102.out GE103.out))); have HO142 := am (Kd.R_lower (Kd.R_new' ho1 (Kd.R_lt (au0 HO_6.out))) (qaf (au11 HB.out GE101.out GE102.out GE103.out))); replace HO_6 := am (Kd.R_mono (Kd.R_told (Kd.R_told (Kd.R_old (au0 HO_6.out) hb) (Kd.R_base ho0)) (Kd.R_base ho1)) k1E); have HO145 := am (Kd.R_lower (Kd.R_newB ho2 (g := gb102) (o := .cells #[.int .i64 a1_0, .string a1_1, .string a1_2, .string a1_3] 73 (0, 0)) (au1 BK102.out)) (qaf (au11 HB.out GE101.out GE102.out GE103.out))); replace BK101 := am (qab (au1 BK101.out) hb); replace BK102 := am (qab (au1 BK102.out) hb); replace BK103 := am (qab (au1 BK103.out) hb); replace HB := am (qad (au11 HB.out GE101.out GE102.out GE103.out) hb); (try clear hb); (try clear hb2); (try clear hk); (try clear hi); (try clear ho0); (try clear ho1); (try clear ho2)) | ((with_reducible refine qal (N := 8) rfl ?_); refine bxE (N := 8) (cs := #[.slice none 0 0, .slice none 0 0, .slice none 0 0]) (t := 31) ?_; intro gb146 hg w45 hbox hb; replace HO_6 := am (Kd.R_below (au0 HO_6.out) hb); replace HO139 := am (Kd.R_below (au0 HO139.out) hb); replace HO142 := am (Kd.R_below (au0 HO142.out) hb); replace HO145 := am (Kd.R_below (au0 HO145.out) hb); have BK146 := am (hbox); have GW146 := am (sgE hg (au11 HB.out GE101.out GE102.out GE103.out) : w.heap.size ≤ gb146); have GE146 := GW146; replace HB := am (qad (au11 HB.out GE101.out GE102.out GE103.out) hb); have NB101_146 := am ((sltE hg (qan (au1 BK101.out)))); have NB146_101 := am ((sgtE hg (qan (au1 BK101.out)))); replace BK101 := am (qab (au1 BK101.out) hb); have NB102_146 := am ((sltE hg (qan (au1 BK102.out)))); have NB146_102 := am ((sgtE hg (qan (au1 BK102.out)))); replace BK102 := am (qab (au1 BK102.out) hb); have NB103_146 := am ((sltE hg (qan (au1 BK103.out)))); have NB146_103 := am ((sgtE hg (qan (au1 BK103.out)))); replace BK103 := am (qab (au1 BK103.out) hb); clear hb hbox hg; obtain ⟨Ao46, co46, eo46⟩ := Kd.R_slice HO139.out; subst eo46; have hnb47 := NB146_101.out; have hnc47 := NB101_146.out; have hnb48 := NB146_102.out; have hnc48 := NB102_146.out; have hnb49 := NB146_103.out; have hnc49 := NB103_146.out; have hcz50_0 : _ = some (Value.slice none 0 0) := bcE BK146.out 0; have hcz50_1 : _ = some (Value.slice none 0 0) := bcE BK146.out 1; have hcz50_2 : _ = some (Value.slice none 0 0) := bcE BK146.out 2; have hfz50_0 := qaa BK146.out 0; have hfz50_1 := qaa BK146.out 1; have hfz50_2 := qaa BK146.out 2; obtain ⟨Ao51, co51, eo51⟩ := Kd.R_slice HO142.out; subst eo51; obtain ⟨Ao52, co52, eo52⟩ := Kd.R_slice HO145.out; subst eo52; obtain ⟨Ao53, co53, eo53⟩ := Kd.R_slice HO_6.out; subst eo53; have hnb54 := NB102_103.out; have hnc54 := NB103_102.out; have hcz55_0 : _ = some (Value.int .i64 a1_0) := bcE BK102.out 0; have hcz55_1 : _ = some (Value.string a1_1) := bcE BK102.out 1; have hcz55_2 : _ = some (Value.string a1_2) := bcE BK102.out 2; have hcz55_3 : _ = some (Value.string a1_3) := bcE BK102.out 3; have hfz55_0 := qaa BK102.out 0; have hfz55_1 := qaa BK102.out 1; have hfz55_2 := qaa BK102.out 2; have hfz55_3 := qaa BK102.out 3) | ((with_reducible refine qbf (b := .append) (xs := #[.tmp 41, .tmp 43]) rfl ?_); at_builtin; refine Kd.R_append k73 (w0 := w) w.heap.size rfl (.tmp 41) (.tmp 43) 29 73 (.agg #[(.int .i64 0), (.string ⟨#[]⟩), (.string ⟨#[]⟩), (.string ⟨#[]⟩)]) 56 rfl Try.underlying29 qex rfl (by decide) (by omega) (.slice Ao52 t143.length co52) t143 (⟨a1_0, a1_1, a1_2, a1_3⟩ : S73) [.int .i64 a1_0, .string a1_1, .string a1_2, .string a1_3] (fun k_ => k_ ≠ gb102) (fun _ => False) rfl (by first | (go_simp; done) | (go_simp; rfl)) ?aP (fun _ hk => hk.elim) ?aF ?aO ?aB ?aS ?aL ?_; (case aP => exact qct _ _ _ (⟨a1_0, a1_1, a1_2, a1_3⟩ : S73)); (case aB => exact (au12 HB.out GE101.out GE102.out GE103.out GE146.out)); (case aF => exact (fun k_ hk => Kd.freshB (g := gb102) (o := .cells #[.int .i64 a1_0, .string a1_1, .string a1_2, .string a1_3] 73 (0, 0)) (au16 NB102_146.out BK102.out) k_ hk)); (case aO => exact (by refine au0 ?_; exact Kd.R_mono (Kd.R_far (p := ⟨gb146, 0, none⟩) (Kd.R_far (p := ⟨gb146, 2, none⟩) (Kd.R_far (p := ⟨gb146, 1, none⟩) (Kd.R_far (p := ⟨gb146, 0, none⟩) (Kd.R_types HO145.out BK146.out (by decide)) k2E (.slice Ao46 t137.length co46)) k2E (.slice Ao51 t140.length co51)) k2E (.slice Ao52 t143.length co52)) k2E (.slice Ao53 t114.length co53)) (fun _ hk => hk.1.2))); (case aS => exact (qaf (au12 HB.out GE101.out GE102.out GE103.out GE146.out))); (case aL => have := LMc40.out; omega); intro v148 w56 ho hb hg hat; rw [← Ny147.out] at ho; replace HO_6 := am (Kd.R_over' (by refine au0 ?_; exact (Kd.R_mono (Kd.R_far (p := ⟨gb146, 0, none⟩) (Kd.R_far (p := ⟨gb146, 2, none⟩) (Kd.R_far (p := ⟨gb146, 1, none⟩) (Kd.R_far (p := ⟨gb146, 0, none⟩) (Kd.R_types HO_6.out BK146.out (by decide)) k2E (.slice Ao46 t137.length co46)) k2E (.slice Ao51 t140.length co51)) k2E (.slice Ao52 t143.length co52)) k2E (.slice Ao53 t114.length co53)) k1E)) (Kd.R_typed (by refine au0 ?_; exact (Kd.R_mono (Kd.R_far (p := ⟨gb146, 0, none⟩) (Kd.R_far (p := ⟨gb146, 2, none⟩) (Kd.R_far (p := ⟨gb146, 1, none⟩) (Kd.R_far (p := ⟨gb146, 0, none⟩) (Kd.R_types HO145.out BK146.out (by decide)) k2E (.slice Ao46 t137.length co46)) k2E (.slice Ao51 t140.length co51)) k2E (.slice Ao52 t143.length co52)) k2E (.slice Ao53 t114.length co53)) k1E))) (by decide) hg); replace BK101 := am (qbb (g := gb101) (o := .cells #[.slice A0_0 l0_0.length c0_0, .slice A0_1 l0_1.length c0_1, .slice A0_2 l0_2.length c0_2] 31 (0, 0)) (au16 NB101_146.out BK101.out) hg (Kd.R_ne HO145.out BK101.out (by decide))); replace BK102 := am (qbb (g := gb102) (o := .cells #[.int .i64 a1_0, .string a1_1, .string a1_2, .string a1_3] 73 (0, 0)) (au16 NB102_146.out BK102.out) hg (Kd.R_away HO145.out k2E)); replace BK103 := am (qbb (g := gb103) (o := .cells #[.slice none 0 0, .slice none 0 0, .slice none 0 0] 31 (0, 0)) (au16 NB103_146.out BK103.out) hg (Kd.R_ne HO145.out BK103.out (by decide))); replace HO139 := am (Kd.R_over' (by refine au0 ?_; exact (Kd.R_mono (Kd.R_far (p := ⟨gb146, 0, none⟩) (Kd.R_far (p := ⟨gb146, 2, none⟩) (Kd.R_far (p := ⟨gb146, 1, none⟩) (Kd.R_far (p := ⟨gb146, 0, none⟩) (Kd.R_types HO139.out BK146.out (by decide)) k2E (.slice Ao46 t137.length co46)) k2E (.slice Ao51 t140.length co51)) k2E (.slice Ao52 t143.length co52)) k2E (.slice Ao53 t114.length co53)) k1E)) (Kd.R_typed (by refine au0 ?_; exact (Kd.R_mono (Kd.R_far (p := ⟨gb146, 0, none⟩) (Kd.R_far (p := ⟨gb146, 2, none⟩) (Kd.R_far (p := ⟨gb146, 1, none⟩) (Kd.R_far (p := ⟨gb146, 0, none⟩) (Kd.R_types HO145.out BK146.out (by decide)) k2E (.slice Ao46 t137.length co46)) k2E (.slice Ao51 t140.length co51)) k2E (.slice Ao52 t143.length co52)) k2E (.slice Ao53 t114.length co53)) k1E))) (by decide) hg); replace HO142 := am (Kd.R_over' (by refine au0 ?_; exact (Kd.R_mono (Kd.R_far (p := ⟨gb146, 0, none⟩) (Kd.R_far (p := ⟨gb146, 2, none⟩) (Kd.R_far (p := ⟨gb146, 1, none⟩) (Kd.R_far (p := ⟨gb146, 0, none⟩) (Kd.R_types HO142.out BK146.out (by decide)) k2E (.slice Ao46 t137.length co46)) k2E (.slice Ao51 t140.length co51)) k2E (.slice Ao52 t143.length co52)) k2E (.slice Ao53 t114.length co53)) k1E)) (Kd.R_typed (by refine au0 ?_; exact (Kd.R_mono (Kd.R_far (p := ⟨gb146, 0, none⟩) (Kd.R_far (p := ⟨gb146, 2, none⟩) (Kd.R_far (p := ⟨gb146, 1, none⟩) (Kd.R_far (p := ⟨gb146, 0, none⟩) (Kd.R_types HO145.out BK146.out (by decide)) k2E (.slice Ao46 t137.length co46)) k2E (.slice Ao51 t140.length co51)) k2E (.slice Ao52 t143.length co52)) k2E (.slice Ao53 t114.length co53)) k1E))) (by decide) hg); replace BK146 := am (qbb (g := gb146) (o := .cells #[.slice Ao53 t114.length co53, .slice Ao51 t140.length co51, .slice Ao52 t143.length co52] 31 (0, 0)) (by refine au1 ?_; refine qam (cs := #[.slice Ao46 t137.length co46, .slice Ao51 t140.length co51, .slice Ao52 t143.length co52]) ?_ 0 _ rfl; refine au1 ?_; refine qam (cs := #[.slice Ao46 t137.length co46, .slice Ao51 t140.length co51, .slice none 0 0]) ?_ 2 _ rfl; refine au1 ?_; refine qam (cs := #[.slice Ao46 t137.length co46, .slice none 0 0, .slice none 0 0]) ?_ 1 _ rfl; refine au1 ?_; refine qam (cs := #[.slice none 0 0, .slice none 0 0, .slice none 0 0]) ?_ 0 _ rfl; refine au1 ?_; exact BK146.out) hg (Kd.R_ne HO145.out BK146.out (by decide))); replace HB := am (hb); have HO149 := am (ho); clear HO145; clear ho hb hg hat; obtain ⟨Ao57, co57, eo57⟩ := Kd.R_slice HO149.out; subst eo57; have hcz58_0 : _ = some (Value.slice Ao53 t114.length co53) := bcE BK146.out 0; have hcz58_1 : _ = some (Value.slice Ao51 t140.length co51) := bcE BK146.out 1; have hcz58_2 : _ = some (Value.slice Ao52 t143.length co52) := bcE BK146.out 2; have hfz58_0 := qaa BK146.out 0; have hfz58_1 := qaa BK146.out 1; have hfz58_2 := qaa BK146.out 2; have hcz59_0 : _ = some (Value.slice none 0 0) := bcE BK103.out 0; have hcz59_1 : _ = some (Value.slice none 0 0) := bcE BK103.out 1; have hcz59_2 : _ = some (Value.slice none 0 0) := bcE BK103.out 2; have hfz59_0 := qaa BK103.out 0; have hfz59_1 := qaa BK103.out 1; have hfz59_2 := qaa BK103.out 2))
       refine bodyPost_ret (qbd rfl _ _ gb103 31 #[.slice Ao53 t114.length co53, .slice Ao51 t140.length co51, .slice Ao57 y147.length co57] (0, 0) _ rfl (by refine au1 ?_; refine qam (cs := #[.slice Ao53 t114.length co53, .slice Ao51 t140.length co51, .slice none 0 0]) ?_ 2 _ rfl; refine au1 ?_; refine qam (cs := #[.slice Ao53 t114.length co53, .slice none 0 0, .slice none 0 0]) ?_ 1 _ rfl; refine au1 ?_; refine qam (cs := #[.slice none 0 0, .slice none 0 0, .slice none 0 0]) ?_ 0 _ rfl; refine au1 ?_; refine qas ?_ NB103_146.out _; refine au1 ?_; exact BK103.out) Try.underlying31 rfl (by kernel_rfl)) rfl ?_
       exact ⟨_, _, _, by first | rfl | (simp [qag, qah] <;> rfl) | (simp [*, qag, qah] <;> rfl), by refine au0 ?_; exact Kd.R_mono (Kd.R_far (p := ⟨gb103, 2, none⟩) (Kd.R_far (p := ⟨gb103, 1, none⟩) (Kd.R_far (p := ⟨gb103, 0, none⟩) (Kd.R_far (p := ⟨gb146, 2, none⟩) (Kd.R_types (Kd.R_types HO_6.out BK146.out (by decide)) BK103.out (by decide)) (fun _ hk => hk.1.2) (.slice Ao57 y147.length co57)) k2E (.slice Ao53 t114.length co53)) k2E (.slice Ao51 t140.length co51)) k2E (.slice Ao57 y147.length co57)) (fun _ hk => hk.1.1.2), by refine au0 ?_; exact Kd.R_mono (Kd.R_far (p := ⟨gb103, 2, none⟩) (Kd.R_far (p := ⟨gb103, 1, none⟩) (Kd.R_far (p := ⟨gb103, 0, none⟩) (Kd.R_far (p := ⟨gb146, 2, none⟩) (Kd.R_types (Kd.R_types HO142.out BK146.out (by decide)) BK103.out (by decide)) (fun _ hk => hk.1.2) (.slice Ao57 y147.length co57)) k2E (.slice Ao53 t114.length co53)) k2E (.slice Ao51 t140.length co51)) k2E (.slice Ao57 y147.length co57)) (fun _ hk => hk.1.1.2), by refine au0 ?_; exact Kd.R_mono (Kd.R_far (p := ⟨gb103, 2, none⟩) (Kd.R_far (p := ⟨gb103, 1, none⟩) (Kd.R_far (p := ⟨gb103, 0, none⟩) (Kd.R_far (p := ⟨gb146, 2, none⟩) (Kd.R_types (Kd.R_types HO149.out BK146.out (by decide)) BK103.out (by decide)) (fun _ hk => hk.1.2) (.slice Ao57 y147.length co57)) k2E (.slice Ao53 t114.length co53)) k2E (.slice Ao51 t140.length co51)) k2E (.slice Ao57 y147.length co57)) (fun _ hk => trivial), (au12 HB.out GE101.out GE102.out GE103.out GE146.out)⟩
      ·
       rw [if_neg c40] at H
       exact absurd H (by simp)
  ·
   replace c6 := Bool.eq_false_iff.mpr c6
   subst c6
   have H1 : ((spec_l4Copy.f l0_0 l0_1 l0_2).bind fun bt118 => (some (bt118.1, bt118.2.1, bt118.2.2, 3))) = some (r1, r2, r3, r4) := by rw [if_neg (show ¬ (false = true) by decide)] at H; exact H
   clear H
   have H := H1
   clear H1
   replace H := Option.bind_eq_some_iff.mp H
   obtain ⟨⟨t118, t121, t124⟩, A600, H⟩ := H
   replace H : (some (t118, t121, t124, 3)) = some (r1, r2, r3, r4) := H
   have A60 := am A600
   clear A600
   simp only [Option.some.injEq, Prod.mk.injEq] at H
   obtain ⟨rfl, rfl, rfl, rfl⟩ := H
   go_enter Try.func65, Try.ntmps65
   go_wp2_with (first | ((with_reducible refine qal (N := 2) rfl ?_); refine bxE (N := 2) (cs := #[.slice A0_0 l0_0.length c0_0, .slice A0_1 l0_1.length c0_1, .slice A0_2 l0_2.length c0_2]) (t := 31) ?_; intro gb101 hg w61 hbox hb; have BK101 := am (hbox); have GW101 := am (sgE hg (au3 HB.out) : w.heap.size ≤ gb101); have GE101 := GW101; replace HB := am (qad (au3 HB.out) hb); clear hb hbox hg) | ((with_reducible refine qal (N := 3) rfl ?_); refine bxE (N := 3) (cs := #[.int .i64 a1_0, .string a1_1, .string a1_2, .string a1_3]) (t := 73) ?_; intro gb102 hg w62 hbox hb; have BK102 := am (hbox); have GW102 := am (sgE hg (au7 HB.out GE101.out) : w.heap.size ≤ gb102); have GE102 := GW102; replace HB := am (qad (au7 HB.out GE101.out) hb); have NB101_102 := am ((sltE hg (qan (au1 BK101.out)))); have NB102_101 := am ((sgtE hg (qan (au1 BK101.out)))); replace BK101 := am (qab (au1 BK101.out) hb); clear hb hbox hg) | ((with_reducible refine qal (N := 4) rfl ?_); refine bxE (N := 4) (cs := #[.slice none 0 0, .slice none 0 0, .slice none 0 0]) (t := 31) ?_; intro gb103 hg w63 hbox hb; have BK103 := am (hbox); have GW103 := am (sgE hg (au4 HB.out GE101.out GE102.out) : w.heap.size ≤ gb103); have GE103 := GW103; replace HB := am (qad (au4 HB.out GE101.out GE102.out) hb); have NB101_103 := am ((sltE hg (qan (au1 BK101.out)))); have NB103_101 := am ((sgtE hg (qan (au1 BK101.out)))); replace BK101 := am (qab (au1 BK101.out) hb); have NB102_103 := am ((sltE hg (qan (au1 BK102.out)))); have NB103_102 := am ((sgtE hg (qan (au1 BK102.out)))); replace BK102 := am (qab (au1 BK102.out) hb); clear hb hbox hg; have hnb64 := NB102_101.out; have hnc64 := NB101_102.out; have hnb65 := NB102_103.out; have hnc65 := NB103_102.out; have hcz66_0 : _ = some (Value.int .i64 a1_0) := bcE BK102.out 0; have hcz66_1 : _ = some (Value.string a1_1) := bcE BK102.out 1; have hcz66_2 : _ = some (Value.string a1_2) := bcE BK102.out 2; have hcz66_3 : _ = some (Value.string a1_3) := bcE BK102.out 3; have hfz66_0 := qaa BK102.out 0; have hfz66_1 := qaa BK102.out 1; have hfz66_2 := qaa BK102.out 2; have hfz66_3 := qaa BK102.out 3) | ((with_reducible refine qaj (f := 45) rfl ?_); refine qap (some 10) rfl rfl Try.func45 (by kernel_rfl) rfl #[.agg #[.int .i64 a1_0, .string a1_1, .string a1_2, .string a1_3]] rfl au6 ?_; (with_reducible refine (spec_l4Form.calls k a1_0 a1_1 a1_2 a1_3 true _ A3.out).mono ?_); rintro e w67 ⟨rfl, hb⟩; refine ⟨_, rfl, ?_⟩; replace BK101 := am (qab (au1 BK101.out) hb); replace BK102 := am (qab (au1 BK102.out) hb); replace BK103 := am (qab (au1 BK103.out) hb); replace HB := am (qad (au11 HB.out GE101.out GE102.out GE103.out) hb); (try clear hb); (try clear hb2); (try clear hk); (try clear hi); have hnb68 := NB101_103.out; have hnc68 := NB103_101.out; have hcz69_0 : _ = some (Value.slice A0_0 l0_0.length c0_0) := bcE BK101.out 0; have hcz69_1 : _ = some (Value.slice A0_1 l0_1.length c0_1) := bcE BK101.out 1; have hcz69_2 : _ = some (Value.slice A0_2 l0_2.length c0_2) := bcE BK101.out 2; have hfz69_0 := qaa BK101.out 0; have hfz69_1 := qaa BK101.out 1; have hfz69_2 := qaa BK101.out 2; have hcz70_0 : _ = some (Value.int .i64 a1_0) := bcE BK102.out 0; have hcz70_1 : _ = some (Value.string a1_1) := bcE BK102.out 1; have hcz70_2 : _ = some (Value.string a1_2) := bcE BK102.out 2; have hcz70_3 : _ = some (Value.string a1_3) := bcE BK102.out 3; have hfz70_0 := qaa BK102.out 0; have hfz70_1 := qaa BK102.out 1; have hfz70_2 := qaa BK102.out 2; have hfz70_3 := qaa BK102.out 3) | ((with_reducible refine qaj (f := 44) rfl ?_); refine qap (some 18) rfl rfl Try.func44 (by kernel_rfl) rfl #[.slice A0_0 l0_0.length c0_0, .agg #[.int .i64 a1_0, .string a1_1, .string a1_2, .string a1_3]] rfl au6 ?_; (with_reducible refine (spec_l4Do.calls k _ _ l0_0 a1_0 a1_1 a1_2 a1_3 t114 false _ ?side1 ?side2 A5.out).mono ?_); (case side1 => exact scE (Kd.C_below HR0_0.out HB.out)); (case side2 => exact HC0_0.out); rintro e w71 ⟨v115, rfl, ho0, hb⟩; refine ⟨_, rfl, ?_⟩; have HO116 := am (Kd.R_lower ho0 (qaf (au11 HB.out GE101.out GE102.out GE103.out))); replace BK101 := am (qab (au1 BK101.out) hb); replace BK102 := am (qab (au1 BK102.out) hb); replace BK103 := am (qab (au1 BK103.out) hb); replace HB := am (qad (au11 HB.out GE101.out GE102.out GE103.out) hb); (try clear hb); (try clear hb2); (try clear hk); (try clear hi); (try clear ho0); have hcz72_0 : _ = some (Value.slice A0_0 l0_0.length c0_0) := bcE BK101.out 0; have hcz72_1 : _ = some (Value.slice A0_1 l0_1.length c0_1) := bcE BK101.out 1; have hcz72_2 : _ = some (Value.slice A0_2 l0_2.length c0_2) := bcE BK101.out 2; have hfz72_0 := qaa BK101.out 0; have hfz72_1 := qaa BK101.out 1; have hfz72_2 := qaa BK101.out 2) | ((with_reducible refine qaj (f := 66) rfl ?_); refine qap (some 24) rfl rfl Try.func66 (by kernel_rfl) rfl #[.agg #[.slice A0_0 l0_0.length c0_0, .slice A0_1 l0_1.length c0_1, .slice A0_2 l0_2.length c0_2]] rfl au6 ?_; (with_reducible refine (spec_l4Copy.calls _ _ l0_0 _ _ l0_1 _ _ l0_2 t118 t121 t124 _ ?side1 ?side2 ?side3 ?side4 ?side5 ?side6 A60.out).mono ?_); (case side1 => exact scE (Kd.C_below HR0_0.out HB.out)); (case side2 => exact HC0_0.out); (case side3 => exact scE (Kd.C_below HR0_1.out HB.out)); (case side4 => exact HC0_1.out); (case side5 => exact scE (Kd.C_below HR0_2.out HB.out)); (case side6 => exact HC0_2.out); rintro e w73 ⟨v119, v122, v125, rfl, ho0, ho1, ho2, hb⟩; refine ⟨_, rfl, ?_⟩; have HO120 := am (Kd.R_lower (Kd.R_new' ho0 (Kd.R_lt (au0 HO116.out))) (qaf (au11 HB.out GE101.out GE102.out GE103.out))); have HO123 := am (Kd.R_lower (Kd.R_new' ho1 (Kd.R_lt (au0 HO116.out))) (qaf (au11 HB.out GE101.out GE102.out GE103.out))); replace HO116 := am (Kd.R_mono (Kd.R_told (Kd.R_told (Kd.R_old (au0 HO116.out) hb) (Kd.R_base ho0)) (Kd.R_base ho1)) k1E); have HO126 := am (Kd.R_lower (Kd.R_newB ho2 (g := gb102) (o := .cells #[.int .i64 a1_0, .string a1_1, .string a1_2, .string a1_3] 73 (0, 0)) (au1 BK102.out)) (qaf (au11 HB.out GE101.out GE102.out GE103.out))); replace BK101 := am (qab (au1 BK101.out) hb); replace BK102 := am (qab (au1 BK102.out) hb); replace BK103 := am (qab (au1 BK103.out) hb); replace HB := am (qad (au11 HB.out GE101.out GE102.out GE103.out) hb); (try clear hb); (try clear hb2); (try clear hk); (try clear hi); (try clear ho0); (try clear ho1); (try clear ho2); obtain ⟨Ao74, co74, eo74⟩ := Kd.R_slice HO120.out; subst eo74; have hcz75_0 : _ = some (Value.slice none 0 0) := bcE BK103.out 0; have hcz75_1 : _ = some (Value.slice none 0 0) := bcE BK103.out 1; have hcz75_2 : _ = some (Value.slice none 0 0) := bcE BK103.out 2; have hfz75_0 := qaa BK103.out 0; have hfz75_1 := qaa BK103.out 1; have hfz75_2 := qaa BK103.out 2; obtain ⟨Ao76, co76, eo76⟩ := Kd.R_slice HO123.out; subst eo76; obtain ⟨Ao77, co77, eo77⟩ := Kd.R_slice HO126.out; subst eo77))
   refine bodyPost_ret (qbd rfl _ _ gb103 31 #[.slice Ao74 t118.length co74, .slice Ao76 t121.length co76, .slice Ao77 t124.length co77] (0, 0) _ rfl (by refine au1 ?_; refine qam (cs := #[.slice Ao74 t118.length co74, .slice Ao76 t121.length co76, .slice none 0 0]) ?_ 2 _ rfl; refine au1 ?_; refine qam (cs := #[.slice Ao74 t118.length co74, .slice none 0 0, .slice none 0 0]) ?_ 1 _ rfl; refine au1 ?_; refine qam (cs := #[.slice none 0 0, .slice none 0 0, .slice none 0 0]) ?_ 0 _ rfl; refine au1 ?_; exact BK103.out) Try.underlying31 rfl (by kernel_rfl)) rfl ?_
   exact ⟨_, _, _, by first | rfl | (simp [qag, qah] <;> rfl) | (simp [*, qag, qah] <;> rfl), by refine au0 ?_; exact Kd.R_mono (Kd.R_far (p := ⟨gb103, 2, none⟩) (Kd.R_far (p := ⟨gb103, 1, none⟩) (Kd.R_far (p := ⟨gb103, 0, none⟩) (Kd.R_types HO120.out BK103.out (by decide)) k2E (.slice Ao74 t118.length co74)) k2E (.slice Ao76 t121.length co76)) k2E (.slice Ao77 t124.length co77)) (fun _ hk => hk.1.1), by refine au0 ?_; exact Kd.R_mono (Kd.R_far (p := ⟨gb103, 2, none⟩) (Kd.R_far (p := ⟨gb103, 1, none⟩) (Kd.R_far (p := ⟨gb103, 0, none⟩) (Kd.R_types HO123.out BK103.out (by decide)) k2E (.slice Ao74 t118.length co74)) k2E (.slice Ao76 t121.length co76)) k2E (.slice Ao77 t124.length co77)) (fun _ hk => hk.1.1), by refine au0 ?_; exact Kd.R_mono (Kd.R_far (p := ⟨gb103, 2, none⟩) (Kd.R_far (p := ⟨gb103, 1, none⟩) (Kd.R_far (p := ⟨gb103, 0, none⟩) (Kd.R_types HO126.out BK103.out (by decide)) k2E (.slice Ao74 t118.length co74)) k2E (.slice Ao76 t121.length co76)) k2E (.slice Ao77 t124.length co77)) (fun _ hk => trivial), (au11 HB.out GE101.out GE102.out GE103.out)⟩
 ·
  replace c4 := Bool.eq_false_iff.mpr c4
  subst c4
  have H1 : ((spec_l4Copy.f l0_0 l0_1 l0_2).bind fun bt105 => (some (bt105.1, bt105.2.1, bt105.2.2, 2))) = some (r1, r2, r3, r4) := by rw [if_neg (show ¬ (false = true) by decide)] at H; exact H
  clear H
  have H := H1
  clear H1
  replace H := Option.bind_eq_some_iff.mp H
  obtain ⟨⟨t105, t108, t111⟩, A780, H⟩ := H
  replace H : (some (t105, t108, t111, 2)) = some (r1, r2, r3, r4) := H
  have A78 := am A780
  clear A780
  simp only [Option.some.injEq, Prod.mk.injEq] at H
  obtain ⟨rfl, rfl, rfl, rfl⟩ := H
  go_enter Try.func65, Try.ntmps65
  go_wp2_with (first | ((with_reducible refine qal (N := 2) rfl ?_); refine bxE (N := 2) (cs := #[.slice A0_0 l0_0.length c0_0, .slice A0_1 l0_1.length c0_1, .slice A0_2 l0_2.length c0_2]) (t := 31) ?_; intro gb101 hg w79 hbox hb; have BK101 := am (hbox); have GW101 := am (sgE hg (au3 HB.out) : w.heap.size ≤ gb101); have GE101 := GW101; replace HB := am (qad (au3 HB.out) hb); clear hb hbox hg) | ((with_reducible refine qal (N := 3) rfl ?_); refine bxE (N := 3) (cs := #[.int .i64 a1_0, .string a1_1, .string a1_2, .string a1_3]) (t := 73) ?_; intro gb102 hg w80 hbox hb; have BK102 := am (hbox); have GW102 := am (sgE hg (au7 HB.out GE101.out) : w.heap.size ≤ gb102); have GE102 := GW102; replace HB := am (qad (au7 HB.out GE101.out) hb); have NB101_102 := am ((sltE hg (qan (au1 BK101.out)))); have NB102_101 := am ((sgtE hg (qan (au1 BK101.out)))); replace BK101 := am (qab (au1 BK101.out) hb); clear hb hbox hg) | ((with_reducible refine qal (N := 4) rfl ?_); refine bxE (N := 4) (cs := #[.slice none 0 0, .slice none 0 0, .slice none 0 0]) (t := 31) ?_; intro gb103 hg w81 hbox hb; have BK103 := am (hbox); have GW103 := am (sgE hg (au4 HB.out GE101.out GE102.out) : w.heap.size ≤ gb103); have GE103 := GW103; replace HB := am (qad (au4 HB.out GE101.out GE102.out) hb); have NB101_103 := am ((sltE hg (qan (au1 BK101.out)))); have NB103_101 := am ((sgtE hg (qan (au1 BK101.out)))); replace BK101 := am (qab (au1 BK101.out) hb); have NB102_103 := am ((sltE hg (qan (au1 BK102.out)))); have NB103_102 := am ((sgtE hg (qan (au1 BK102.out)))); replace BK102 := am (qab (au1 BK102.out) hb); clear hb hbox hg; have hnb82 := NB102_101.out; have hnc82 := NB101_102.out; have hnb83 := NB102_103.out; have hnc83 := NB103_102.out; have hcz84_0 : _ = some (Value.int .i64 a1_0) := bcE BK102.out 0; have hcz84_1 : _ = some (Value.string a1_1) := bcE BK102.out 1; have hcz84_2 : _ = some (Value.string a1_2) := bcE BK102.out 2; have hcz84_3 : _ = some (Value.string a1_3) := bcE BK102.out 3; have hfz84_0 := qaa BK102.out 0; have hfz84_1 := qaa BK102.out 1; have hfz84_2 := qaa BK102.out 2; have hfz84_3 := qaa BK102.out 3) | ((with_reducible refine qaj (f := 45) rfl ?_); refine qap (some 10) rfl rfl Try.func45 (by kernel_rfl) rfl #[.agg #[.int .i64 a1_0, .string a1_1, .string a1_2, .string a1_3]] rfl au6 ?_; (with_reducible refine (spec_l4Form.calls k a1_0 a1_1 a1_2 a1_3 false _ A3.out).mono ?_); rintro e w85 ⟨rfl, hb⟩; refine ⟨_, rfl, ?_⟩; replace BK101 := am (qab (au1 BK101.out) hb); replace BK102 := am (qab (au1 BK102.out) hb); replace BK103 := am (qab (au1 BK103.out) hb); replace HB := am (qad (au11 HB.out GE101.out GE102.out GE103.out) hb); (try clear hb); (try clear hb2); (try clear hk); (try clear hi); have hnb86 := NB101_103.out; have hnc86 := NB103_101.out; have hcz87_0 : _ = some (Value.slice A0_0 l0_0.length c0_0) := bcE BK101.out 0; have hcz87_1 : _ = some (Value.slice A0_1 l0_1.length c0_1) := bcE BK101.out 1; have hcz87_2 : _ = some (Value.slice A0_2 l0_2.length c0_2) := bcE BK101.out 2; have hfz87_0 := qaa BK101.out 0; have hfz87_1 := qaa BK101.out 1; have hfz87_2 := qaa BK101.out 2) | ((with_reducible refine qaj (f := 66) rfl ?_); refine qap (some 13) rfl rfl Try.func66 (by kernel_rfl) rfl #[.agg #[.slice A0_0 l0_0.length c0_0, .slice A0_1 l0_1.length c0_1, .slice A0_2 l0_2.length c0_2]] rfl au6 ?_; (with_reducible refine (spec_l4Copy.calls _ _ l0_0 _ _ l0_1 _ _ l0_2 t105 t108 t111 _ ?side1 ?side2 ?side3 ?side4 ?side5 ?side6 A78.out).mono ?_); (case side1 => exact scE (Kd.C_below HR0_0.out HB.out)); (case side2 => exact HC0_0.out); (case side3 => exact scE (Kd.C_below HR0_1.out HB.out)); (case side4 => exact HC0_1.out); (case side5 => exact scE (Kd.C_below HR0_2.out HB.out)); (case side6 => exact HC0_2.out); rintro e w88 ⟨v106, v109, v112, rfl, ho0, ho1, ho2, hb⟩; refine ⟨_, rfl, ?_⟩; have HO107 := am (Kd.R_lower ho0 (qaf (au11 HB.out GE101.out GE102.out GE103.out))); have HO110 := am (Kd.R_lower ho1 (qaf (au11 HB.out GE101.out GE102.out GE103.out))); have HO113 := am (Kd.R_lower (Kd.R_newB ho2 (g := gb102) (o := .cells #[.int .i64 a1_0, .string a1_1, .string a1_2, .string a1_3] 73 (0, 0)) (au1 BK102.out)) (qaf (au11 HB.out GE101.out GE102.out GE103.out))); replace BK101 := am (qab (au1 BK101.out) hb); replace BK102 := am (qab (au1 BK102.out) hb); replace BK103 := am (qab (au1 BK103.out) hb); replace HB := am (qad (au11 HB.out GE101.out GE102.out GE103.out) hb); (try clear hb); (try clear hb2); (try clear hk); (try clear hi); (try clear ho0); (try clear ho1); (try clear ho2); obtain ⟨Ao89, co89, eo89⟩ := Kd.R_slice HO107.out; subst eo89; have hcz90_0 : _ = some (Value.slice none 0 0) := bcE BK103.out 0; have hcz90_1 : _ = some (Value.slice none 0 0) := bcE BK103.out 1; have hcz90_2 : _ = some (Value.slice none 0 0) := bcE BK103.out 2; have hfz90_0 := qaa BK103.out 0; have hfz90_1 := qaa BK103.out 1; have hfz90_2 := qaa BK103.out 2; obtain ⟨Ao91, co91, eo91⟩ := Kd.R_slice HO110.out; subst eo91; obtain ⟨Ao92, co92, eo92⟩ := Kd.R_slice HO113.out; subst eo92))
  refine bodyPost_ret (qbd rfl _ _ gb103 31 #[.slice Ao89 t105.length co89, .slice Ao91 t108.length co91, .slice Ao92 t111.length co92] (0, 0) _ rfl (by refine au1 ?_; refine qam (cs := #[.slice Ao89 t105.length co89, .slice Ao91 t108.length co91, .slice none 0 0]) ?_ 2 _ rfl; refine au1 ?_; refine qam (cs := #[.slice Ao89 t105.length co89, .slice none 0 0, .slice none 0 0]) ?_ 1 _ rfl; refine au1 ?_; refine qam (cs := #[.slice none 0 0, .slice none 0 0, .slice none 0 0]) ?_ 0 _ rfl; refine au1 ?_; exact BK103.out) Try.underlying31 rfl (by kernel_rfl)) rfl ?_
  exact ⟨_, _, _, by first | rfl | (simp [qag, qah] <;> rfl) | (simp [*, qag, qah] <;> rfl), by refine au0 ?_; exact Kd.R_mono (Kd.R_far (p := ⟨gb103, 2, none⟩) (Kd.R_far (p := ⟨gb103, 1, none⟩) (Kd.R_far (p := ⟨gb103, 0, none⟩) (Kd.R_types HO107.out BK103.out (by decide)) k2E (.slice Ao89 t105.length co89)) k2E (.slice Ao91 t108.length co91)) k2E (.slice Ao92 t111.length co92)) (fun _ hk => hk.1), by refine au0 ?_; exact Kd.R_mono (Kd.R_far (p := ⟨gb103, 2, none⟩) (Kd.R_far (p := ⟨gb103, 1, none⟩) (Kd.R_far (p := ⟨gb103, 0, none⟩) (Kd.R_types HO110.out BK103.out (by decide)) k2E (.slice Ao89 t105.length co89)) k2E (.slice Ao91 t108.length co91)) k2E (.slice Ao92 t111.length co92)) (fun _ hk => hk.1), by refine au0 ?_; exact Kd.R_mono (Kd.R_far (p := ⟨gb103, 2, none⟩) (Kd.R_far (p := ⟨gb103, 1, none⟩) (Kd.R_far (p := ⟨gb103, 0, none⟩) (Kd.R_types HO113.out BK103.out (by decide)) k2E (.slice Ao89 t105.length co89)) k2E (.slice Ao91 t108.length co91)) k2E (.slice Ao92 t111.length co92)) (fun _ hk => trivial), (au11 HB.out GE101.out GE102.out GE103.out)⟩
set_option maxHeartbeats 8000000 in
set_option maxRecDepth 100000 in
theorem spec_l4Act.calls (k : Nat) (A0_0 : Option Addr) (c0_0 : Nat) (l0_0 : List (S80)) (A0_1 : Option Addr) (c0_1 : Nat) (l0_1 : List (S80)) (A0_2 : Option Addr) (c0_2 : Nat) (l0_2 : List (S73)) (a1_0 : Int) (a1_1 : ByteArray) (a1_2 : ByteArray) (a1_3 : ByteArray) (r1 : List (S80)) (r2 : List (S80)) (r3 : List (S73)) (r4 : Int) (w : World) (hr0_0 : Kd.C k80 w A0_0 l0_0.length l0_0) (hc0_0 : l0_0.length ≤ c0_0) (hr0_1 : Kd.C k80 w A0_1 l0_1.length l0_1) (hc0_1 : l0_1.length ≤ c0_1) (hr0_2 : Kd.C k73 w A0_2 l0_2.length l0_2) (hc0_2 : l0_2.length ≤ c0_2) (h : spec_l4Act.f k l0_0 l0_1 l0_2 a1_0 a1_1 a1_2 a1_3 = some (r1, r2, r3, r4)) :
 Calls Try.prog 65 #[.agg #[.slice A0_0 l0_0.length c0_0, .slice A0_1 l0_1.length c0_1, .slice A0_2 l0_2.length c0_2], .agg #[.int .i64 a1_0, .string a1_1, .string a1_2, .string a1_3]] w fun e w' => ∃ v0_ v1_ v2_ : Value, e = .returned (.tuple #[.agg #[v0_, v1_, v2_], .int .i64 r4]) ∧ Kd.V k80 80 w' w.heap.size (fun k_ => (w.heap.size ≤ k_)) v0_ r1 ∧ Kd.V k80 80 w' w.heap.size (fun k_ => (w.heap.size ≤ k_)) v1_ r2 ∧ Kd.V k73 73 w' w.heap.size (fun k_ => (w.heap.size ≤ k_)) v2_ r3 ∧ Below w.heap.size w w' := by
 exact (spec_l4Act.callsR k A0_0 c0_0 l0_0 A0_1 c0_1 l0_1 A0_2 c0_2 l0_2 a1_0 a1_1 a1_2 a1_3 r1 r2 r3 r4 w hr0_0 hc0_0 hr0_1 hc0_1 hr0_2 hc0_2 h).mono fun e w' ⟨v0_, v1_, v2_, he, hv0_, hv1_, hv2_, hb⟩ => ⟨v0_, v1_, v2_, he, Kd.R_V (Kd.R_mono (Kd.R_bound hv0_) (fun _ hk => hk.2.1)), Kd.R_V (Kd.R_mono (Kd.R_bound hv1_) (fun _ hk => hk.2.1)), Kd.R_V (Kd.R_mono (Kd.R_bound hv2_) (fun _ hk => hk.2.1)), hb⟩

end

section
mutual
def spec_Replace.j0 : Nat → ByteArray → ByteArray → Int → ByteArray → List (S80) → List (S80) → List (S73) → List (S80) → List (S80) → List (S73) → Option ((List (S80)) × (List (S80)) × (List (S73)) × Int)
 | 0, _, _, _, _, _, _, _, _, _, _ => none
 | k + 1, x1, x2, x9, x10, x102000, x102001, x102002, x105000, x105001, x105002 => if x9 = 0 then ((spec_l4Act.f k x105000 x105001 x105002 1 x10 (⟨#[]⟩ : ByteArray) x2).bind fun bt116 => (spec_Replace.j1 k x1 bt116.2.2.2 x10 x102000 x102001 x102002 bt116.1 bt116.2.1 bt116.2.2.1)) else (spec_Replace.j1 k x1 x9 x10 x102000 x102001 x102002 x105000 x105001 x105002)
def spec_Replace.j1 : Nat → ByteArray → Int → ByteArray → List (S80) → List (S80) → List (S73) → List (S80) → List (S80) → List (S73) → Option ((List (S80)) × (List (S80)) × (List (S73)) × Int)
 | 0, _, _, _, _, _, _, _, _, _ => none
 | k + 1, x1, x9, x10, x102000, x102001, x102002, x105000, x105001, x105002 => if x9 = 0 then ((spec_l4Act.f k x105000 x105001 x105002 2 x10 x1 (⟨#[]⟩ : ByteArray)).bind fun bt126 => (spec_Replace.j2 k bt126.2.2.2 x102000 x102001 x102002 bt126.1 bt126.2.1 bt126.2.2.1)) else (spec_Replace.j2 k x9 x102000 x102001 x102002 x105000 x105001 x105002)
def spec_Replace.j2 : Nat → Int → List (S80) → List (S80) → List (S73) → List (S80) → List (S80) → List (S73) → Option ((List (S80)) × (List (S80)) × (List (S73)) × Int)
 | 0, _, _, _, _, _, _, _ => none
 | k + 1, x9, x102000, x102001, x102002, x105000, x105001, x105002 => if x9 = 0 then ((spec_l4Copy.f x105000 x105001 x105002).bind fun bt136 => (some (bt136.1, bt136.2.1, bt136.2.2, 0))) else ((spec_l4Copy.f x102000 x102001 x102002).bind fun bt145 => (some (bt145.1, bt145.2.1, bt145.2.2, x9)))
end
def spec_Replace.f (k : Nat) (l0_0 : List (S80)) (l0_1 : List (S80)) (l0_2 : List (S73)) (a1 : ByteArray) (a2 : ByteArray) : Option ((List (S80)) × (List (S80)) × (List (S73)) × Int) := (spec_DiskOk.f k l0_0 l0_1 l0_2).bind fun t103 => (if t103 = true then (if a1.size + 4 ≤ 9223372036854775807 then ((spec_l4At.f k l0_0 (a1 ++ (⟨#[46, 110, 101, 119]⟩ : ByteArray))).bind fun t105 => (if t105 ≥ 0 then ((spec_l4Act.f k l0_0 l0_1 l0_2 3 (a1 ++ (⟨#[46, 110, 101, 119]⟩ : ByteArray)) (⟨#[]⟩ : ByteArray) (⟨#[]⟩ : ByteArray)).bind fun bt106 => (spec_Replace.j0 k a1 a2 bt106.2.2.2 (a1 ++ (⟨#[46, 110, 101, 119]⟩ : ByteArray)) l0_0 l0_1 l0_2 bt106.1 bt106.2.1 bt106.2.2.1)) else (spec_Replace.j0 k a1 a2 0 (a1 ++ (⟨#[46, 110, 101, 119]⟩ : ByteArray)) l0_0 l0_1 l0_2 l0_0 l0_1 l0_2))) else (none)) else (some (([] : List (S80)), ([] : List (S80)), ([] : List (S73)), 1)))
theorem spec_Replace.mono_l : ∀ k, (∀ y0 y1 y2 y3 y4 y5 y6 y7 y8 y9, LeO (spec_Replace.j0 k y0 y1 y2 y3 y4 y5 y6 y7 y8 y9) (spec_Replace.j0 (k + 1) y0 y1 y2 y3 y4 y5 y6 y7 y8 y9)) ∧ (∀ y0 y1 y2 y3 y4 y5 y6 y7 y8, LeO (spec_Replace.j1 k y0 y1 y2 y3 y4 y5 y6 y7 y8) (spec_Replace.j1 (k + 1) y0 y1 y2 y3 y4 y5 y6 y7 y8)) ∧ (∀ y0 y1 y2 y3 y4 y5 y6, LeO (spec_Replace.j2 k y0 y1 y2 y3 y4 y5 y6) (spec_Replace.j2 (k + 1) y0 y1 y2 y3 y4 y5 y6))
 | 0 => ⟨fun _ _ _ _ _ _ _ _ _ _ r h => by simp [spec_Replace.j0] at h, fun _ _ _ _ _ _ _ _ _ r h => by simp [spec_Replace.j1] at h, fun _ _ _ _ _ _ _ r h => by simp [spec_Replace.j2] at h⟩
 | k + 1 => by
  obtain ⟨ih0, ih1, ih2⟩ := spec_Replace.mono_l k
  refine ⟨?_, ?_, ?_⟩
  ·
   intro y0 y1 y2 y3 y4 y5 y6 y7 y8 y9
   unfold spec_Replace.j0
   repeat' first
   | (with_reducible exact ih0 _ _ _ _ _ _ _ _ _ _)
   | (with_reducible exact ih1 _ _ _ _ _ _ _ _ _)
   | (with_reducible exact ih2 _ _ _ _ _ _ _)
   | (with_reducible exact spec_DiskOk.mono _ _ _ _)
   | (with_reducible exact spec_l4Act.mono _ _ _ _ _ _ _ _)
   | (with_reducible exact spec_l4At.mono _ _ _)
   | (with_reducible exact LeO.refl _)
   | (with_reducible exact LeO.none _)
   | (with_reducible refine LeO.ite ?_ ?_)
   | (with_reducible refine LeO.bind ?_ (fun _ => ?_))
   | exact ih0 _ _ _ _ _ _ _ _ _ _
   | exact ih1 _ _ _ _ _ _ _ _ _
   | exact ih2 _ _ _ _ _ _ _
   | exact spec_DiskOk.mono _ _ _ _
   | exact spec_l4Act.mono _ _ _ _ _ _ _ _
   | exact spec_l4At.mono _ _ _
   | exact LeO.none _
   | refine LeO.ite ?_ ?_
   | refine LeO.bind ?_ (fun _ => ?_)
  ·
   intro y0 y1 y2 y3 y4 y5 y6 y7 y8
   unfold spec_Replace.j1
   repeat' first
   | (with_reducible exact ih0 _ _ _ _ _ _ _ _ _ _)
   | (with_reducible exact ih1 _ _ _ _ _ _ _ _ _)
   | (with_reducible exact ih2 _ _ _ _ _ _ _)
   | (with_reducible exact spec_DiskOk.mono _ _ _ _)
   | (with_reducible exact spec_l4Act.mono _ _ _ _ _ _ _ _)
   | (with_reducible exact spec_l4At.mono _ _ _)
   | (with_reducible exact LeO.refl _)
   | (with_reducible exact LeO.none _)
   | (with_reducible refine LeO.ite ?_ ?_)
   | (with_reducible refine LeO.bind ?_ (fun _ => ?_))
   | exact ih0 _ _ _ _ _ _ _ _ _ _
   | exact ih1 _ _ _ _ _ _ _ _ _
   | exact ih2 _ _ _ _ _ _ _
   | exact spec_DiskOk.mono _ _ _ _
   | exact spec_l4Act.mono _ _ _ _ _ _ _ _
   | exact spec_l4At.mono _ _ _
   | exact LeO.none _
   | refine LeO.ite ?_ ?_
   | refine LeO.bind ?_ (fun _ => ?_)
  ·
   intro y0 y1 y2 y3 y4 y5 y6
   unfold spec_Replace.j2
   repeat' first
   | (with_reducible exact ih0 _ _ _ _ _ _ _ _ _ _)
   | (with_reducible exact ih1 _ _ _ _ _ _ _ _ _)
   | (with_reducible exact ih2 _ _ _ _ _ _ _)
   | (with_reducible exact spec_DiskOk.mono _ _ _ _)
   | (with_reducible exact spec_l4Act.mono _ _ _ _ _ _ _ _)
   | (with_reducible exact spec_l4At.mono _ _ _)
   | (with_reducible exact LeO.refl _)
   | (with_reducible exact LeO.none _)
   | (with_reducible refine LeO.ite ?_ ?_)
   | (with_reducible refine LeO.bind ?_ (fun _ => ?_))
   | exact ih0 _ _ _ _ _ _ _ _ _ _
   | exact ih1 _ _ _ _ _ _ _ _ _
   | exact ih2 _ _ _ _ _ _ _
   | exact spec_DiskOk.mono _ _ _ _
   | exact spec_l4Act.mono _ _ _ _ _ _ _ _
   | exact spec_l4At.mono _ _ _
   | exact LeO.none _
   | refine LeO.ite ?_ ?_
   | refine LeO.bind ?_ (fun _ => ?_)
theorem spec_Replace.mono : ∀ a0 a1 a2 a3 a4 k, LeO (spec_Replace.f k a0 a1 a2 a3 a4) (spec_Replace.f (k + 1) a0 a1 a2 a3 a4) := by
 intro a0 a1 a2 a3 a4 k
 obtain ⟨ih0, ih1, ih2⟩ := spec_Replace.mono_l k
 unfold spec_Replace.f
 repeat' first
  | (with_reducible exact ih0 _ _ _ _ _ _ _ _ _ _)
  | (with_reducible exact ih1 _ _ _ _ _ _ _ _ _)
  | (with_reducible exact ih2 _ _ _ _ _ _ _)
  | (with_reducible exact spec_DiskOk.mono _ _ _ _)
  | (with_reducible exact spec_l4Act.mono _ _ _ _ _ _ _ _)
  | (with_reducible exact spec_l4At.mono _ _ _)
  | (with_reducible exact LeO.refl _)
  | (with_reducible exact LeO.none _)
  | (with_reducible refine LeO.ite ?_ ?_)
  | (with_reducible refine LeO.bind ?_ (fun _ => ?_))
  | exact ih0 _ _ _ _ _ _ _ _ _ _
  | exact ih1 _ _ _ _ _ _ _ _ _
  | exact ih2 _ _ _ _ _ _ _
  | exact spec_DiskOk.mono _ _ _ _
  | exact spec_l4Act.mono _ _ _ _ _ _ _ _
  | exact spec_l4At.mono _ _ _
  | exact LeO.none _
  | refine LeO.ite ?_ ?_
  | refine LeO.bind ?_ (fun _ => ?_)
set_option maxHeartbeats 8000000 in
set_option maxRecDepth 100000 in
theorem spec_Replace.calls (k : Nat) (P0_0_ : Nat → Prop) (A0_0 : Option Addr) (c0_0 : Nat) (l0_0 : List (S80)) (P0_1_ : Nat → Prop) (A0_1 : Option Addr) (c0_1 : Nat) (l0_1 : List (S80)) (P0_2_ : Nat → Prop) (A0_2 : Option Addr) (c0_2 : Nat) (l0_2 : List (S73)) (a1 : ByteArray) (a2 : ByteArray) (r1 : List (S80)) (r2 : List (S80)) (r3 : List (S73)) (r4 : Int) (w : World) (hs0_0 : Kd.V k80 80 w w.heap.size (fun k_ => P0_0_ k_) (.slice A0_0 l0_0.length c0_0) l0_0) (hs0_1 : Kd.V k80 80 w w.heap.size (fun k_ => P0_1_ k_) (.slice A0_1 l0_1.length c0_1) l0_1) (hs0_2 : Kd.V k73 73 w w.heap.size (fun k_ => P0_2_ k_) (.slice A0_2 l0_2.length c0_2) l0_2) (h : spec_Replace.f k l0_0 l0_1 l0_2 a1 a2 = some (r1, r2, r3, r4)) :
 Calls Try.prog 26 #[.agg #[.slice A0_0 l0_0.length c0_0, .slice A0_1 l0_1.length c0_1, .slice A0_2 l0_2.length c0_2], .string a1, .string a2] w fun e w' => ∃ v0_ v1_ v2_ : Value, e = .returned (.tuple #[.agg #[v0_, v1_, v2_], .int .i64 r4]) ∧ Kd.R k80 80 w' w.heap.size (fun k_ => (w.heap.size ≤ k_) ∧ some k_ ≠ (v1_ : Value).ownBlock) v0_ r1 ∧ Kd.R k80 80 w' w.heap.size (fun k_ => (w.heap.size ≤ k_) ∧ some k_ ≠ (v0_ : Value).ownBlock) v1_ r2 ∧ Kd.R k73 73 w' w.heap.size (fun k_ => (w.heap.size ≤ k_)) v2_ r3 ∧ Below w.heap.size w w' := by
 have hu31 := Try.underlying31
 have hu73 := Try.underlying73
 have HO0_0 := am (show Kd.V k80 80 w w.heap.size (fun k_ => ((P0_0_ k_ ∨ P0_1_ k_ ∨ P0_2_ k_) ∨ w.heap.size ≤ k_)) (.slice A0_0 l0_0.length c0_0) l0_0 from Kd.V_mono hs0_0 (fun k_ hk => .inl (.inl hk)))
 have HO0_1 := am (show Kd.V k80 80 w w.heap.size (fun k_ => ((P0_0_ k_ ∨ P0_1_ k_ ∨ P0_2_ k_) ∨ w.heap.size ≤ k_)) (.slice A0_1 l0_1.length c0_1) l0_1 from Kd.V_mono hs0_1 (fun k_ hk => .inl (.inr (.inl hk))))
 have HO0_2 := am (show Kd.V k73 73 w w.heap.size (fun k_ => ((P0_0_ k_ ∨ P0_1_ k_ ∨ P0_2_ k_) ∨ w.heap.size ≤ k_)) (.slice A0_2 l0_2.length c0_2) l0_2 from Kd.V_mono hs0_2 (fun k_ hk => .inl (.inr (.inr hk))))
 have HB := am (Below.refl w.heap.size w)
 have H : ((spec_DiskOk.f k l0_0 l0_1 l0_2).bind fun t103 => (if t103 = true then (if a1.size + 4 ≤ 9223372036854775807 then ((spec_l4At.f k l0_0 (a1 ++ (⟨#[46, 110, 101, 119]⟩ : ByteArray))).bind fun t105 => (if t105 ≥ 0 then ((spec_l4Act.f k l0_0 l0_1 l0_2 3 (a1 ++ (⟨#[46, 110, 101, 119]⟩ : ByteArray)) (⟨#[]⟩ : ByteArray) (⟨#[]⟩ : ByteArray)).bind fun bt106 => (spec_Replace.j0 k a1 a2 bt106.2.2.2 (a1 ++ (⟨#[46, 110, 101, 119]⟩ : ByteArray)) l0_0 l0_1 l0_2 bt106.1 bt106.2.1 bt106.2.2.1)) else (spec_Replace.j0 k a1 a2 0 (a1 ++ (⟨#[46, 110, 101, 119]⟩ : ByteArray)) l0_0 l0_1 l0_2 l0_0 l0_1 l0_2))) else (none)) else (some (([] : List (S80)), ([] : List (S80)), ([] : List (S73)), 1)))) = some (r1, r2, r3, r4) := h
 clear h
 replace H := Option.bind_eq_some_iff.mp H
 obtain ⟨t103, A40, H⟩ := H
 replace H : (if t103 = true then (if a1.size + 4 ≤ 9223372036854775807 then ((spec_l4At.f k l0_0 (a1 ++ (⟨#[46, 110, 101, 119]⟩ : ByteArray))).bind fun t105 => (if t105 ≥ 0 then ((spec_l4Act.f k l0_0 l0_1 l0_2 3 (a1 ++ (⟨#[46, 110, 101, 119]⟩ : ByteArray)) (⟨#[]⟩ : ByteArray) (⟨#[]⟩ : ByteArray)).bind fun bt106 => (spec_Replace.j0 k a1 a2 bt106.2.2.2 (a1 ++ (⟨#[46, 110, 101, 119]⟩ : ByteArray)) l0_0 l0_1 l0_2 bt106.1 bt106.2.1 bt106.2.2.1)) else (spec_Replace.j0 k a1 a2 0 (a1 ++ (⟨#[46, 110, 101, 119]⟩ : ByteArray)) l0_0 l0_1 l0_2 l0_0 l0_1 l0_2))) else (none)) else (some (([] : List (S80)), ([] : List (S80)), ([] : List (S73)), 1))) = some (r1, r2, r3, r4) := H
 have A4 := am A40
 clear A40
 by_cases c5 : t103 = true
 ·
  subst c5
  have H1 : (if a1.size + 4 ≤ 9223372036854775807 then ((spec_l4At.f k l0_0 (a1 ++ (⟨#[46, 110, 101, 119]⟩ : ByteArray))).bind fun t105 => (if t105 ≥ 0 then ((spec_l4Act.f k l0_0 l0_1 l0_2 3 (a1 ++ (⟨#[46, 110, 101, 119]⟩ : ByteArray)) (⟨#[]⟩ : ByteArray) (⟨#[]⟩ : ByteArray)).bind fun bt106 => (spec_Replace.j0 k a1 a2 bt106.2.2.2 (a1 ++ (⟨#[46, 110, 101, 119]⟩ : ByteArray)) l0_0 l0_1 l0_2 bt106.1 bt106.2.1 bt106.2.2.1)) else (spec_Replace.j0 k a1 a2 0 (a1 ++ (⟨#[46, 110, 101, 119]⟩ : ByteArray)) l0_0 l0_1 l0_2 l0_0 l0_1 l0_2))) else (none)) = some (r1, r2, r3, r4) := by rw [if_pos rfl] at H; exact H
  clear H
  have H := H1
  clear H1
  by_cases c6 : a1.size + 4 ≤ 9223372036854775807
  ·
   rw [if_pos c6] at H
   have c6b0 := eq_true c6
   have c6b1 : decide (a1.size + 4 ≤ 9223372036854775807) = true := decide_eq_true c6
   try have c6b2 : (9223372036854775807 < a1.size + 4) = False := eq_false (Nat.not_lt.2 c6)
   replace H := Option.bind_eq_some_iff.mp H
   obtain ⟨t105, A70, H⟩ := H
   replace H : (if t105 ≥ 0 then ((spec_l4Act.f k l0_0 l0_1 l0_2 3 (a1 ++ (⟨#[46, 110, 101, 119]⟩ : ByteArray)) (⟨#[]⟩ : ByteArray) (⟨#[]⟩ : ByteArray)).bind fun bt106 => (spec_Replace.j0 k a1 a2 bt106.2.2.2 (a1 ++ (⟨#[46, 110, 101, 119]⟩ : ByteArray)) l0_0 l0_1 l0_2 bt106.1 bt106.2.1 bt106.2.2.1)) else (spec_Replace.j0 k a1 a2 0 (a1 ++ (⟨#[46, 110, 101, 119]⟩ : ByteArray)) l0_0 l0_1 l0_2 l0_0 l0_1 l0_2)) = some (r1, r2, r3, r4) := H
   have A7 := am A70
   clear A70
   have HC8 := am H
   clear H
   go_enter Try.func26, Try.ntmps26
   go_upto_if 22 with (first | ((with_reducible refine qal (N := 3) rfl ?_); refine bxE (N := 3) (cs := #[.slice A0_0 l0_0.length c0_0, .slice A0_1 l0_1.length c0_1, .slice A0_2 l0_2.length c0_2]) (t := 31) ?_; intro gb101 hg w9 hbox hb; replace HO0_0 := am (Kd.V_below (Kd.V_elderB (au2 HO0_0.out) gb101 (Nat.le_of_eq hg.symm)) hb); replace HO0_1 := am (Kd.V_below (Kd.V_elderB (au2 HO0_1.out) gb101 (Nat.le_of_eq hg.symm)) hb); replace HO0_2 := am (Kd.V_below (Kd.V_elderB (au2 HO0_2.out) gb101 (Nat.le_of_eq hg.symm)) hb); have BK101 := am (hbox); have GW101 := am (sgE hg (au3 HB.out) : w.heap.size ≤ gb101); have GE101 := GW101; replace HB := am (qad (au3 HB.out) hb); clear hb hbox hg) | ((with_reducible refine qal (N := 6) rfl ?_); refine bxE (N := 6) (cs := #[.slice none 0 0, .slice none 0 0, .slice none 0 0]) (t := 31) ?_; intro gb102 hg w10 hbox hb; replace HO0_0 := am (Kd.V_below (Kd.V_elderB (au2 HO0_0.out) gb102 (Nat.le_of_eq hg.symm)) hb); replace HO0_1 := am (Kd.V_below (Kd.V_elderB (au2 HO0_1.out) gb102 (Nat.le_of_eq hg.symm)) hb); replace HO0_2 := am (Kd.V_below (Kd.V_elderB (au2 HO0_2.out) gb102 (Nat.le_of_eq hg.symm)) hb); have BK102 := am (hbox); have GW102 := am (sgE hg (au7 HB.out GE101.out) : w.heap.size ≤ gb102); have GE102 := GW102; replace HB := am (qad (au7 HB.out GE101.out) hb); have NB101_102 := am ((sltE hg (qan (au1 BK101.out)))); have NB102_101 := am ((sgtE hg (qan (au1 BK101.out)))); replace BK101 := am (qab (au1 BK101.out) hb); clear hb hbox hg; have hnb11 := NB101_102.out; have hnc11 := NB102_101.out; have hcz12_0 : _ = some (Value.slice A0_0 l0_0.length c0_0) := bcE BK101.out 0; have hcz12_1 : _ = some (Value.slice A0_1 l0_1.length c0_1) := bcE BK101.out 1; have hcz12_2 : _ = some (Value.slice A0_2 l0_2.length c0_2) := bcE BK101.out 2; have hfz12_0 := qaa BK101.out 0; have hfz12_1 := qaa BK101.out 1; have hfz12_2 := qaa BK101.out 2) | ((with_reducible refine qaj (f := 13) rfl ?_); refine qap (some 12) rfl rfl Try.func13 (by kernel_rfl) rfl #[.agg #[.slice A0_0 l0_0.length c0_0, .slice A0_1 l0_1.length c0_1, .slice A0_2 l0_2.length c0_2]] rfl au6 ?_; (with_reducible refine (spec_DiskOk.calls k _ _ l0_0 (fun k_ => ((((P0_0_ k_ ∨ P0_1_ k_ ∨ P0_2_ k_) ∨ w.heap.size ≤ k_) ∧ k_ ≠ gb101) ∧ k_ ≠ gb102)) _ _ l0_1 _ _ l0_2 true _ ?side1 ?side2 ?side3 ?side4 ?side5 A4.out).mono ?_); (case side1 => repeat (first | exact (Kd.V_reads' HO0_0.out).2.2 | (with_reducible refine Kd.C_alloc ?_ _) | (with_reducible refine Kd.C_drewN ?_ _) | (with_reducible refine Kd.C_drew ?_))); (case side2 => exact (Kd.V_reads' HO0_0.out).2.1); (case side3 => exact HO0_1.out); (case side4 => repeat (first | exact (Kd.V_reads' HO0_2.out).2.2 | (with_reducible refine Kd.C_alloc ?_ _) | (with_reducible refine Kd.C_drewN ?_ _) | (with_reducible refine Kd.C_drew ?_))); (case side5 => exact (Kd.V_reads' HO0_2.out).2.1); rintro e w13 ⟨rfl, hb⟩; refine ⟨_, rfl, ?_⟩; replace HO0_0 := am (Kd.V_below (au2 HO0_0.out) hb); replace HO0_1 := am (Kd.V_below (au2 HO0_1.out) hb); replace HO0_2 := am (Kd.V_below (au2 HO0_2.out) hb); replace BK101 := am (qab (au1 BK101.out) hb); replace BK102 := am (qab (au1 BK102.out) hb); replace HB := am (qad (au4 HB.out GE101.out GE102.out) hb); (try clear hb); (try clear hb2); (try clear hk); (try clear hi); have hcz14_0 : _ = some (Value.slice A0_0 l0_0.length c0_0) := bcE BK101.out 0; have hcz14_1 : _ = some (Value.slice A0_1 l0_1.length c0_1) := bcE BK101.out 1; have hcz14_2 : _ = some (Value.slice A0_2 l0_2.length c0_2) := bcE BK101.out 2; have hfz14_0 := qaa BK101.out 0; have hfz14_1 := qaa BK101.out 1; have hfz14_2 := qaa BK101.out 2) | ((with_reducible refine qal (N := 8) rfl ?_); refine bxE (N := 8) (cs := #[.slice none 0 0, .slice none 0 0, .slice none 0 0]) (t := 31) ?_; intro gb104 hg w15 hbox hb; replace HO0_0 := am (Kd.V_below (Kd.V_elderB (au2 HO0_0.out) gb104 (Nat.le_of_eq hg.symm)) hb); replace HO0_1 := am (Kd.V_below (Kd.V_elderB (au2 HO0_1.out) gb104 (Nat.le_of_eq hg.symm)) hb); replace HO0_2 := am (Kd.V_below (Kd.V_elderB (au2 HO0_2.out) gb104 (Nat.le_of_eq hg.symm)) hb); have BK104 := am (hbox); have GW104 := am (sgE hg (au4 HB.out GE101.out GE102.out) : w.heap.size ≤ gb104); have GE104 := GW104; replace HB := am (qad (au4 HB.out GE101.out GE102.out) hb); have NB101_104 := am ((sltE hg (qan (au1 BK101.out)))); have NB104_101 := am ((sgtE hg (qan (au1 BK101.out)))); replace BK101 := am (qab (au1 BK101.out) hb); have NB102_104 := am ((sltE hg (qan (au1 BK102.out)))); have NB104_102 := am ((sgtE hg (qan (au1 BK102.out)))); replace BK102 := am (qab (au1 BK102.out) hb); clear hb hbox hg; have hnb16 := NB104_101.out; have hnc16 := NB101_104.out; have hnb17 := NB104_102.out; have hnc17 := NB102_104.out; have hcz18_0 : _ = some (Value.slice none 0 0) := bcE BK104.out 0; have hcz18_1 : _ = some (Value.slice none 0 0) := bcE BK104.out 1; have hcz18_2 : _ = some (Value.slice none 0 0) := bcE BK104.out 2; have hfz18_0 := qaa BK104.out 0; have hfz18_1 := qaa BK104.out 1; have hfz18_2 := qaa BK104.out 2; have hcz19_0 : _ = some (Value.slice A0_0 l0_0.length c0_0) := bcE BK101.out 0; have hcz19_1 : _ = some (Value.slice A0_1 l0_1.length c0_1) := bcE BK101.out 1; have hcz19_2 : _ = some (Value.slice A0_2 l0_2.length c0_2) := bcE BK101.out 2; have hfz19_0 := qaa BK101.out 0; have hfz19_1 := qaa BK101.out 1; have hfz19_2 := qaa BK101.out 2) | ((with_reducible refine qaj (f := 52) rfl ?_); refine qap (some 21) rfl rfl Try.func52 (by kernel_rfl) rfl #[.slice A0_0 l0_0.length c0_0, .string (a1 ++ (⟨#[46, 110, 101, 119]⟩ : ByteArray))] rfl au6 ?_; (with_reducible refine (spec_l4At.calls k _ _ l0_0 (a1 ++ (⟨#[46, 110, 101, 119]⟩ : ByteArray)) t105 _ ?side1 ?side2 A7.out).mono ?_); (case side1 => exact (Kd.V_reads' (e := 80) (base := w.heap.size) (n := l0_0.length) (c := c0_0) (by refine au2 ?_; exact (Kd.V_mono (Kd.V_far (p := ⟨gb104, 2, none⟩) (Kd.V_far (p := ⟨gb104, 1, none⟩) (Kd.V_far (p := ⟨gb104, 0, none⟩) (Kd.V_mono HO0_0.out (fun k_ hk => (⟨hk, hk.2⟩ : _ ∧ k_ ≠ gb104))) k2E (.slice A0_0 l0_0.length c0_0)) k2E (.slice A0_1 l0_1.length c0_1)) k2E (.slice A0_2 l0_2.length c0_2)) k1E))).2.2); (case side2 => exact (Kd.V_reads' HO0_0.out).2.1); rintro e w' ⟨rfl, ⟨nd, rfl⟩⟩; refine ⟨_, rfl, ?_⟩))
   (try simp only [Act.put, qsA, qsZ, qsS])
   go_cut [9] (fun v9 wc => ∃ (kq : Nat) (x9_7 : Int) (x105000_7 : List (S80)) (x105001_7 : List (S80)) (x105002_7 : List (S73)) (u105000 : Value) (u105001 : Value) (u105002 : Value), v9 = .int .i64 x9_7 ∧ Aside0 (spec_Replace.j0 kq a1 a2 x9_7 (a1 ++ (⟨#[46, 110, 101, 119]⟩ : ByteArray)) l0_0 l0_1 l0_2 x105000_7 x105001_7 x105002_7 = some (r1, r2, r3, r4)) ∧ Aside0 (kq ≤ k) ∧ Aside0 (Kd.V k80 80 wc w.heap.size (fun k_ => ((P0_0_ k_ ∨ P0_1_ k_ ∨ P0_2_ k_) ∨ w.heap.size ≤ k_) ∧ k_ ≠ gb101 ∧ k_ ≠ gb102 ∧ k_ ≠ gb104) (.slice A0_0 l0_0.length c0_0) l0_0) ∧ Aside0 (Kd.V k80 80 wc w.heap.size (fun k_ => ((P0_0_ k_ ∨ P0_1_ k_ ∨ P0_2_ k_) ∨ w.heap.size ≤ k_) ∧ k_ ≠ gb101 ∧ k_ ≠ gb102 ∧ k_ ≠ gb104) (.slice A0_1 l0_1.length c0_1) l0_1) ∧ Aside0 (Kd.V k73 73 wc w.heap.size (fun k_ => ((P0_0_ k_ ∨ P0_1_ k_ ∨ P0_2_ k_) ∨ w.heap.size ≤ k_) ∧ k_ ≠ gb101 ∧ k_ ≠ gb102 ∧ k_ ≠ gb104) (.slice A0_2 l0_2.length c0_2) l0_2) ∧ Aside0 (Kd.V k80 80 wc w.heap.size (fun k_ => ((P0_0_ k_ ∨ P0_1_ k_ ∨ P0_2_ k_) ∨ w.heap.size ≤ k_) ∧ k_ ≠ gb101 ∧ k_ ≠ gb102 ∧ k_ ≠ gb104) u105000 x105000_7) ∧ Aside0 (Kd.V k80 80 wc w.heap.size (fun k_ => ((P0_0_ k_ ∨ P0_1_ k_ ∨ P0_2_ k_) ∨ w.heap.size ≤ k_) ∧ k_ ≠ gb101 ∧ k_ ≠ gb102 ∧ k_ ≠ gb104) u105001 x105001_7) ∧ Aside0 (Kd.V k73 73 wc w.heap.size (fun k_ => ((P0_0_ k_ ∨ P0_1_ k_ ∨ P0_2_ k_) ∨ w.heap.size ≤ k_) ∧ k_ ≠ gb101 ∧ k_ ≠ gb102 ∧ k_ ≠ gb104) u105002 x105002_7) ∧ Aside0 (wc.heap[gb101]? = some (.cells #[(.slice A0_0 l0_0.length c0_0), (.slice A0_1 l0_1.length c0_1), (.slice A0_2 l0_2.length c0_2)] 31 (0, 0))) ∧ Aside0 (wc.heap[gb102]? = some (.cells #[(.slice none 0 0), (.slice none 0 0), (.slice none 0 0)] 31 (0, 0))) ∧ Aside0 (wc.heap[gb104]? = some (.cells #[u105000, u105001, u105002] 31 (0, 0))) ∧ Aside0 (Below w.heap.size w wc))
   case first =>
    have H := HC8.out
    clear HC8
    by_cases c20 : t105 ≥ 0
    ·
     rw [if_pos c20] at H
     have c20b0 : decide (0 ≤ t105) = true := decide_eq_true c20
     clear c20
     (first | rw [c20b0] | (simp only [i64_w, i32_w]; rw [c20b0]) | skip)
     replace H := Option.bind_eq_some_iff.mp H
     obtain ⟨⟨t106, t109, t112, t115⟩, A210, H⟩ := H
     replace H : (spec_Replace.j0 k a1 a2 t115 (a1 ++ (⟨#[46, 110, 101, 119]⟩ : ByteArray)) l0_0 l0_1 l0_2 t106 t109 t112) = some (r1, r2, r3, r4) := H
     have A21 := am A210
     clear A210
     have H' := am H
     clear H
     have hnb22 := NB104_101.out
     have hnc22 := NB101_104.out
     have hnb23 := NB104_102.out
     have hnc23 := NB102_104.out
     have hcz24_0 : _ = some (Value.slice none 0 0) := bcE BK104.out 0
     have hcz24_1 : _ = some (Value.slice none 0 0) := bcE BK104.out 1
     have hcz24_2 : _ = some (Value.slice none 0 0) := bcE BK104.out 2
     have hfz24_0 := qaa BK104.out 0
     have hfz24_1 := qaa BK104.out 1
     have hfz24_2 := qaa BK104.out 2
     go_wp2_with (first | ((with_reducible refine qaj (f := 65) rfl ?_); refine qap (some 27) rfl rfl Try.func65 (by kernel_rfl) rfl #[.agg #[.slice A0_0 l0_0.length c0_0, .slice A0_1 l0_1.length c0_1, .slice A0_2 l0_2.length c0_2], .agg #[.int .i64 3, .string (a1 ++ (⟨#[46, 110, 101, 119]⟩ : ByteArray)), .string (⟨#[]⟩ : ByteArray), .string (⟨#[]⟩ : ByteArray)]] rfl au6 ?_; (with_reducible refine (spec_l4Act.calls k _ _ l0_0 _ _ l0_1 _ _ l0_2 3 (a1 ++ (⟨#[46, 110, 101, 119]⟩ : ByteArray)) (⟨#[]⟩ : ByteArray) (⟨#[]⟩ : ByteArray) t106 t109 t112 t115 _ ?side1 ?side2 ?side3 ?side4 ?side5 ?side6 A21.out).mono ?_); (case side1 => exact (Kd.V_reads' (e := 80) (base := w.heap.size) (n := l0_0.length) (c := c0_0) (by refine au2 ?_; exact (Kd.V_mono (Kd.V_far (p := ⟨gb104, 2, none⟩) (Kd.V_far (p := ⟨gb104, 1, none⟩) (Kd.V_far (p := ⟨gb104, 0, none⟩) (Kd.V_mono HO0_0.out (fun k_ hk => (⟨hk, hk.2⟩ : _ ∧ k_ ≠ gb104))) k2E (.slice A0_0 l0_0.length c0_0)) k2E (.slice A0_1 l0_1.length c0_1)) k2E (.slice A0_2 l0_2.length c0_2)) k1E))).2.2); (case side2 => exact (Kd.V_reads' HO0_0.out).2.1); (case side3 => exact (Kd.V_reads' (e := 80) (base := w.heap.size) (n := l0_1.length) (c := c0_1) (by refine au2 ?_; exact (Kd.V_mono (Kd.V_far (p := ⟨gb104, 2, none⟩) (Kd.V_far (p := ⟨gb104, 1, none⟩) (Kd.V_far (p := ⟨gb104, 0, none⟩) (Kd.V_mono HO0_1.out (fun k_ hk => (⟨hk, hk.2⟩ : _ ∧ k_ ≠ gb104))) k2E (.slice A0_0 l0_0.length c0_0)) k2E (.slice A0_1 l0_1.length c0_1)) k2E (.slice A0_2 l0_2.length c0_2)) k1E))).2.2); (case side4 => exact (Kd.V_reads' HO0_1.out).2.1); (case side5 => exact (Kd.V_reads' (e := 73) (base := w.heap.size) (n := l0_2.length) (c := c0_2) (by refine au2 ?_; exact (Kd.V_mono (Kd.V_far (p := ⟨gb104, 2, none⟩) (Kd.V_far (p := ⟨gb104, 1, none⟩) (Kd.V_far (p := ⟨gb104, 0, none⟩) (Kd.V_mono HO0_2.out (fun k_ hk => (⟨hk, hk.2⟩ : _ ∧ k_ ≠ gb104))) k2E (.slice A0_0 l0_0.length c0_0)) k2E (.slice A0_1 l0_1.length c0_1)) k2E (.slice A0_2 l0_2.length c0_2)) k1E))).2.2); (case side6 => exact (Kd.V_reads' HO0_2.out).2.1); rintro e w25 ⟨v107, v110, v113, rfl, ho0, ho1, ho2, hb⟩; refine ⟨_, rfl, ?_⟩; replace HO0_0 := am (Kd.V_below (by refine au2 ?_; exact (Kd.V_mono (Kd.V_far (p := ⟨gb104, 2, none⟩) (Kd.V_far (p := ⟨gb104, 1, none⟩) (Kd.V_far (p := ⟨gb104, 0, none⟩) (Kd.V_mono HO0_0.out (fun k_ hk => (⟨hk, hk.2⟩ : _ ∧ k_ ≠ gb104))) k2E (.slice A0_0 l0_0.length c0_0)) k2E (.slice A0_1 l0_1.length c0_1)) k2E (.slice A0_2 l0_2.length c0_2)) k1E)) hb); replace HO0_1 := am (Kd.V_below (by refine au2 ?_; exact (Kd.V_mono (Kd.V_far (p := ⟨gb104, 2, none⟩) (Kd.V_far (p := ⟨gb104, 1, none⟩) (Kd.V_far (p := ⟨gb104, 0, none⟩) (Kd.V_mono HO0_1.out (fun k_ hk => (⟨hk, hk.2⟩ : _ ∧ k_ ≠ gb104))) k2E (.slice A0_0 l0_0.length c0_0)) k2E (.slice A0_1 l0_1.length c0_1)) k2E (.slice A0_2 l0_2.length c0_2)) k1E)) hb); replace HO0_2 := am (Kd.V_below (by refine au2 ?_; exact (Kd.V_mono (Kd.V_far (p := ⟨gb104, 2, none⟩) (Kd.V_far (p := ⟨gb104, 1, none⟩) (Kd.V_far (p := ⟨gb104, 0, none⟩) (Kd.V_mono HO0_2.out (fun k_ hk => (⟨hk, hk.2⟩ : _ ∧ k_ ≠ gb104))) k2E (.slice A0_0 l0_0.length c0_0)) k2E (.slice A0_1 l0_1.length c0_1)) k2E (.slice A0_2 l0_2.length c0_2)) k1E)) hb); have HO108 := am (Kd.V_lower (Kd.V_mono (ok' := fun k_ => ((P0_0_ k_ ∨ P0_1_ k_ ∨ P0_2_ k_) ∨ w.heap.size ≤ k_) ∧ k_ ≠ gb101 ∧ k_ ≠ gb102 ∧ k_ ≠ gb104) ho0 (fun k_ hk_ => ⟨(.inr (Nat.le_trans (qaf (au11 HB.out GE101.out GE102.out GE104.out)) hk_)), (Kd.freshB (g := gb101) (o := .cells #[.slice A0_0 l0_0.length c0_0, .slice A0_1 l0_1.length c0_1, .slice A0_2 l0_2.length c0_2] 31 (0, 0)) (au14 NB101_104.out BK101.out) k_ hk_), (Kd.freshB (g := gb102) (o := .cells #[.slice none 0 0, .slice none 0 0, .slice none 0 0] 31 (0, 0)) (au14 NB102_104.out BK102.out) k_ hk_), (Kd.freshB (g := gb104) (o := .cells #[.slice A0_0 l0_0.length c0_0, .slice A0_1 l0_1.length c0_1, .slice A0_2 l0_2.length c0_2] 31 (0, 0)) (by refine au1 ?_; refine qam (cs := #[.slice A0_0 l0_0.length c0_0, .slice A0_1 l0_1.length c0_1, .slice none 0 0]) ?_ 2 _ rfl; refine au1 ?_; refine qam (cs := #[.slice A0_0 l0_0.length c0_0, .slice none 0 0, .slice none 0 0]) ?_ 1 _ rfl; refine au1 ?_; refine qam (cs := #[.slice none 0 0, .slice none 0 0, .slice none 0 0]) ?_ 0 _ rfl; refine au1 ?_; exact BK104.out) k_ hk_)⟩)) (qaf (au11 HB.out GE101.out GE102.out GE104.out))); have HO111 := am (Kd.V_lower (Kd.V_mono (ok' := fun k_ => ((P0_0_ k_ ∨ P0_1_ k_ ∨ P0_2_ k_) ∨ w.heap.size ≤ k_) ∧ k_ ≠ gb101 ∧ k_ ≠ gb102 ∧ k_ ≠ gb104) ho1 (fun k_ hk_ => ⟨(.inr (Nat.le_trans (qaf (au11 HB.out GE101.out GE102.out GE104.out)) hk_)), (Kd.freshB (g := gb101) (o := .cells #[.slice A0_0 l0_0.length c0_0, .slice A0_1 l0_1.length c0_1, .slice A0_2 l0_2.length c0_2] 31 (0, 0)) (au14 NB101_104.out BK101.out) k_ hk_), (Kd.freshB (g := gb102) (o := .cells #[.slice none 0 0, .slice none 0 0, .slice none 0 0] 31 (0, 0)) (au14 NB102_104.out BK102.out) k_ hk_), (Kd.freshB (g := gb104) (o := .cells #[.slice A0_0 l0_0.length c0_0, .slice A0_1 l0_1.length c0_1, .slice A0_2 l0_2.length c0_2] 31 (0, 0)) (by refine au1 ?_; refine qam (cs := #[.slice A0_0 l0_0.length c0_0, .slice A0_1 l0_1.length c0_1, .slice none 0 0]) ?_ 2 _ rfl; refine au1 ?_; refine qam (cs := #[.slice A0_0 l0_0.length c0_0, .slice none 0 0, .slice none 0 0]) ?_ 1 _ rfl; refine au1 ?_; refine qam (cs := #[.slice none 0 0, .slice none 0 0, .slice none 0 0]) ?_ 0 _ rfl; refine au1 ?_; exact BK104.out) k_ hk_)⟩)) (qaf (au11 HB.out GE101.out GE102.out GE104.out))); have HO114 := am (Kd.V_lower (Kd.V_mono (ok' := fun k_ => ((P0_0_ k_ ∨ P0_1_ k_ ∨ P0_2_ k_) ∨ w.heap.size ≤ k_) ∧ k_ ≠ gb101 ∧ k_ ≠ gb102 ∧ k_ ≠ gb104) ho2 (fun k_ hk_ => ⟨(.inr (Nat.le_trans (qaf (au11 HB.out GE101.out GE102.out GE104.out)) hk_)), (Kd.freshB (g := gb101) (o := .cells #[.slice A0_0 l0_0.length c0_0, .slice A0_1 l0_1.length c0_1, .slice A0_2 l0_2.length c0_2] 31 (0, 0)) (au14 NB101_104.out BK101.out) k_ hk_), (Kd.freshB (g := gb102) (o := .cells #[.slice none 0 0, .slice none 0 0, .slice none 0 0] 31 (0, 0)) (au14 NB102_104.out BK102.out) k_ hk_), (Kd.freshB (g := gb104) (o := .cells #[.slice A0_0 l0_0.length c0_0, .slice A0_1 l0_1.length c0_1, .slice A0_2 l0_2.length c0_2] 31 (0, 0)) (by refine au1 ?_; refine qam (cs := #[.slice A0_0 l0_0.length c0_0, .slice A0_1 l0_1.length c0_1, .slice none 0 0]) ?_ 2 _ rfl; refine au1 ?_; refine qam (cs := #[.slice A0_0 l0_0.length c0_0, .slice none 0 0, .slice none 0 0]) ?_ 1 _ rfl; refine au1 ?_; refine qam (cs := #[.slice none 0 0, .slice none 0 0, .slice none 0 0]) ?_ 0 _ rfl; refine au1 ?_; exact BK104.out) k_ hk_)⟩)) (qaf (au11 HB.out GE101.out GE102.out GE104.out))); replace BK101 := am (qab (g := gb101) (o := .cells #[.slice A0_0 l0_0.length c0_0, .slice A0_1 l0_1.length c0_1, .slice A0_2 l0_2.length c0_2] 31 (0, 0)) (au14 NB101_104.out BK101.out) hb); replace BK102 := am (qab (g := gb102) (o := .cells #[.slice none 0 0, .slice none 0 0, .slice none 0 0] 31 (0, 0)) (au14 NB102_104.out BK102.out) hb); replace BK104 := am (qab (g := gb104) (o := .cells #[.slice A0_0 l0_0.length c0_0, .slice A0_1 l0_1.length c0_1, .slice A0_2 l0_2.length c0_2] 31 (0, 0)) (by refine au1 ?_; refine qam (cs := #[.slice A0_0 l0_0.length c0_0, .slice A0_1 l0_1.length c0_1, .slice none 0 0]) ?_ 2 _ rfl; refine au1 ?_; refine qam (cs := #[.slice A0_0 l0_0.length c0_0, .slice none 0 0, .slice none 0 0]) ?_ 1 _ rfl; refine au1 ?_; refine qam (cs := #[.slice none 0 0, .slice none 0 0, .slice none 0 0]) ?_ 0 _ rfl; refine au1 ?_; exact BK104.out) hb); replace HB := am (qad (au11 HB.out GE101.out GE102.out GE104.out) hb); (try clear hb); (try clear hb2); (try clear hk); (try clear hi); (try clear ho0); (try clear ho1); (try clear ho2); obtain ⟨Ao26, co26, eo26⟩ := Kd.V_slice HO108.out; subst eo26; have hcz27_0 : _ = some (Value.slice A0_0 l0_0.length c0_0) := bcE BK104.out 0; have hcz27_1 : _ = some (Value.slice A0_1 l0_1.length c0_1) := bcE BK104.out 1; have hcz27_2 : _ = some (Value.slice A0_2 l0_2.length c0_2) := bcE BK104.out 2; have hfz27_0 := qaa BK104.out 0; have hfz27_1 := qaa BK104.out 1; have hfz27_2 := qaa BK104.out 2; obtain ⟨Ao28, co28, eo28⟩ := Kd.V_slice HO111.out; subst eo28; obtain ⟨Ao29, co29, eo29⟩ := Kd.V_slice HO114.out; subst eo29))
     go_meet
     case rel => exact ⟨_, (t115), (t106), (t109), (t112), (.slice Ao26 t106.length co26), (.slice Ao28 t109.length co28), (.slice Ao29 t112.length co29), au10, H', ⟨by first | omega | exact Nat.le_refl _⟩, ⟨by refine au2 ?_; exact Kd.V_mono (Kd.V_far (p := ⟨gb104, 2, none⟩) (Kd.V_far (p := ⟨gb104, 1, none⟩) (Kd.V_far (p := ⟨gb104, 0, none⟩) (Kd.V_mono HO0_0.out (fun k_ hk => (⟨hk, hk.2⟩ : _ ∧ k_ ≠ gb104))) k2E (.slice Ao26 t106.length co26)) k2E (.slice Ao28 t109.length co28)) k2E (.slice Ao29 t112.length co29)) (fun _ hk => ⟨hk.1.1.1.1, ⟨hk.1.1.1.2, ⟨hk.1.1.2, hk.1.2⟩⟩⟩)⟩, ⟨by refine au2 ?_; exact Kd.V_mono (Kd.V_far (p := ⟨gb104, 2, none⟩) (Kd.V_far (p := ⟨gb104, 1, none⟩) (Kd.V_far (p := ⟨gb104, 0, none⟩) (Kd.V_mono HO0_1.out (fun k_ hk => (⟨hk, hk.2⟩ : _ ∧ k_ ≠ gb104))) k2E (.slice Ao26 t106.length co26)) k2E (.slice Ao28 t109.length co28)) k2E (.slice Ao29 t112.length co29)) (fun _ hk => ⟨hk.1.1.1.1, ⟨hk.1.1.1.2, ⟨hk.1.1.2, hk.1.2⟩⟩⟩)⟩, ⟨by refine au2 ?_; exact Kd.V_mono (Kd.V_far (p := ⟨gb104, 2, none⟩) (Kd.V_far (p := ⟨gb104, 1, none⟩) (Kd.V_far (p := ⟨gb104, 0, none⟩) (Kd.V_mono HO0_2.out (fun k_ hk => (⟨hk, hk.2⟩ : _ ∧ k_ ≠ gb104))) k2E (.slice Ao26 t106.length co26)) k2E (.slice Ao28 t109.length co28)) k2E (.slice Ao29 t112.length co29)) (fun _ hk => ⟨hk.1.1.1.1, ⟨hk.1.1.1.2, ⟨hk.1.1.2, hk.1.2⟩⟩⟩)⟩, ⟨by refine au2 ?_; exact Kd.V_mono (Kd.V_far (p := ⟨gb104, 2, none⟩) (Kd.V_far (p := ⟨gb104, 1, none⟩) (Kd.V_far (p := ⟨gb104, 0, none⟩) (Kd.V_mono HO108.out (fun k_ hk => (⟨hk, hk.2.2.2⟩ : _ ∧ k_ ≠ gb104))) k2E (.slice Ao26 t106.length co26)) k2E (.slice Ao28 t109.length co28)) k2E (.slice Ao29 t112.length co29)) (fun _ hk => ⟨hk.1.1, ⟨hk.1.2.1, ⟨hk.1.2.2.1, hk.1.2.2.2⟩⟩⟩)⟩, ⟨by refine au2 ?_; exact Kd.V_mono (Kd.V_far (p := ⟨gb104, 2, none⟩) (Kd.V_far (p := ⟨gb104, 1, none⟩) (Kd.V_far (p := ⟨gb104, 0, none⟩) (Kd.V_mono HO111.out (fun k_ hk => (⟨hk, hk.2.2.2⟩ : _ ∧ k_ ≠ gb104))) k2E (.slice Ao26 t106.length co26)) k2E (.slice Ao28 t109.length co28)) k2E (.slice Ao29 t112.length co29)) (fun _ hk => ⟨hk.1.1, ⟨hk.1.2.1, ⟨hk.1.2.2.1, hk.1.2.2.2⟩⟩⟩)⟩, ⟨by refine au2 ?_; exact Kd.V_mono (Kd.V_far (p := ⟨gb104, 2, none⟩) (Kd.V_far (p := ⟨gb104, 1, none⟩) (Kd.V_far (p := ⟨gb104, 0, none⟩) (Kd.V_mono HO114.out (fun k_ hk => (⟨hk, hk.2.2.2⟩ : _ ∧ k_ ≠ gb104))) k2E (.slice Ao26 t106.length co26)) k2E (.slice Ao28 t109.length co28)) k2E (.slice Ao29 t112.length co29)) (fun _ hk => ⟨hk.1.1, ⟨hk.1.2.1, ⟨hk.1.2.2.1, hk.1.2.2.2⟩⟩⟩)⟩, ⟨by refine au1 ?_; refine qas ?_ NB101_104.out _; refine au1 ?_; refine qas ?_ NB101_104.out _; refine au1 ?_; refine qas ?_ NB101_104.out _; refine au1 ?_; exact BK101.out⟩, ⟨by refine au1 ?_; refine qas ?_ NB102_104.out _; refine au1 ?_; refine qas ?_ NB102_104.out _; refine au1 ?_; refine qas ?_ NB102_104.out _; refine au1 ?_; exact BK102.out⟩, ⟨by refine au1 ?_; refine qam (cs := #[.slice Ao26 t106.length co26, .slice Ao28 t109.length co28, .slice A0_2 l0_2.length c0_2]) ?_ 2 _ rfl; refine au1 ?_; refine qam (cs := #[.slice Ao26 t106.length co26, .slice A0_1 l0_1.length c0_1, .slice A0_2 l0_2.length c0_2]) ?_ 1 _ rfl; refine au1 ?_; refine qam (cs := #[.slice A0_0 l0_0.length c0_0, .slice A0_1 l0_1.length c0_1, .slice A0_2 l0_2.length c0_2]) ?_ 0 _ rfl; refine au1 ?_; exact BK104.out⟩, ⟨(au11 HB.out GE101.out GE102.out GE104.out)⟩⟩
    ·
     rw [if_neg c20] at H
     have c20b0 : decide (0 ≤ t105) = false := decide_eq_false c20
     clear c20
     (first | rw [c20b0] | (simp only [i64_w, i32_w]; rw [c20b0]) | skip)
     have H' := am H
     clear H
     go_wp2
     go_meet
     case rel => exact ⟨_, (0), (l0_0), (l0_1), (l0_2), (.slice A0_0 l0_0.length c0_0), (.slice A0_1 l0_1.length c0_1), (.slice A0_2 l0_2.length c0_2), au10, H', ⟨by first | omega | exact Nat.le_refl _⟩, ⟨by refine au2 ?_; exact Kd.V_mono (Kd.V_far (p := ⟨gb104, 2, none⟩) (Kd.V_far (p := ⟨gb104, 1, none⟩) (Kd.V_far (p := ⟨gb104, 0, none⟩) (Kd.V_mono HO0_0.out (fun k_ hk => (⟨hk, hk.2⟩ : _ ∧ k_ ≠ gb104))) k2E (.slice A0_0 l0_0.length c0_0)) k2E (.slice A0_1 l0_1.length c0_1)) k2E (.slice A0_2 l0_2.length c0_2)) (fun _ hk => ⟨hk.1.1.1.1, ⟨hk.1.1.1.2, ⟨hk.1.1.2, hk.1.2⟩⟩⟩)⟩, ⟨by refine au2 ?_; exact Kd.V_mono (Kd.V_far (p := ⟨gb104, 2, none⟩) (Kd.V_far (p := ⟨gb104, 1, none⟩) (Kd.V_far (p := ⟨gb104, 0, none⟩) (Kd.V_mono HO0_1.out (fun k_ hk => (⟨hk, hk.2⟩ : _ ∧ k_ ≠ gb104))) k2E (.slice A0_0 l0_0.length c0_0)) k2E (.slice A0_1 l0_1.length c0_1)) k2E (.slice A0_2 l0_2.length c0_2)) (fun _ hk => ⟨hk.1.1.1.1, ⟨hk.1.1.1.2, ⟨hk.1.1.2, hk.1.2⟩⟩⟩)⟩, ⟨by refine au2 ?_; exact Kd.V_mono (Kd.V_far (p := ⟨gb104, 2, none⟩) (Kd.V_far (p := ⟨gb104, 1, none⟩) (Kd.V_far (p := ⟨gb104, 0, none⟩) (Kd.V_mono HO0_2.out (fun k_ hk => (⟨hk, hk.2⟩ : _ ∧ k_ ≠ gb104))) k2E (.slice A0_0 l0_0.length c0_0)) k2E (.slice A0_1 l0_1.length c0_1)) k2E (.slice A0_2 l0_2.length c0_2)) (fun _ hk => ⟨hk.1.1.1.1, ⟨hk.1.1.1.2, ⟨hk.1.1.2, hk.1.2⟩⟩⟩)⟩, ⟨by refine au2 ?_; exact Kd.V_mono (Kd.V_far (p := ⟨gb104, 2, none⟩) (Kd.V_far (p := ⟨gb104, 1, none⟩) (Kd.V_far (p := ⟨gb104, 0, none⟩) (Kd.V_mono HO0_0.out (fun k_ hk => (⟨hk, hk.2⟩ : _ ∧ k_ ≠ gb104))) k2E (.slice A0_0 l0_0.length c0_0)) k2E (.slice A0_1 l0_1.length c0_1)) k2E (.slice A0_2 l0_2.length c0_2)) (fun _ hk => ⟨hk.1.1.1.1, ⟨hk.1.1.1.2, ⟨hk.1.1.2, hk.1.2⟩⟩⟩)⟩, ⟨by refine au2 ?_; exact Kd.V_mono (Kd.V_far (p := ⟨gb104, 2, none⟩) (Kd.V_far (p := ⟨gb104, 1, none⟩) (Kd.V_far (p := ⟨gb104, 0, none⟩) (Kd.V_mono HO0_1.out (fun k_ hk => (⟨hk, hk.2⟩ : _ ∧ k_ ≠ gb104))) k2E (.slice A0_0 l0_0.length c0_0)) k2E (.slice A0_1 l0_1.length c0_1)) k2E (.slice A0_2 l0_2.length c0_2)) (fun _ hk => ⟨hk.1.1.1.1, ⟨hk.1.1.1.2, ⟨hk.1.1.2, hk.1.2⟩⟩⟩)⟩, ⟨by refine au2 ?_; exact Kd.V_mono (Kd.V_far (p := ⟨gb104, 2, none⟩) (Kd.V_far (p := ⟨gb104, 1, none⟩) (Kd.V_far (p := ⟨gb104, 0, none⟩) (Kd.V_mono HO0_2.out (fun k_ hk => (⟨hk, hk.2⟩ : _ ∧ k_ ≠ gb104))) k2E (.slice A0_0 l0_0.length c0_0)) k2E (.slice A0_1 l0_1.length c0_1)) k2E (.slice A0_2 l0_2.length c0_2)) (fun _ hk => ⟨hk.1.1.1.1, ⟨hk.1.1.1.2, ⟨hk.1.1.2, hk.1.2⟩⟩⟩)⟩, ⟨by refine au1 ?_; refine qas ?_ NB101_104.out _; refine au1 ?_; refine qas ?_ NB101_104.out _; refine au1 ?_; refine qas ?_ NB101_104.out _; refine au1 ?_; exact BK101.out⟩, ⟨by refine au1 ?_; refine qas ?_ NB102_104.out _; refine au1 ?_; refine qas ?_ NB102_104.out _; refine au1 ?_; refine qas ?_ NB102_104.out _; refine au1 ?_; exact BK102.out⟩, ⟨by refine au1 ?_; refine qam (cs := #[.slice A0_0 l0_0.length c0_0, .slice A0_1 l0_1.length c0_1, .slice none 0 0]) ?_ 2 _ rfl; refine au1 ?_; refine qam (cs := #[.slice A0_0 l0_0.length c0_0, .slice none 0 0, .slice none 0 0]) ?_ 1 _ rfl; refine au1 ?_; refine qam (cs := #[.slice none 0 0, .slice none 0 0, .slice none 0 0]) ?_ 0 _ rfl; refine au1 ?_; exact BK104.out⟩, ⟨(au11 HB.out GE101.out GE102.out GE104.out)⟩⟩
   case rest =>
    clear HC8
    obtain ⟨kq, x9_7, x105000_7, x105001_7, x105002_7, u105000, u105001, u105002, rfl, HA, HJ7, HO_102000, HO_102001, HO_102002, HO_105000, HO_105001, HO_105002, BK101, BK102, BK104, HB⟩ := hcut
    cases kq with
    | zero => exact absurd HA.out (by simp [spec_Replace.j0])
    | succ kj7 =>
     have H := HA.out
     clear HA
     simp only [spec_Replace.j0] at H
     have HC30 := am H
     clear H
     go_upto_if 31 with (fail)
     go_cut [9] (fun v9 wc => ∃ (kq : Nat) (x9_29 : Int) (x105000_29 : List (S80)) (x105001_29 : List (S80)) (x105002_29 : List (S73)) (u105000 : Value) (u105001 : Value) (u105002 : Value), v9 = .int .i64 x9_29 ∧ Aside0 (spec_Replace.j1 kq a1 x9_29 (a1 ++ (⟨#[46, 110, 101, 119]⟩ : ByteArray)) l0_0 l0_1 l0_2 x105000_29 x105001_29 x105002_29 = some (r1, r2, r3, r4)) ∧ Aside0 (kq ≤ kj7) ∧ Aside0 (Kd.V k80 80 wc w.heap.size (fun k_ => ((P0_0_ k_ ∨ P0_1_ k_ ∨ P0_2_ k_) ∨ w.heap.size ≤ k_) ∧ k_ ≠ gb101 ∧ k_ ≠ gb102 ∧ k_ ≠ gb104) (.slice A0_0 l0_0.length c0_0) l0_0) ∧ Aside0 (Kd.V k80 80 wc w.heap.size (fun k_ => ((P0_0_ k_ ∨ P0_1_ k_ ∨ P0_2_ k_) ∨ w.heap.size ≤ k_) ∧ k_ ≠ gb101 ∧ k_ ≠ gb102 ∧ k_ ≠ gb104) (.slice A0_1 l0_1.length c0_1) l0_1) ∧ Aside0 (Kd.V k73 73 wc w.heap.size (fun k_ => ((P0_0_ k_ ∨ P0_1_ k_ ∨ P0_2_ k_) ∨ w.heap.size ≤ k_) ∧ k_ ≠ gb101 ∧ k_ ≠ gb102 ∧ k_ ≠ gb104) (.slice A0_2 l0_2.length c0_2) l0_2) ∧ Aside0 (Kd.V k80 80 wc w.heap.size (fun k_ => ((P0_0_ k_ ∨ P0_1_ k_ ∨ P0_2_ k_) ∨ w.heap.size ≤ k_) ∧ k_ ≠ gb101 ∧ k_ ≠ gb102 ∧ k_ ≠ gb104) u105000 x105000_29) ∧ Aside0 (Kd.V k80 80 wc w.heap.size (fun k_ => ((P0_0_ k_ ∨ P0_1_ k_ ∨ P0_2_ k_) ∨ w.heap.size ≤ k_) ∧ k_ ≠ gb101 ∧ k_ ≠ gb102 ∧ k_ ≠ gb104) u105001 x105001_29) ∧ Aside0 (Kd.V k73 73 wc w.heap.size (fun k_ => ((P0_0_ k_ ∨ P0_1_ k_ ∨ P0_2_ k_) ∨ w.heap.size ≤ k_) ∧ k_ ≠ gb101 ∧ k_ ≠ gb102 ∧ k_ ≠ gb104) u105002 x105002_29) ∧ Aside0 (wc.heap[gb101]? = some (.cells #[(.slice A0_0 l0_0.length c0_0), (.slice A0_1 l0_1.length c0_1), (.slice A0_2 l0_2.length c0_2)] 31 (0, 0))) ∧ Aside0 (wc.heap[gb102]? = some (.cells #[(.slice none 0 0), (.slice none 0 0), (.slice none 0 0)] 31 (0, 0))) ∧ Aside0 (wc.heap[gb104]? = some (.cells #[u105000, u105001, u105002] 31 (0, 0))) ∧ Aside0 (Below w.heap.size w wc))
     case first =>
      have H := HC30.out
      clear HC30
      by_cases c31 : x9_7 = 0
      ·
       rw [if_pos c31] at H
       have c31b0 : (x9_7 == 0) = true := beq_iff_eq.mpr c31
       have c31b1 : (x9_7 != 0) = false := bne_eq_false_iff_eq.mpr c31
       clear c31
       (first | rw [c31b0] | (simp only [i64_w, i32_w]; rw [c31b0]) | skip)
       replace H := Option.bind_eq_some_iff.mp H
       obtain ⟨⟨t116, t119, t122, t125⟩, A320, H⟩ := H
       replace H : (spec_Replace.j1 kj7 a1 t125 (a1 ++ (⟨#[46, 110, 101, 119]⟩ : ByteArray)) l0_0 l0_1 l0_2 t116 t119 t122) = some (r1, r2, r3, r4) := H
       have A32 := am A320
       clear A320
       have H' := am H
       clear H
       have hnb33 := NB104_101.out
       have hnc33 := NB101_104.out
       have hnb34 := NB104_102.out
       have hnc34 := NB102_104.out
       have hcz35_0 : _ = some (u105000) := bcE BK104.out 0
       have hcz35_1 : _ = some (u105001) := bcE BK104.out 1
       have hcz35_2 : _ = some (u105002) := bcE BK104.out 2
       have hfz35_0 := qaa BK104.out 0
       have hfz35_1 := qaa BK104.out 1
       have hfz35_2 := qaa BK104.out 2
       obtain ⟨Ao36, co36, eo36⟩ := Kd.V_slice HO_105000.out
       subst eo36
       obtain ⟨Ao37, co37, eo37⟩ := Kd.V_slice HO_105001.out
       subst eo37
       obtain ⟨Ao38, co38, eo38⟩ := Kd.V_slice HO_105002.out
       subst eo38
       go_wp2_with (first | ((with_reducible refine qaj (f := 65) rfl ?_); refine qap (some 37) rfl rfl Try.func65 (by kernel_rfl) rfl #[.agg #[.slice Ao36 x105000_7.length co36, .slice Ao37 x105001_7.length co37, .slice Ao38 x105002_7.length co38], .agg #[.int .i64 1, .string (a1 ++ (⟨#[46, 110, 101, 119]⟩ : ByteArray)), .string (⟨#[]⟩ : ByteArray), .string a2]] rfl au6 ?_; (with_reducible refine (spec_l4Act.calls kj7 _ _ x105000_7 _ _ x105001_7 _ _ x105002_7 1 (a1 ++ (⟨#[46, 110, 101, 119]⟩ : ByteArray)) (⟨#[]⟩ : ByteArray) a2 t116 t119 t122 t125 _ ?side1 ?side2 ?side3 ?side4 ?side5 ?side6 A32.out).mono ?_); (case side1 => repeat (first | exact (Kd.V_reads' HO_105000.out).2.2 | (with_reducible refine Kd.C_alloc ?_ _) | (with_reducible refine Kd.C_drewN ?_ _) | (with_reducible refine Kd.C_drew ?_))); (case side2 => exact (Kd.V_reads' HO_105000.out).2.1); (case side3 => repeat (first | exact (Kd.V_reads' HO_105001.out).2.2 | (with_reducible refine Kd.C_alloc ?_ _) | (with_reducible refine Kd.C_drewN ?_ _) | (with_reducible refine Kd.C_drew ?_))); (case side4 => exact (Kd.V_reads' HO_105001.out).2.1); (case side5 => repeat (first | exact (Kd.V_reads' HO_105002.out).2.2 | (with_reducible refine Kd.C_alloc ?_ _) | (with_reducible refine Kd.C_drewN ?_ _) | (with_reducible refine Kd.C_drew ?_))); (case side6 => exact (Kd.V_reads' HO_105002.out).2.1); rintro e w39 ⟨v117, v120, v123, rfl, ho0, ho1, ho2, hb⟩; refine ⟨_, rfl, ?_⟩; replace HO_102000 := am (Kd.V_below (au2 HO_102000.out) hb); replace HO_102001 := am (Kd.V_below (au2 HO_102001.out) hb); replace HO_102002 := am (Kd.V_below (au2 HO_102002.out) hb); replace HO_105000 := am (Kd.V_below (au2 HO_105000.out) hb); replace HO_105001 := am (Kd.V_below (au2 HO_105001.out) hb); replace HO_105002 := am (Kd.V_below (au2 HO_105002.out) hb); have HO118 := am (Kd.V_lower (Kd.V_mono (ok' := fun k_ => ((P0_0_ k_ ∨ P0_1_ k_ ∨ P0_2_ k_) ∨ w.heap.size ≤ k_) ∧ k_ ≠ gb101 ∧ k_ ≠ gb102 ∧ k_ ≠ gb104) ho0 (fun k_ hk_ => ⟨(.inr (Nat.le_trans (qaf (au11 HB.out GE101.out GE102.out GE104.out)) hk_)), (Kd.freshB (g := gb101) (o := .cells #[.slice A0_0 l0_0.length c0_0, .slice A0_1 l0_1.length c0_1, .slice A0_2 l0_2.length c0_2] 31 (0, 0)) (au1 BK101.out) k_ hk_), (Kd.freshB (g := gb102) (o := .cells #[.slice none 0 0, .slice none 0 0, .slice none 0 0] 31 (0, 0)) (au1 BK102.out) k_ hk_), (Kd.freshB (g := gb104) (o := .cells #[.slice Ao36 x105000_7.length co36, .slice Ao37 x105001_7.length co37, .slice Ao38 x105002_7.length co38] 31 (0, 0)) (au1 BK104.out) k_ hk_)⟩)) (qaf (au11 HB.out GE101.out GE102.out GE104.out))); have HO121 := am (Kd.V_lower (Kd.V_mono (ok' := fun k_ => ((P0_0_ k_ ∨ P0_1_ k_ ∨ P0_2_ k_) ∨ w.heap.size ≤ k_) ∧ k_ ≠ gb101 ∧ k_ ≠ gb102 ∧ k_ ≠ gb104) ho1 (fun k_ hk_ => ⟨(.inr (Nat.le_trans (qaf (au11 HB.out GE101.out GE102.out GE104.out)) hk_)), (Kd.freshB (g := gb101) (o := .cells #[.slice A0_0 l0_0.length c0_0, .slice A0_1 l0_1.length c0_1, .slice A0_2 l0_2.length c0_2] 31 (0, 0)) (au1 BK101.out) k_ hk_), (Kd.freshB (g := gb102) (o := .cells #[.slice none 0 0, .slice none 0 0, .slice none 0 0] 31 (0, 0)) (au1 BK102.out) k_ hk_), (Kd.freshB (g := gb104) (o := .cells #[.slice Ao36 x105000_7.length co36, .slice Ao37 x105001_7.length co37, .slice Ao38 x105002_7.length co38] 31 (0, 0)) (au1 BK104.out) k_ hk_)⟩)) (qaf (au11 HB.out GE101.out GE102.out GE104.out))); have HO124 := am (Kd.V_lower (Kd.V_mono (ok' := fun k_ => ((P0_0_ k_ ∨ P0_1_ k_ ∨ P0_2_ k_) ∨ w.heap.size ≤ k_) ∧ k_ ≠ gb101 ∧ k_ ≠ gb102 ∧ k_ ≠ gb104) ho2 (fun k_ hk_ => ⟨(.inr (Nat.le_trans (qaf (au11 HB.out GE101.out GE102.out GE104.out)) hk_)), (Kd.freshB (g := gb101) (o := .cells #[.slice A0_0 l0_0.length c0_0, .slice A0_1 l0_1.length c0_1, .slice A0_2 l0_2.length c0_2] 31 (0, 0)) (au1 BK101.out) k_ hk_), (Kd.freshB (g := gb102) (o := .cells #[.slice none 0 0, .slice none 0 0, .slice none 0 0] 31 (0, 0)) (au1 BK102.out) k_ hk_), (Kd.freshB (g := gb104) (o := .cells #[.slice Ao36 x105000_7.length co36, .slice Ao37 x105001_7.length co37, .slice Ao38 x105002_7.length co38] 31 (0, 0)) (au1 BK104.out) k_ hk_)⟩)) (qaf (au11 HB.out GE101.out GE102.out GE104.out))); replace BK101 := am (qab (au1 BK101.out) hb); replace BK102 := am (qab (au1 BK102.out) hb); replace BK104 := am (qab (au1 BK104.out) hb); replace HB := am (qad (au11 HB.out GE101.out GE102.out GE104.out) hb); (try clear hb); (try clear hb2); (try clear hk); (try clear hi); (try clear ho0); (try clear ho1); (try clear ho2); obtain ⟨Ao40, co40, eo40⟩ := Kd.V_slice HO118.out; subst eo40; have hcz41_0 : _ = some (Value.slice Ao36 x105000_7.length co36) := bcE BK104.out 0; have hcz41_1 : _ = some (Value.slice Ao37 x105001_7.length co37) := bcE BK104.out 1; have hcz41_2 : _ = some (Value.slice Ao38 x105002_7.length co38) := bcE BK104.out 2; have hfz41_0 := qaa BK104.out 0; have hfz41_1 := qaa BK104.out 1; have hfz41_2 := qaa BK104.out 2; obtain ⟨Ao42, co42, eo42⟩ := Kd.V_slice HO121.out; subst eo42; obtain ⟨Ao43, co43, eo43⟩ := Kd.V_slice HO124.out; subst eo43))
       go_meet
       case rel => exact ⟨_, (t125), (t116), (t119), (t122), (.slice Ao40 t116.length co40), (.slice Ao42 t119.length co42), (.slice Ao43 t122.length co43), au10, H', ⟨by have := HJ7.out; first | omega | exact Nat.le_refl _⟩, ⟨by refine au2 ?_; exact Kd.V_mono (Kd.V_far (p := ⟨gb104, 2, none⟩) (Kd.V_far (p := ⟨gb104, 1, none⟩) (Kd.V_far (p := ⟨gb104, 0, none⟩) (Kd.V_mono HO_102000.out (fun k_ hk => (⟨hk, hk.2.2.2⟩ : _ ∧ k_ ≠ gb104))) k2E (.slice Ao40 t116.length co40)) k2E (.slice Ao42 t119.length co42)) k2E (.slice Ao43 t122.length co43)) (fun _ hk => ⟨hk.1.1, ⟨hk.1.2.1, ⟨hk.1.2.2.1, hk.1.2.2.2⟩⟩⟩)⟩, ⟨by refine au2 ?_; exact Kd.V_mono (Kd.V_far (p := ⟨gb104, 2, none⟩) (Kd.V_far (p := ⟨gb104, 1, none⟩) (Kd.V_far (p := ⟨gb104, 0, none⟩) (Kd.V_mono HO_102001.out (fun k_ hk => (⟨hk, hk.2.2.2⟩ : _ ∧ k_ ≠ gb104))) k2E (.slice Ao40 t116.length co40)) k2E (.slice Ao42 t119.length co42)) k2E (.slice Ao43 t122.length co43)) (fun _ hk => ⟨hk.1.1, ⟨hk.1.2.1, ⟨hk.1.2.2.1, hk.1.2.2.2⟩⟩⟩)⟩, ⟨by refine au2 ?_; exact Kd.V_mono (Kd.V_far (p := ⟨gb104, 2, none⟩) (Kd.V_far (p := ⟨gb104, 1, none⟩) (Kd.V_far (p := ⟨gb104, 0, none⟩) (Kd.V_mono HO_102002.out (fun k_ hk => (⟨hk, hk.2.2.2⟩ : _ ∧ k_ ≠ gb104))) k2E (.slice Ao40 t116.length co40)) k2E (.slice Ao42 t119.length co42)) k2E (.slice Ao43 t122.length co43)) (fun _ hk => ⟨hk.1.1, ⟨hk.1.2.1, ⟨hk.1.2.2.1, hk.1.2.2.2⟩⟩⟩)⟩, ⟨by refine au2 ?_; exact Kd.V_mono (Kd.V_far (p := ⟨gb104, 2, none⟩) (Kd.V_far (p := ⟨gb104, 1, none⟩) (Kd.V_far (p := ⟨gb104, 0, none⟩) (Kd.V_mono HO118.out (fun k_ hk => (⟨hk, hk.2.2.2⟩ : _ ∧ k_ ≠ gb104))) k2E (.slice Ao40 t116.length co40)) k2E (.slice Ao42 t119.length co42)) k2E (.slice Ao43 t122.length co43)) (fun _ hk => ⟨hk.1.1, ⟨hk.1.2.1, ⟨hk.1.2.2.1, hk.1.2.2.2⟩⟩⟩)⟩, ⟨by refine au2 ?_; exact Kd.V_mono (Kd.V_far (p := ⟨gb104, 2, none⟩) (Kd.V_far (p := ⟨gb104, 1, none⟩) (Kd.V_far (p := ⟨gb104, 0, none⟩) (Kd.V_mono HO121.out (fun k_ hk => (⟨hk, hk.2.2.2⟩ : _ ∧ k_ ≠ gb104))) k2E (.slice Ao40 t116.length co40)) k2E (.slice Ao42 t119.length co42)) k2E (.slice Ao43 t122.length co43)) (fun _ hk => ⟨hk.1.1, ⟨hk.1.2.1, ⟨hk.1.2.2.1, hk.1.2.2.2⟩⟩⟩)⟩, ⟨by refine au2 ?_; exact Kd.V_mono (Kd.V_far (p := ⟨gb104, 2, none⟩) (Kd.V_far (p := ⟨gb104, 1, none⟩) (Kd.V_far (p := ⟨gb104, 0, none⟩) (Kd.V_mono HO124.out (fun k_ hk => (⟨hk, hk.2.2.2⟩ : _ ∧ k_ ≠ gb104))) k2E (.slice Ao40 t116.length co40)) k2E (.slice Ao42 t119.length co42)) k2E (.slice Ao43 t122.length co43)) (fun _ hk => ⟨hk.1.1, ⟨hk.1.2.1, ⟨hk.1.2.2.1, hk.1.2.2.2⟩⟩⟩)⟩, ⟨by refine au1 ?_; refine qas ?_ NB101_104.out _; refine au1 ?_; refine qas ?_ NB101_104.out _; refine au1 ?_; refine qas ?_ NB101_104.out _; refine au1 ?_; exact BK101.out⟩, ⟨by refine au1 ?_; refine qas ?_ NB102_104.out _; refine au1 ?_; refine qas ?_ NB102_104.out _; refine au1 ?_; refine qas ?_ NB102_104.out _; refine au1 ?_; exact BK102.out⟩, ⟨by refine au1 ?_; refine qam (cs := #[.slice Ao40 t116.length co40, .slice Ao42 t119.length co42, .slice Ao38 x105002_7.length co38]) ?_ 2 _ rfl; refine au1 ?_; refine qam (cs := #[.slice Ao40 t116.length co40, .slice Ao37 x105001_7.length co37, .slice Ao38 x105002_7.length co38]) ?_ 1 _ rfl; refine au1 ?_; refine qam (cs := #[.slice Ao36 x105000_7.length co36, .slice Ao37 x105001_7.length co37, .slice Ao38 x105002_7.length co38]) ?_ 0 _ rfl; refine au1 ?_; exact BK104.out⟩, ⟨(au11 HB.out GE101.out GE102.out GE104.out)⟩⟩
      ·
       rw [if_neg c31] at H
       have c31b0 : (x9_7 == 0) = false := beq_eq_false_iff_ne.mpr c31
       have c31b1 : (x9_7 != 0) = true := bne_iff_ne.mpr c31
       (first | rw [c31b0] | (simp only [i64_w, i32_w]; rw [c31b0]) | skip)
       have H' := am H
       clear H
       go_wp2
       go_meet
       case rel => exact ⟨_, (x9_7), (x105000_7), (x105001_7), (x105002_7), (u105000), (u105001), (u105002), au10, H', ⟨by have := HJ7.out; first | omega | exact Nat.le_refl _⟩, ⟨au2 HO_102000.out⟩, ⟨au2 HO_102001.out⟩, ⟨au2 HO_102002.out⟩, ⟨au2 HO_105000.out⟩, ⟨au2 HO_105001.out⟩, ⟨au2 HO_105002.out⟩, ⟨au1 BK101.out⟩, ⟨au1 BK102.out⟩, ⟨au1 BK104.out⟩, ⟨(au11 HB.out GE101.out GE102.out GE104.out)⟩⟩
     case rest =>
      clear HC30
      obtain ⟨kq, x9_29, x105000_29, x105001_29, x105002_29, u105000, u105001, u105002, rfl, HA, HJ29, HO_102000, HO_102001, HO_102002, HO_105000, HO_105001, HO_105002, BK101, BK102, BK104, HB⟩ := hcut
      cases kq with
      | zero => exact absurd HA.out (by simp [spec_Replace.j1])
      | succ kj29 =>
       have H := HA.out
       clear HA
       simp only [spec_Replace.j1] at H
       have HC44 := am H
       clear H
       go_upto_if 41 with (fail)
       go_cut [9] (fun v9 wc => ∃ (kq : Nat) (x9_43 : Int) (x105000_43 : List (S80)) (x105001_43 : List (S80)) (x105002_43 : List (S73)) (u105000 : Value) (u105001 : Value) (u105002 : Value), v9 = .int .i64 x9_43 ∧ Aside0 (spec_Replace.j2 kq x9_43 l0_0 l0_1 l0_2 x105000_43 x105001_43 x105002_43 = some (r1, r2, r3, r4)) ∧ Aside0 (kq ≤ kj29) ∧ Aside0 (Kd.V k80 80 wc w.heap.size (fun k_ => ((P0_0_ k_ ∨ P0_1_ k_ ∨ P0_2_ k_) ∨ w.heap.size ≤ k_) ∧ k_ ≠ gb101 ∧ k_ ≠ gb102 ∧ k_ ≠ gb104) (.slice A0_0 l0_0.length c0_0) l0_0) ∧ Aside0 (Kd.V k80 80 wc w.heap.size (fun k_ => ((P0_0_ k_ ∨ P0_1_ k_ ∨ P0_2_ k_) ∨ w.heap.size ≤ k_) ∧ k_ ≠ gb101 ∧ k_ ≠ gb102 ∧ k_ ≠ gb104) (.slice A0_1 l0_1.length c0_1) l0_1) ∧ Aside0 (Kd.V k73 73 wc w.heap.size (fun k_ => ((P0_0_ k_ ∨ P0_1_ k_ ∨ P0_2_ k_) ∨ w.heap.size ≤ k_) ∧ k_ ≠ gb101 ∧ k_ ≠ gb102 ∧ k_ ≠ gb104) (.slice A0_2 l0_2.length c0_2) l0_2) ∧ Aside0 (Kd.V k80 80 wc w.heap.size (fun k_ => ((P0_0_ k_ ∨ P0_1_ k_ ∨ P0_2_ k_) ∨ w.heap.size ≤ k_) ∧ k_ ≠ gb101 ∧ k_ ≠ gb102 ∧ k_ ≠ gb104) u105000 x105000_43) ∧ Aside0 (Kd.V k80 80 wc w.heap.size (fun k_ => ((P0_0_ k_ ∨ P0_1_ k_ ∨ P0_2_ k_) ∨ w.heap.size ≤ k_) ∧ k_ ≠ gb101 ∧ k_ ≠ gb102 ∧ k_ ≠ gb104) u105001 x105001_43) ∧ Aside0 (Kd.V k73 73 wc w.heap.size (fun k_ => ((P0_0_ k_ ∨ P0_1_ k_ ∨ P0_2_ k_) ∨ w.heap.size ≤ k_) ∧ k_ ≠ gb101 ∧ k_ ≠ gb102 ∧ k_ ≠ gb104) u105002 x105002_43) ∧ Aside0 (wc.heap[gb101]? = some (.cells #[(.slice A0_0 l0_0.length c0_0), (.slice A0_1 l0_1.length c0_1), (.slice A0_2 l0_2.length c0_2)] 31 (0, 0))) ∧ Aside0 (wc.heap[gb102]? = some (.cells #[(.slice none 0 0), (.slice none 0 0), (.slice none 0 0)] 31 (0, 0))) ∧ Aside0 (wc.heap[gb104]? = some (.cells #[u105000, u105001, u105002] 31 (0, 0))) ∧ Aside0 (Below w.heap.size w wc))
       case first =>
        have H := HC44.out
        clear HC44
        by_cases c45 : x9_29 = 0
        ·
         rw [if_pos c45] at H
         have c45b0 : (x9_29 == 0) = true := beq_iff_eq.mpr c45
         have c45b1 : (x9_29 != 0) = false := bne_eq_false_iff_eq.mpr c45
         clear c45
         (first | rw [c45b0] | (simp only [i64_w, i32_w]; rw [c45b0]) | skip)
         replace H := Option.bind_eq_some_iff.mp H
         obtain ⟨⟨t126, t129, t132, t135⟩, A460, H⟩ := H
         replace H : (spec_Replace.j2 kj29 t135 l0_0 l0_1 l0_2 t126 t129 t132) = some (r1, r2, r3, r4) := H
         have A46 := am A460
         clear A460
         have H' := am H
         clear H
         have hnb47 := NB104_101.out
         have hnc47 := NB101_104.out
         have hnb48 := NB104_102.out
         have hnc48 := NB102_104.out
         have hcz49_0 : _ = some (u105000) := bcE BK104.out 0
         have hcz49_1 : _ = some (u105001) := bcE BK104.out 1
         have hcz49_2 : _ = some (u105002) := bcE BK104.out 2
         have hfz49_0 := qaa BK104.out 0
         have hfz49_1 := qaa BK104.out 1
         have hfz49_2 := qaa BK104.out 2
         obtain ⟨Ao50, co50, eo50⟩ := Kd.V_slice HO_105000.out
         subst eo50
         obtain ⟨Ao51, co51, eo51⟩ := Kd.V_slice HO_105001.out
         subst eo51
         obtain ⟨Ao52, co52, eo52⟩ := Kd.V_slice HO_105002.out
         subst eo52
         go_wp2_with (first | ((with_reducible refine qaj (f := 65) rfl ?_); refine qap (some 47) rfl rfl Try.func65 (by kernel_rfl) rfl #[.agg #[.slice Ao50 x105000_29.length co50, .slice Ao51 x105001_29.length co51, .slice Ao52 x105002_29.length co52], .agg #[.int .i64 2, .string (a1 ++ (⟨#[46, 110, 101, 119]⟩ : ByteArray)), .string a1, .string (⟨#[]⟩ : ByteArray)]] rfl au6 ?_; (with_reducible refine (spec_l4Act.calls kj29 _ _ x105000_29 _ _ x105001_29 _ _ x105002_29 2 (a1 ++ (⟨#[46, 110, 101, 119]⟩ : ByteArray)) a1 (⟨#[]⟩ : ByteArray) t126 t129 t132 t135 _ ?side1 ?side2 ?side3 ?side4 ?side5 ?side6 A46.out).mono ?_); (case side1 => repeat (first | exact (Kd.V_reads' HO_105000.out).2.2 | (with_reducible refine Kd.C_alloc ?_ _) | (with_reducible refine Kd.C_drewN ?_ _) | (with_reducible refine Kd.C_drew ?_))); (case side2 => exact (Kd.V_reads' HO_105000.out).2.1); (case side3 => repeat (first | exact (Kd.V_reads' HO_105001.out).2.2 | (with_reducible refine Kd.C_alloc ?_ _) | (with_reducible refine Kd.C_drewN ?_ _) | (with_reducible refine Kd.C_drew ?_))); (case side4 => exact (Kd.V_reads' HO_105001.out).2.1); (case side5 => repeat (first | exact (Kd.V_reads' HO_105002.out).2.2 | (with_reducible refine Kd.C_alloc ?_ _) | (with_reducible refine Kd.C_drewN ?_ _) | (with_reducible refine Kd.C_drew ?_))); (case side6 => exact (Kd.V_reads' HO_105002.out).2.1); rintro e w53 ⟨v127, v130, v133, rfl, ho0, ho1, ho2, hb⟩; refine ⟨_, rfl, ?_⟩; replace HO_102000 := am (Kd.V_below (au2 HO_102000.out) hb); replace HO_102001 := am (Kd.V_below (au2 HO_102001.out) hb); replace HO_102002 := am (Kd.V_below (au2 HO_102002.out) hb); replace HO_105000 := am (Kd.V_below (au2 HO_105000.out) hb); replace HO_105001 := am (Kd.V_below (au2 HO_105001.out) hb); replace HO_105002 := am (Kd.V_below (au2 HO_105002.out) hb); have HO128 := am (Kd.V_lower (Kd.V_mono (ok' := fun k_ => ((P0_0_ k_ ∨ P0_1_ k_ ∨ P0_2_ k_) ∨ w.heap.size ≤ k_) ∧ k_ ≠ gb101 ∧ k_ ≠ gb102 ∧ k_ ≠ gb104) ho0 (fun k_ hk_ => ⟨(.inr (Nat.le_trans (qaf (au11 HB.out GE101.out GE102.out GE104.out)) hk_)), (Kd.freshB (g := gb101) (o := .cells #[.slice A0_0 l0_0.length c0_0, .slice A0_1 l0_1.length c0_1, .slice A0_2 l0_2.length c0_2] 31 (0, 0)) (au1 BK101.out) k_ hk_), (Kd.freshB (g := gb102) (o := .cells #[.slice none 0 0, .slice none 0 0, .slice none 0 0] 31 (0, 0)) (au1 BK102.out) k_ hk_), (Kd.freshB (g := gb104) (o := .cells #[.slice Ao50 x105000_29.length co50, .slice Ao51 x105001_29.length co51, .slice Ao52 x105002_29.length co52] 31 (0, 0)) (au1 BK104.out) k_ hk_)⟩)) (qaf (au11 HB.out GE101.out GE102.out GE104.out))); have HO131 := am (Kd.V_lower (Kd.V_mono (ok' := fun k_ => ((P0_0_ k_ ∨ P0_1_ k_ ∨ P0_2_ k_) ∨ w.heap.size ≤ k_) ∧ k_ ≠ gb101 ∧ k_ ≠ gb102 ∧ k_ ≠ gb104) ho1 (fun k_ hk_ => ⟨(.inr (Nat.le_trans (qaf (au11 HB.out GE101.out GE102.out GE104.out)) hk_)), (Kd.freshB (g := gb101) (o := .cells #[.slice A0_0 l0_0.length c0_0, .slice A0_1 l0_1.length c0_1, .slice A0_2 l0_2.length c0_2] 31 (0, 0)) (au1 BK101.out) k_ hk_), (Kd.freshB (g := gb102) (o := .cells #[.slice none 0 0, .slice none 0 0, .slice none 0 0] 31 (0, 0)) (au1 BK102.out) k_ hk_), (Kd.freshB (g := gb104) (o := .cells #[.slice Ao50 x105000_29.length co50, .slice Ao51 x105001_29.length co51, .slice Ao52 x105002_29.length co52] 31 (0, 0)) (au1 BK104.out) k_ hk_)⟩)) (qaf (au11 HB.out GE101.out GE102.out GE104.out))); have HO134 := am (Kd.V_lower (Kd.V_mono (ok' := fun k_ => ((P0_0_ k_ ∨ P0_1_ k_ ∨ P0_2_ k_) ∨ w.heap.size ≤ k_) ∧ k_ ≠ gb101 ∧ k_ ≠ gb102 ∧ k_ ≠ gb104) ho2 (fun k_ hk_ => ⟨(.inr (Nat.le_trans (qaf (au11 HB.out GE101.out GE102.out GE104.out)) hk_)), (Kd.freshB (g := gb101) (o := .cells #[.slice A0_0 l0_0.length c0_0, .slice A0_1 l0_1.length c0_1, .slice A0_2 l0_2.length c0_2] 31 (0, 0)) (au1 BK101.out) k_ hk_), (Kd.freshB (g := gb102) (o := .cells #[.slice none 0 0, .slice none 0 0, .slice none 0 0] 31 (0, 0)) (au1 BK102.out) k_ hk_), (Kd.freshB (g := gb104) (o := .cells #[.slice Ao50 x105000_29.length co50, .slice Ao51 x105001_29.length co51, .slice Ao52 x105002_29.length co52] 31 (0, 0)) (au1 BK104.out) k_ hk_)⟩)) (qaf (au11 HB.out GE101.out GE102.out GE104.out))); replace BK101 := am (qab (au1 BK101.out) hb); replace BK102 := am (qab (au1 BK102.out) hb); replace BK104 := am (qab (au1 BK104.out) hb); replace HB := am (qad (au11 HB.out GE101.out GE102.out GE104.out) hb); (try clear hb); (try clear hb2); (try clear hk); (try clear hi); (try clear ho0); (try clear ho1); (try clear ho2); obtain ⟨Ao54, co54, eo54⟩ := Kd.V_slice HO128.out; subst eo54; have hcz55_0 : _ = some (Value.slice Ao50 x105000_29.length co50) := bcE BK104.out 0; have hcz55_1 : _ = some (Value.slice Ao51 x105001_29.length co51) := bcE BK104.out 1; have hcz55_2 : _ = some (Value.slice Ao52 x105002_29.length co52) := bcE BK104.out 2; have hfz55_0 := qaa BK104.out 0; have hfz55_1 := qaa BK104.out 1; have hfz55_2 := qaa BK104.out 2; obtain ⟨Ao56, co56, eo56⟩ := Kd.V_slice HO131.out; subst eo56; obtain ⟨Ao57, co57, eo57⟩ := Kd.V_slice HO134.out; subst eo57))
         go_meet
         case rel => exact ⟨_, (t135), (t126), (t129), (t132), (.slice Ao54 t126.length co54), (.slice Ao56 t129.length co56), (.slice Ao57 t132.length co57), au10, H', ⟨by have := HJ7.out; have := HJ29.out; first | omega | exact Nat.le_refl _⟩, ⟨by refine au2 ?_; exact Kd.V_mono (Kd.V_far (p := ⟨gb104, 2, none⟩) (Kd.V_far (p := ⟨gb104, 1, none⟩) (Kd.V_far (p := ⟨gb104, 0, none⟩) (Kd.V_mono HO_102000.out (fun k_ hk => (⟨hk, hk.2.2.2⟩ : _ ∧ k_ ≠ gb104))) k2E (.slice Ao54 t126.length co54)) k2E (.slice Ao56 t129.length co56)) k2E (.slice Ao57 t132.length co57)) (fun _ hk => ⟨hk.1.1, ⟨hk.1.2.1, ⟨hk.1.2.2.1, hk.1.2.2.2⟩⟩⟩)⟩, ⟨by refine au2 ?_; exact Kd.V_mono (Kd.V_far (p := ⟨gb104, 2, none⟩) (Kd.V_far (p := ⟨gb104, 1, none⟩) (Kd.V_far (p := ⟨gb104, 0, none⟩) (Kd.V_mono HO_102001.out (fun k_ hk => (⟨hk, hk.2.2.2⟩ : _ ∧ k_ ≠ gb104))) k2E (.slice Ao54 t126.length co54)) k2E (.slice Ao56 t129.length co56)) k2E (.slice Ao57 t132.length co57)) (fun _ hk => ⟨hk.1.1, ⟨hk.1.2.1, ⟨hk.1.2.2.1, hk.1.2.2.2⟩⟩⟩)⟩, ⟨by refine au2 ?_; exact Kd.V_mono (Kd.V_far (p := ⟨gb104, 2, none⟩) (Kd.V_far (p := ⟨gb104, 1, none⟩) (Kd.V_far (p := ⟨gb104, 0, none⟩) (Kd.V_mono HO_102002.out (fun k_ hk => (⟨hk, hk.2.2.2⟩ : _ ∧ k_ ≠ gb104))) k2E (.slice Ao54 t126.length co54)) k2E (.slice Ao56 t129.length co56)) k2E (.slice Ao57 t132.length co57)) (fun _ hk => ⟨hk.1.1, ⟨hk.1.2.1, ⟨hk.1.2.2.1, hk.1.2.2.2⟩⟩⟩)⟩, ⟨by refine au2 ?_; exact Kd.V_mono (Kd.V_far (p := ⟨gb104, 2, none⟩) (Kd.V_far (p := ⟨gb104, 1, none⟩) (Kd.V_far (p := ⟨gb104, 0, none⟩) (Kd.V_mono HO128.out (fun k_ hk => (⟨hk, hk.2.2.2⟩ : _ ∧ k_ ≠ gb104))) k2E (.slice Ao54 t126.length co54)) k2E (.slice Ao56 t129.length co56)) k2E (.slice Ao57 t132.length co57)) (fun _ hk => ⟨hk.1.1, ⟨hk.1.2.1, ⟨hk.1.2.2.1, hk.1.2.2.2⟩⟩⟩)⟩, ⟨by refine au2 ?_; exact Kd.V_mono (Kd.V_far (p := ⟨gb104, 2, none⟩) (Kd.V_far (p := ⟨gb104, 1, none⟩) (Kd.V_far (p := ⟨gb104, 0, none⟩) (Kd.V_mono HO131.out (fun k_ hk => (⟨hk, hk.2.2.2⟩ : _ ∧ k_ ≠ gb104))) k2E (.slice Ao54 t126.length co54)) k2E (.slice Ao56 t129.length co56)) k2E (.slice Ao57 t132.length co57)) (fun _ hk => ⟨hk.1.1, ⟨hk.1.2.1, ⟨hk.1.2.2.1, hk.1.2.2.2⟩⟩⟩)⟩, ⟨by refine au2 ?_; exact Kd.V_mono (Kd.V_far (p := ⟨gb104, 2, none⟩) (Kd.V_far (p := ⟨gb104, 1, none⟩) (Kd.V_far (p := ⟨gb104, 0, none⟩) (Kd.V_mono HO134.out (fun k_ hk => (⟨hk, hk.2.2.2⟩ : _ ∧ k_ ≠ gb104))) k2E (.slice Ao54 t126.length co54)) k2E (.slice Ao56 t129.length co56)) k2E (.slice Ao57 t132.length co57)) (fun _ hk => ⟨hk.1.1, ⟨hk.1.2.1, ⟨hk.1.2.2.1, hk.1.2.2.2⟩⟩⟩)⟩, ⟨by refine au1 ?_; refine qas ?_ NB101_104.out _; refine au1 ?_; refine qas ?_ NB101_104.out _; refine au1 ?_; refine qas ?_ NB101_104.out _; refine au1 ?_; exact BK101.out⟩, ⟨by refine au1 ?_; refine qas ?_ NB102_104.out _; refine au1 ?_; refine qas ?_ NB102_104.out _; refine au1 ?_; refine qas ?_ NB102_104.out _; refine au1 ?_; exact BK102.out⟩, ⟨by refine au1 ?_; refine qam (cs := #[.slice Ao54 t126.length co54, .slice Ao56 t129.length co56, .slice Ao52 x105002_29.length co52]) ?_ 2 _ rfl; refine au1 ?_; refine qam (cs := #[.slice Ao54 t126.length co54, .slice Ao51 x105001_29.length co51, .slice Ao52 x105002_29.length co52]) ?_ 1 _ rfl; refine au1 ?_; refine qam (cs := #[.slice Ao50 x105000_29.length co50, .slice Ao51 x105001_29.length co51, .slice Ao52 x105002_29.length co52]) ?_ 0 _ rfl; refine au1 ?_; exact BK104.out⟩, ⟨(au11 HB.out GE101.out GE102.out GE104.out)⟩⟩
        ·
         rw [if_neg c45] at H
         have c45b0 : (x9_29 == 0) = false := beq_eq_false_iff_ne.mpr c45
         have c45b1 : (x9_29 != 0) = true := bne_iff_ne.mpr c45
         (first | rw [c45b0] | (simp only [i64_w, i32_w]; rw [c45b0]) | skip)
         have H' := am H
         clear H
         go_wp2
         go_meet
         case rel => exact ⟨_, (x9_29), (x105000_29), (x105001_29), (x105002_29), (u105000), (u105001), (u105002), au10, H', ⟨by have := HJ7.out; have := HJ29.out; first | omega | exact Nat.le_refl _⟩, ⟨au2 HO_102000.out⟩, ⟨au2 HO_102001.out⟩, ⟨au2 HO_102002.out⟩, ⟨au2 HO_105000.out⟩, ⟨au2 HO_105001.out⟩, ⟨au2 HO_105002.out⟩, ⟨au1 BK101.out⟩, ⟨au1 BK102.out⟩, ⟨au1 BK104.out⟩, ⟨(au11 HB.out GE101.out GE102.out GE104.out)⟩⟩
       case rest =>
        clear HC44
        obtain ⟨kq, x9_43, x105000_43, x105001_43, x105002_43, u105000, u105001, u105002, rfl, HA, HJ43, HO_102000, HO_102001, HO_102002, HO_105000, HO_105001, HO_105002, BK101, BK102, BK104, HB⟩ := hcut
        cases kq with
        | zero => exact absurd HA.out (by simp [spec_Replace.j2])
        | succ kj43 =>
         have H := HA.out
         clear HA
         simp only [spec_Replace.j2] at H
         by_cases c58 : x9_43 = 0
         ·
          rw [if_pos c58] at H
          have c58b0 : (x9_43 == 0) = true := beq_iff_eq.mpr c58
          have c58b1 : (x9_43 != 0) = false := bne_eq_false_iff_eq.mpr c58
          clear c58
          replace H := Option.bind_eq_some_iff.mp H
          obtain ⟨⟨t136, t139, t142⟩, A590, H⟩ := H
          replace H : (some (t136, t139, t142, 0)) = some (r1, r2, r3, r4) := H
          have A59 := am A590
          clear A590
          simp only [Option.some.injEq, Prod.mk.injEq] at H
          obtain ⟨rfl, rfl, rfl, rfl⟩ := H
          have hnb60 := NB104_101.out
          have hnc60 := NB101_104.out
          have hnb61 := NB104_102.out
          have hnc61 := NB102_104.out
          have hcz62_0 : _ = some (u105000) := bcE BK104.out 0
          have hcz62_1 : _ = some (u105001) := bcE BK104.out 1
          have hcz62_2 : _ = some (u105002) := bcE BK104.out 2
          have hfz62_0 := qaa BK104.out 0
          have hfz62_1 := qaa BK104.out 1
          have hfz62_2 := qaa BK104.out 2
          obtain ⟨Ao63, co63, eo63⟩ := Kd.V_slice HO_105000.out
          subst eo63
          obtain ⟨Ao64, co64, eo64⟩ := Kd.V_slice HO_105001.out
          subst eo64
          obtain ⟨Ao65, co65, eo65⟩ := Kd.V_slice HO_105002.out
          subst eo65
          go_wp2_with (first | ((with_reducible refine qaj (f := 66) rfl ?_); refine qap (some 56) rfl rfl Try.func66 (by kernel_rfl) rfl #[.agg #[.slice Ao63 x105000_43.length co63, .slice Ao64 x105001_43.length co64, .slice Ao65 x105002_43.length co65]] rfl au6 ?_; (with_reducible refine (spec_l4Copy.calls _ _ x105000_43 _ _ x105001_43 _ _ x105002_43 t136 t139 t142 _ ?side1 ?side2 ?side3 ?side4 ?side5 ?side6 A59.out).mono ?_); (case side1 => repeat (first | exact (Kd.V_reads' HO_105000.out).2.2 | (with_reducible refine Kd.C_alloc ?_ _) | (with_reducible refine Kd.C_drewN ?_ _) | (with_reducible refine Kd.C_drew ?_))); (case side2 => exact (Kd.V_reads' HO_105000.out).2.1); (case side3 => repeat (first | exact (Kd.V_reads' HO_105001.out).2.2 | (with_reducible refine Kd.C_alloc ?_ _) | (with_reducible refine Kd.C_drewN ?_ _) | (with_reducible refine Kd.C_drew ?_))); (case side4 => exact (Kd.V_reads' HO_105001.out).2.1); (case side5 => repeat (first | exact (Kd.V_reads' HO_105002.out).2.2 | (with_reducible refine Kd.C_alloc ?_ _) | (with_reducible refine Kd.C_drewN ?_ _) | (with_reducible refine Kd.C_drew ?_))); (case side6 => exact (Kd.V_reads' HO_105002.out).2.1); rintro e w66 ⟨v137, v140, v143, rfl, ho0, ho1, ho2, hb⟩; refine ⟨_, rfl, ?_⟩; replace HO_102000 := am (Kd.V_mono (Kd.V_told (Kd.V_told (Kd.V_told (Kd.V_old (au2 HO_102000.out) hb) (Kd.R_base ho0)) (Kd.R_base ho1)) (Kd.R_base ho2)) k1E); replace HO_102001 := am (Kd.V_mono (Kd.V_told (Kd.V_told (Kd.V_told (Kd.V_old (au2 HO_102001.out) hb) (Kd.R_base ho0)) (Kd.R_base ho1)) (Kd.R_base ho2)) k1E); replace HO_102002 := am (Kd.V_mono (Kd.V_told (Kd.V_told (Kd.V_told (Kd.V_old (au2 HO_102002.out) hb) (Kd.R_base ho0)) (Kd.R_base ho1)) (Kd.R_base ho2)) k1E); replace HO_105000 := am (Kd.V_mono (Kd.V_told (Kd.V_told (Kd.V_told (Kd.V_old (au2 HO_105000.out) hb) (Kd.R_base ho0)) (Kd.R_base ho1)) (Kd.R_base ho2)) k1E); replace HO_105001 := am (Kd.V_mono (Kd.V_told (Kd.V_told (Kd.V_told (Kd.V_old (au2 HO_105001.out) hb) (Kd.R_base ho0)) (Kd.R_base ho1)) (Kd.R_base ho2)) k1E); replace HO_105002 := am (Kd.V_mono (Kd.V_told (Kd.V_told (Kd.V_told (Kd.V_old (au2 HO_105002.out) hb) (Kd.R_base ho0)) (Kd.R_base ho1)) (Kd.R_base ho2)) k1E); have HO138 := am (Kd.R_lower (Kd.R_newM (M := fun k_ => (w.heap.size ≤ k_)) ho0 (qaf (au11 HB.out GE101.out GE102.out GE104.out)) (fun k_ h_ => h_)) (qaf (au11 HB.out GE101.out GE102.out GE104.out))); have HO141 := am (Kd.R_lower (Kd.R_newM (M := fun k_ => (w.heap.size ≤ k_)) ho1 (qaf (au11 HB.out GE101.out GE102.out GE104.out)) (fun k_ h_ => h_)) (qaf (au11 HB.out GE101.out GE102.out GE104.out))); have HO144 := am (Kd.R_lower (Kd.R_newM (M := fun k_ => (w.heap.size ≤ k_)) ho2 (qaf (au11 HB.out GE101.out GE102.out GE104.out)) (fun k_ h_ => h_)) (qaf (au11 HB.out GE101.out GE102.out GE104.out))); replace BK101 := am (qab (au1 BK101.out) hb); replace BK102 := am (qab (au1 BK102.out) hb); replace BK104 := am (qab (au1 BK104.out) hb); replace HB := am (qad (au11 HB.out GE101.out GE102.out GE104.out) hb); (try clear hb); (try clear hb2); (try clear hk); (try clear hi); (try clear ho0); (try clear ho1); (try clear ho2); obtain ⟨Ao67, co67, eo67⟩ := Kd.R_slice HO138.out; subst eo67; have hnb68 := NB102_101.out; have hnc68 := NB101_102.out; have hcz69_0 : _ = some (Value.slice none 0 0) := bcE BK102.out 0; have hcz69_1 : _ = some (Value.slice none 0 0) := bcE BK102.out 1; have hcz69_2 : _ = some (Value.slice none 0 0) := bcE BK102.out 2; have hfz69_0 := qaa BK102.out 0; have hfz69_1 := qaa BK102.out 1; have hfz69_2 := qaa BK102.out 2; obtain ⟨Ao70, co70, eo70⟩ := Kd.R_slice HO141.out; subst eo70; obtain ⟨Ao71, co71, eo71⟩ := Kd.R_slice HO144.out; subst eo71))
          refine bodyPost_ret (qbd rfl _ _ gb102 31 #[.slice Ao67 t136.length co67, .slice Ao70 t139.length co70, .slice Ao71 t142.length co71] (0, 0) _ rfl (by refine au1 ?_; refine qam (cs := #[.slice Ao67 t136.length co67, .slice Ao70 t139.length co70, .slice none 0 0]) ?_ 2 _ rfl; refine au1 ?_; refine qam (cs := #[.slice Ao67 t136.length co67, .slice none 0 0, .slice none 0 0]) ?_ 1 _ rfl; refine au1 ?_; refine qam (cs := #[.slice none 0 0, .slice none 0 0, .slice none 0 0]) ?_ 0 _ rfl; refine au1 ?_; exact BK102.out) Try.underlying31 rfl (by kernel_rfl)) rfl ?_
          exact ⟨_, _, _, by first | rfl | (simp [qag, qah] <;> rfl) | (simp [*, qag, qah] <;> rfl), by refine au0 ?_; exact Kd.R_mono (Kd.R_far (p := ⟨gb102, 2, none⟩) (Kd.R_far (p := ⟨gb102, 1, none⟩) (Kd.R_far (p := ⟨gb102, 0, none⟩) (Kd.R_types HO138.out BK102.out (by decide)) k2E (.slice Ao67 t136.length co67)) k2E (.slice Ao70 t139.length co70)) k2E (.slice Ao71 t142.length co71)) (fun _ hk => ⟨hk.1.1, hk.1.2⟩), by refine au0 ?_; exact Kd.R_mono (Kd.R_far (p := ⟨gb102, 2, none⟩) (Kd.R_far (p := ⟨gb102, 1, none⟩) (Kd.R_far (p := ⟨gb102, 0, none⟩) (Kd.R_types HO141.out BK102.out (by decide)) k2E (.slice Ao67 t136.length co67)) k2E (.slice Ao70 t139.length co70)) k2E (.slice Ao71 t142.length co71)) (fun _ hk => ⟨hk.1.1, hk.1.2⟩), by refine au0 ?_; exact Kd.R_mono (Kd.R_far (p := ⟨gb102, 2, none⟩) (Kd.R_far (p := ⟨gb102, 1, none⟩) (Kd.R_far (p := ⟨gb102, 0, none⟩) (Kd.R_types HO144.out BK102.out (by decide)) k2E (.slice Ao67 t136.length co67)) k2E (.slice Ao70 t139.length co70)) k2E (.slice Ao71 t142.length co71)) (fun _ hk => hk.1.1), (au11 HB.out GE101.out GE102.out GE104.out)⟩
         ·
          rw [if_neg c58] at H
          have c58b0 : (x9_43 == 0) = false := beq_eq_false_iff_ne.mpr c58
          have c58b1 : (x9_43 != 0) = true := bne_iff_ne.mpr c58
          replace H := Option.bind_eq_some_iff.mp H
          obtain ⟨⟨t145, t148, t151⟩, A720, H⟩ := H
          replace H : (some (t145, t148, t151, x9_43)) = some (r1, r2, r3, r4) := H
          have A72 := am A720
          clear A720
          simp only [Option.some.injEq, Prod.mk.injEq] at H
          obtain ⟨rfl, rfl, rfl, rfl⟩ := H
          have hnb73 := NB101_102.out
          have hnc73 := NB102_101.out
          have hnb74 := NB101_104.out
          have hnc74 := NB104_101.out
          have hcz75_0 : _ = some (Value.slice A0_0 l0_0.length c0_0) := bcE BK101.out 0
          have hcz75_1 : _ = some (Value.slice A0_1 l0_1.length c0_1) := bcE BK101.out 1
          have hcz75_2 : _ = some (Value.slice A0_2 l0_2.length c0_2) := bcE BK101.out 2
          have hfz75_0 := qaa BK101.out 0
          have hfz75_1 := qaa BK101.out 1
          have hfz75_2 := qaa BK101.out 2
          go_wp2_with (first | ((with_reducible refine qaj (f := 66) rfl ?_); refine qap (some 53) rfl rfl Try.func66 (by kernel_rfl) rfl #[.agg #[.slice A0_0 l0_0.length c0_0, .slice A0_1 l0_1.length c0_1, .slice A0_2 l0_2.length c0_2]] rfl au6 ?_; (with_reducible refine (spec_l4Copy.calls _ _ l0_0 _ _ l0_1 _ _ l0_2 t145 t148 t151 _ ?side1 ?side2 ?side3 ?side4 ?side5 ?side6 A72.out).mono ?_); (case side1 => repeat (first | exact (Kd.V_reads' HO_102000.out).2.2 | (with_reducible refine Kd.C_alloc ?_ _) | (with_reducible refine Kd.C_drewN ?_ _) | (with_reducible refine Kd.C_drew ?_))); (case side2 => exact (Kd.V_reads' HO_102000.out).2.1); (case side3 => repeat (first | exact (Kd.V_reads' HO_102001.out).2.2 | (with_reducible refine Kd.C_alloc ?_ _) | (with_reducible refine Kd.C_drewN ?_ _) | (with_reducible refine Kd.C_drew ?_))); (case side4 => exact (Kd.V_reads' HO_102001.out).2.1); (case side5 => repeat (first | exact (Kd.V_reads' HO_102002.out).2.2 | (with_reducible refine Kd.C_alloc ?_ _) | (with_reducible refine Kd.C_drewN ?_ _) | (with_reducible refine Kd.C_drew ?_))); (case side6 => exact (Kd.V_reads' HO_102002.out).2.1); rintro e w76 ⟨v146, v149, v152, rfl, ho0, ho1, ho2, hb⟩; refine ⟨_, rfl, ?_⟩; replace HO_102000 := am (Kd.V_mono (Kd.V_told (Kd.V_told (Kd.V_told (Kd.V_old (au2 HO_102000.out) hb) (Kd.R_base ho0)) (Kd.R_base ho1)) (Kd.R_base ho2)) k1E); replace HO_102001 := am (Kd.V_mono (Kd.V_told (Kd.V_told (Kd.V_told (Kd.V_old (au2 HO_102001.out) hb) (Kd.R_base ho0)) (Kd.R_base ho1)) (Kd.R_base ho2)) k1E); replace HO_102002 := am (Kd.V_mono (Kd.V_told (Kd.V_told (Kd.V_told (Kd.V_old (au2 HO_102002.out) hb) (Kd.R_base ho0)) (Kd.R_base ho1)) (Kd.R_base ho2)) k1E); replace HO_105000 := am (Kd.V_mono (Kd.V_told (Kd.V_told (Kd.V_told (Kd.V_old (au2 HO_105000.out) hb) (Kd.R_base ho0)) (Kd.R_base ho1)) (Kd.R_base ho2)) k1E); replace HO_105001 := am (Kd.V_mono (Kd.V_told (Kd.V_told (Kd.V_told (Kd.V_old (au2 HO_105001.out) hb) (Kd.R_base ho0)) (Kd.R_base ho1)) (Kd.R_base ho2)) k1E); replace HO_105002 := am (Kd.V_mono (Kd.V_told (Kd.V_told (Kd.V_told (Kd.V_old (au2 HO_105002.out) hb) (Kd.R_base ho0)) (Kd.R_base ho1)) (Kd.R_base ho2)) k1E); have HO147 := am (Kd.R_lower (Kd.R_newM (M := fun k_ => (w.heap.size ≤ k_)) ho0 (qaf (au11 HB.out GE101.out GE102.out GE104.out)) (fun k_ h_ => h_)) (qaf (au11 HB.out GE101.out GE102.out GE104.out))); have HO150 := am (Kd.R_lower (Kd.R_newM (M := fun k_ => (w.heap.size ≤ k_)) ho1 (qaf (au11 HB.out GE101.out GE102.out GE104.out)) (fun k_ h_ => h_)) (qaf (au11 HB.out GE101.out GE102.out GE104.out))); have HO153 := am (Kd.R_lower (Kd.R_newM (M := fun k_ => (w.heap.size ≤ k_)) ho2 (qaf (au11 HB.out GE101.out GE102.out GE104.out)) (fun k_ h_ => h_)) (qaf (au11 HB.out GE101.out GE102.out GE104.out))); replace BK101 := am (qab (au1 BK101.out) hb); replace BK102 := am (qab (au1 BK102.out) hb); replace BK104 := am (qab (au1 BK104.out) hb); replace HB := am (qad (au11 HB.out GE101.out GE102.out GE104.out) hb); (try clear hb); (try clear hb2); (try clear hk); (try clear hi); (try clear ho0); (try clear ho1); (try clear ho2); obtain ⟨Ao77, co77, eo77⟩ := Kd.R_slice HO147.out; subst eo77; have hnb78 := NB102_104.out; have hnc78 := NB104_102.out; have hcz79_0 : _ = some (Value.slice none 0 0) := bcE BK102.out 0; have hcz79_1 : _ = some (Value.slice none 0 0) := bcE BK102.out 1; have hcz79_2 : _ = some (Value.slice none 0 0) := bcE BK102.out 2; have hfz79_0 := qaa BK102.out 0; have hfz79_1 := qaa BK102.out 1; have hfz79_2 := qaa BK102.out 2; obtain ⟨Ao80, co80, eo80⟩ := Kd.R_slice HO150.out; subst eo80; obtain ⟨Ao81, co81, eo81⟩ := Kd.R_slice HO153.out; subst eo81))
          refine bodyPost_ret (qbd rfl _ _ gb102 31 #[.slice Ao77 t145.length co77, .slice Ao80 t148.length co80, .slice Ao81 t151.length co81] (0, 0) _ rfl (by refine au1 ?_; refine qam (cs := #[.slice Ao77 t145.length co77, .slice Ao80 t148.length co80, .slice none 0 0]) ?_ 2 _ rfl; refine au1 ?_; refine qam (cs := #[.slice Ao77 t145.length co77, .slice none 0 0, .slice none 0 0]) ?_ 1 _ rfl; refine au1 ?_; refine qam (cs := #[.slice none 0 0, .slice none 0 0, .slice none 0 0]) ?_ 0 _ rfl; refine au1 ?_; exact BK102.out) Try.underlying31 rfl (by kernel_rfl)) rfl ?_
          exact ⟨_, _, _, by first | rfl | (simp [qag, qah] <;> rfl) | (simp [*, qag, qah] <;> rfl), by refine au0 ?_; exact Kd.R_mono (Kd.R_far (p := ⟨gb102, 2, none⟩) (Kd.R_far (p := ⟨gb102, 1, none⟩) (Kd.R_far (p := ⟨gb102, 0, none⟩) (Kd.R_types HO147.out BK102.out (by decide)) k2E (.slice Ao77 t145.length co77)) k2E (.slice Ao80 t148.length co80)) k2E (.slice Ao81 t151.length co81)) (fun _ hk => ⟨hk.1.1, hk.1.2⟩), by refine au0 ?_; exact Kd.R_mono (Kd.R_far (p := ⟨gb102, 2, none⟩) (Kd.R_far (p := ⟨gb102, 1, none⟩) (Kd.R_far (p := ⟨gb102, 0, none⟩) (Kd.R_types HO150.out BK102.out (by decide)) k2E (.slice Ao77 t145.length co77)) k2E (.slice Ao80 t148.length co80)) k2E (.slice Ao81 t151.length co81)) (fun _ hk => ⟨hk.1.1, hk.1.2⟩), by refine au0 ?_; exact Kd.R_mono (Kd.R_far (p := ⟨gb102, 2, none⟩) (Kd.R_far (p := ⟨gb102, 1, none⟩) (Kd.R_far (p := ⟨gb102, 0, none⟩) (Kd.R_types HO153.out BK102.out (by decide)) k2E (.slice Ao77 t145.length co77)) k2E (.slice Ao80 t148.length co80)) k2E (.slice Ao81 t151.length co81)) (fun _ hk => hk.1.1), (au11 HB.out GE101.out GE102.out GE104.out)⟩
  ·
   rw [if_neg c6] at H
   exact absurd H (by simp)
 ·
  replace c5 := Bool.eq_false_iff.mpr c5
  subst c5
  have H1 : (some (([] : List (S80)), ([] : List (S80)), ([] : List (S73)), 1)) = some (r1, r2, r3, r4) := by rw [if_neg (show ¬ (false = true) by decide)] at H; exact H
  clear H
  have H := H1
  clear H1
  simp only [Option.some.injEq, Prod.mk.injEq] at H
  obtain ⟨rfl, rfl, rfl, rfl⟩ := H
  go_enter Try.func26, Try.ntmps26
  go_wp2_with (first | ((with_reducible refine qal (N := 3) rfl ?_); refine bxE (N := 3) (cs := #[.slice A0_0 l0_0.length c0_0, .slice A0_1 l0_1.length c0_1, .slice A0_2 l0_2.length c0_2]) (t := 31) ?_; intro gb101 hg w82 hbox hb; replace HO0_0 := am (Kd.V_below (Kd.V_elderB (au2 HO0_0.out) gb101 (Nat.le_of_eq hg.symm)) hb); replace HO0_1 := am (Kd.V_below (Kd.V_elderB (au2 HO0_1.out) gb101 (Nat.le_of_eq hg.symm)) hb); replace HO0_2 := am (Kd.V_below (Kd.V_elderB (au2 HO0_2.out) gb101 (Nat.le_of_eq hg.symm)) hb); have BK101 := am (hbox); have GW101 := am (sgE hg (au3 HB.out) : w.heap.size ≤ gb101); have GE101 := GW101; replace HB := am (qad (au3 HB.out) hb); clear hb hbox hg) | ((with_reducible refine qal (N := 6) rfl ?_); refine bxE (N := 6) (cs := #[.slice none 0 0, .slice none 0 0, .slice none 0 0]) (t := 31) ?_; intro gb102 hg w83 hbox hb; replace HO0_0 := am (Kd.V_below (Kd.V_elderB (au2 HO0_0.out) gb102 (Nat.le_of_eq hg.symm)) hb); replace HO0_1 := am (Kd.V_below (Kd.V_elderB (au2 HO0_1.out) gb102 (Nat.le_of_eq hg.symm)) hb); replace HO0_2 := am (Kd.V_below (Kd.V_elderB (au2 HO0_2.out) gb102 (Nat.le_of_eq hg.symm)) hb); have BK102 := am (hbox); have GW102 := am (sgE hg (au7 HB.out GE101.out) : w.heap.size ≤ gb102); have GE102 := GW102; replace HB := am (qad (au7 HB.out GE101.out) hb); have NB101_102 := am ((sltE hg (qan (au1 BK101.out)))); have NB102_101 := am ((sgtE hg (qan (au1 BK101.out)))); replace BK101 := am (qab (au1 BK101.out) hb); clear hb hbox hg; have hnb84 := NB101_102.out; have hnc84 := NB102_101.out; have hcz85_0 : _ = some (Value.slice A0_0 l0_0.length c0_0) := bcE BK101.out 0; have hcz85_1 : _ = some (Value.slice A0_1 l0_1.length c0_1) := bcE BK101.out 1; have hcz85_2 : _ = some (Value.slice A0_2 l0_2.length c0_2) := bcE BK101.out 2; have hfz85_0 := qaa BK101.out 0; have hfz85_1 := qaa BK101.out 1; have hfz85_2 := qaa BK101.out 2) | ((with_reducible refine qaj (f := 13) rfl ?_); refine qap (some 12) rfl rfl Try.func13 (by kernel_rfl) rfl #[.agg #[.slice A0_0 l0_0.length c0_0, .slice A0_1 l0_1.length c0_1, .slice A0_2 l0_2.length c0_2]] rfl au6 ?_; (with_reducible refine (spec_DiskOk.calls k _ _ l0_0 (fun k_ => ((((P0_0_ k_ ∨ P0_1_ k_ ∨ P0_2_ k_) ∨ w.heap.size ≤ k_) ∧ k_ ≠ gb101) ∧ k_ ≠ gb102)) _ _ l0_1 _ _ l0_2 false _ ?side1 ?side2 ?side3 ?side4 ?side5 A4.out).mono ?_); (case side1 => repeat (first | exact (Kd.V_reads' HO0_0.out).2.2 | (with_reducible refine Kd.C_alloc ?_ _) | (with_reducible refine Kd.C_drewN ?_ _) | (with_reducible refine Kd.C_drew ?_))); (case side2 => exact (Kd.V_reads' HO0_0.out).2.1); (case side3 => exact HO0_1.out); (case side4 => repeat (first | exact (Kd.V_reads' HO0_2.out).2.2 | (with_reducible refine Kd.C_alloc ?_ _) | (with_reducible refine Kd.C_drewN ?_ _) | (with_reducible refine Kd.C_drew ?_))); (case side5 => exact (Kd.V_reads' HO0_2.out).2.1); rintro e w86 ⟨rfl, hb⟩; refine ⟨_, rfl, ?_⟩; replace HO0_0 := am (Kd.V_below (au2 HO0_0.out) hb); replace HO0_1 := am (Kd.V_below (au2 HO0_1.out) hb); replace HO0_2 := am (Kd.V_below (au2 HO0_2.out) hb); replace BK101 := am (qab (au1 BK101.out) hb); replace BK102 := am (qab (au1 BK102.out) hb); replace HB := am (qad (au4 HB.out GE101.out GE102.out) hb); (try clear hb); (try clear hb2); (try clear hk); (try clear hi); have hcz87_0 : _ = some (Value.slice none 0 0) := bcE BK102.out 0; have hcz87_1 : _ = some (Value.slice none 0 0) := bcE BK102.out 1; have hcz87_2 : _ = some (Value.slice none 0 0) := bcE BK102.out 2; have hfz87_0 := qaa BK102.out 0; have hfz87_1 := qaa BK102.out 1; have hfz87_2 := qaa BK102.out 2))
  refine bodyPost_ret (qbd rfl _ _ gb102 31 #[.slice none 0 0, .slice none 0 0, .slice none 0 0] (0, 0) _ rfl (by refine au1 ?_; refine qam (cs := #[.slice none 0 0, .slice none 0 0, .slice none 0 0]) ?_ 2 _ rfl; refine au1 ?_; refine qam (cs := #[.slice none 0 0, .slice none 0 0, .slice none 0 0]) ?_ 1 _ rfl; refine au1 ?_; refine qam (cs := #[.slice none 0 0, .slice none 0 0, .slice none 0 0]) ?_ 0 _ rfl; refine au1 ?_; exact BK102.out) Try.underlying31 rfl (by kernel_rfl)) rfl ?_
  exact ⟨_, _, _, by first | rfl | (simp [qag, qah] <;> rfl) | (simp [*, qag, qah] <;> rfl), by first | exact Kd.R_nil _ _ _ _ _ | exact Kd.N_nil _ _ _ _ _ | exact Kd.V_nil _ _ _ _ _ | exact Kd.Q_nil _ _ _ _ _ | exact Kd.S_nil _ _ _ _ _, by first | exact Kd.R_nil _ _ _ _ _ | exact Kd.N_nil _ _ _ _ _ | exact Kd.V_nil _ _ _ _ _ | exact Kd.Q_nil _ _ _ _ _ | exact Kd.S_nil _ _ _ _ _, by first | exact Kd.R_nil _ _ _ _ _ | exact Kd.N_nil _ _ _ _ _ | exact Kd.V_nil _ _ _ _ _ | exact Kd.Q_nil _ _ _ _ _ | exact Kd.S_nil _ _ _ _ _, (au4 HB.out GE101.out GE102.out)⟩

end

end Go.Proofs.Ytfjoamlgbegpgaa.Q
