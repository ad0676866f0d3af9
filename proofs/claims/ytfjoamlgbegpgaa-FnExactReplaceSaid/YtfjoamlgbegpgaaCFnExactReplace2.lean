/- Part 2 of what the row of FnExactReplace needs: functions of the program as plain Lean functions, their contracts, and lemmas; made by a program of this session out of its texts. -/
import Derived.Test.YtfjoamlgbegpgaaCFnExactReplace0
import Derived.Test.YtfjoamlgbegpgaaCFnExactReplace1
namespace Go.Proofs.Ytfjoamlgbegpgaa.Q
open Go.RowKit Go.Proofs.YtfjoamlgbegpgaaW.PrintWords Go.Proofs.YtfjoamlgbegpgaaW.PrintLast Go.Proofs.YtfjoamlgbegpgaaW.PrintMore
attribute [local go_sem] max2_int min2_int max_two min_two max_three min_three max_four min_four   -- for this text's walks alone
set_option linter.unusedVariables false
set_option linter.unusedSimpArgs false
section
def laws_markText.l0 : Nat → Int → ByteArray → Option (ByteArray)
 | 0, _, _ => none
 | k + 1, x0, x3 => if x0 > 0 then ((some (([(wrap64 (48 + (Int.tmod x0 10))) % 256] : List Int) : List Int)).bind fun y101 => (if (strOfNums y101).size + x3.size ≤ 9223372036854775807 then (laws_markText.l0 k (wrap64 (Int.tdiv x0 10)) ((strOfNums y101) ++ x3)) else (none))) else (if 1 + x3.size ≤ 9223372036854775807 then (some ((⟨#[109]⟩ : ByteArray) ++ x3)) else (none))
def laws_markText.f (k : Nat) (a0 : Int) : Option (ByteArray) := if a0 ≤ 0 then (some (⟨#[109, 48]⟩ : ByteArray)) else (laws_markText.l0 k a0 (⟨#[]⟩ : ByteArray))
theorem laws_markText.mono_l : ∀ k, (∀ y0 y1, LeO (laws_markText.l0 k y0 y1) (laws_markText.l0 (k + 1) y0 y1))
 | 0 => fun _ _ r h => by simp [laws_markText.l0] at h
 | k + 1 => by
  have ih0 := laws_markText.mono_l k
  ·
   intro y0 y1
   unfold laws_markText.l0
   repeat' first
   | (with_reducible exact ih0 _ _)
   | (with_reducible exact LeO.refl _)
   | (with_reducible exact LeO.none _)
   | (with_reducible refine LeO.ite ?_ ?_)
   | (with_reducible refine LeO.bind ?_ (fun _ => ?_))
   | exact ih0 _ _
   | exact LeO.none _
   | refine LeO.ite ?_ ?_
   | refine LeO.bind ?_ (fun _ => ?_)
theorem laws_markText.mono : ∀ a0 k, LeO (laws_markText.f k a0) (laws_markText.f (k + 1) a0) := by
 intro a0 k
 have ih0 := laws_markText.mono_l k
 unfold laws_markText.f
 repeat' first
  | (with_reducible exact ih0 _ _)
  | (with_reducible exact LeO.refl _)
  | (with_reducible exact LeO.none _)
  | (with_reducible refine LeO.ite ?_ ?_)
  | (with_reducible refine LeO.bind ?_ (fun _ => ?_))
  | exact ih0 _ _
  | exact LeO.none _
  | refine LeO.ite ?_ ?_
  | refine LeO.bind ?_ (fun _ => ?_)
set_option maxHeartbeats 8000000 in
set_option maxRecDepth 100000 in
theorem laws_markText.calls (k : Nat) (a0 : Int) (r : ByteArray) (w : World) (h : laws_markText.f k a0 = some r) :
 Calls Try.prog 105 #[.int .i64 a0] w fun e w' => e = .returned (.string r) ∧ Below w.heap.size w w' := by
 have HB := am (Below.refl w.heap.size w)
 have H : (if a0 ≤ 0 then (some (⟨#[109, 48]⟩ : ByteArray)) else (laws_markText.l0 k a0 (⟨#[]⟩ : ByteArray))) = some r := h
 clear h
 by_cases c2 : a0 ≤ 0
 ·
  rw [if_pos c2] at H
  have c2b0 : decide (a0 ≤ 0) = true := decide_eq_true c2
  clear c2
  obtain rfl := Option.some.inj H
  go_enter Try.func105, Try.ntmps105
  go_wp2
  go_ret
  exact ⟨by first | rfl | (simp [qag, qah] <;> rfl) | (simp [*, qag, qah] <;> rfl), (au3 HB.out)⟩
 ·
  rw [if_neg c2] at H
  have c2b0 : decide (a0 ≤ 0) = false := decide_eq_false c2
  clear c2
  have H' := am H
  clear H
  go_enter Try.func105, Try.ntmps105
  go_wp2
  go_loopg [0, 3] k (fun kq v0 v3 w' => ∃ (x0_1 : Int) (x3_1 : ByteArray), v0 = .int .i64 x0_1 ∧ v3 = .string x3_1 ∧ Aside0 (laws_markText.l0 kq x0_1 x3_1 = some r) ∧ Aside0 (kq ≤ k) ∧ Aside0 (Below w.heap.size w w'))
  case atStart => exact ⟨(a0), ((⟨#[]⟩ : ByteArray)), au10, au10, H', ⟨Nat.le_refl _⟩, ⟨(au3 HB.out)⟩⟩
  case round =>
   clear H'
   obtain ⟨x0_1, x3_1, rfl, rfl, HA, HK1, HB⟩ := hrel
   cases gk with
   | zero => exact absurd HA.out (by simp [laws_markText.l0])
   | succ k1 =>
    have H := HA.out
    clear HA
    simp only [laws_markText.l0] at H
    by_cases c3 : x0_1 > 0
    ·
     rw [if_pos c3] at H
     have c3b0 : decide (0 < x0_1) = true := decide_eq_true c3
     clear c3
     obtain ⟨y101, hy101⟩ : ∃ y_ : List Int, y_ = (([(wrap64 (48 + (Int.tmod x0_1 10))) % 256] : List Int)) := ⟨_, rfl⟩
     replace H : (if (strOfNums y101).size + x3_1.size ≤ 9223372036854775807 then (laws_markText.l0 k1 (wrap64 (Int.tdiv x0_1 10)) ((strOfNums y101) ++ x3_1)) else (none)) = some r := by first | (rw [hy101]; with_reducible exact H) | (have H2_ := (Option.bind_some _ _).symm.trans H; rw [hy101]; with_reducible exact H2_) | (have H2_ := (Option.bind_some _ _).symm.trans H; with_reducible exact H2_) | with_reducible exact H | (rw [hy101]; exact H) | exact H
     have Ny101 := am hy101
     clear hy101
     by_cases c4 : (strOfNums y101).size + x3_1.size ≤ 9223372036854775807
     ·
      rw [if_pos c4] at H
      have c4b0 := eq_true c4
      have c4b1 : decide ((strOfNums y101).size + x3_1.size ≤ 9223372036854775807) = true := decide_eq_true c4
      try have c4b2 : (9223372036854775807 < (strOfNums y101).size + x3_1.size) = False := eq_false (Nat.not_lt.2 c4)
      have H' := am H
      clear H
      go_wp2_with (first | ((with_reducible refine qal (N := 12) rfl ?_); refine Kd.R_lit (Kd.int .u8) _ 5 ?hg (N := 12) ?hd (xs := ([(wrap64 (48 + (Int.tmod x0_1 10))) % 256] : List Int)) (inner := [.int .u8 ((wrap64 (48 + (Int.tmod x0_1 10))) % 256)]) (ok := fun _ => True) (okp := fun _ => True) ?hr ?hp (fun _ hk => hk) trivial (Below.refl _ _) (Nat.le_refl _) (by simp) ?_; (case hd => rfl); (case hg => rfl); (case hr => first | (go_simp; done) | (go_simp; rfl)); (case hp => exact (Reps.one (show Kd.M (Kd.int .u8) _ _ _ ((wrap64 (48 + (Int.tmod x0_1 10))) % 256) [.int .u8 ((wrap64 (48 + (Int.tmod x0_1 10))) % 256)] from rfl) (Reps.none _ _))); intro v102 w5 ho6 hb hg_ hnew_; clear hg_ hnew_; (first | rw [← Ny101.out] at ho6 | (simp only [Int.reduceToNat] at ho6; rw [← Ny101.out] at ho6)); have HO103 := am (Kd.R_lower ho6 (qaf (au3 HB.out))); replace HB := am (qad (au3 HB.out) hb); clear hb ho6; have hcv7 := own_string (P := Try.prog) Try.underlying38 Try.underlying5 Try.underlying9 (Kd.own_of_R HO103.out)))
      go_roundg k1
      case measure => have := HK1.out; omega
      case rel => exact ⟨(wrap64 (Int.tdiv x0_1 10)), ((strOfNums y101) ++ x3_1), au10, au10, H', ⟨by have := HK1.out; omega⟩, ⟨(au3 HB.out)⟩⟩
     ·
      rw [if_neg c4] at H
      exact absurd H (by simp)
    ·
     rw [if_neg c3] at H
     have c3b0 : decide (0 < x0_1) = false := decide_eq_false c3
     clear c3
     by_cases c8 : 1 + x3_1.size ≤ 9223372036854775807
     ·
      rw [if_pos c8] at H
      have c8b0 := eq_true c8
      have c8b1 : decide (1 + x3_1.size ≤ 9223372036854775807) = true := decide_eq_true c8
      try have c8b2 : (9223372036854775807 < 1 + x3_1.size) = False := eq_false (Nat.not_lt.2 c8)
      obtain rfl := Option.some.inj H
      go_wp2
      go_ret
      exact ⟨by first | rfl | (simp [qag, qah] <;> rfl) | (simp [*, qag, qah] <;> rfl), (au3 HB.out)⟩
     ·
      rw [if_neg c8] at H
      exact absurd H (by simp)

end

section
def laws_heldDOpS.l0 : Nat → List (S73) → Int → Int → Option (Int)
 | 0, _, _, _ => none
 | k + 1, x0, x1, x5 => if x5 < (x0.length : Int) then (if 0 ≤ x5 then (if ((qae x0 x5).f0) = x1 then ((laws_markText.f k (wrap64 (x1 + 1))).bind fun t103 => (if ((qae x0 x5).f1).toList = t103.toList then ((laws_markText.f k (wrap64 ((wrap64 (x1 + 1)) + 1))).bind fun t105 => (if ((qae x0 x5).f2).toList = t105.toList then ((laws_markText.f k (wrap64 ((wrap64 ((wrap64 (x1 + 1)) + 1)) + 1))).bind fun t107 => (if ((qae x0 x5).f3).toList = t107.toList then (laws_heldDOpS.l0 k x0 (wrap64 ((wrap64 ((wrap64 ((wrap64 (x1 + 1)) + 1)) + 1)) + 1)) (wrap64 (x5 + 1))) else (none))) else (none))) else (none))) else (none)) else (none)) else (some x1)
def laws_heldDOpS.f (k : Nat) (l0 : List (S73)) (a1 : Int) : Option (Int) := laws_heldDOpS.l0 k l0 a1 0
theorem laws_heldDOpS.mono_l : ∀ k, (∀ y0 y1 y2, LeO (laws_heldDOpS.l0 k y0 y1 y2) (laws_heldDOpS.l0 (k + 1) y0 y1 y2))
 | 0 => fun _ _ _ r h => by simp [laws_heldDOpS.l0] at h
 | k + 1 => by
  have ih0 := laws_heldDOpS.mono_l k
  ·
   intro y0 y1 y2
   unfold laws_heldDOpS.l0
   repeat' first
   | (with_reducible exact ih0 _ _ _)
   | (with_reducible exact laws_markText.mono _ _)
   | (with_reducible exact LeO.refl _)
   | (with_reducible exact LeO.none _)
   | (with_reducible refine LeO.ite ?_ ?_)
   | (with_reducible refine LeO.bind ?_ (fun _ => ?_))
   | exact ih0 _ _ _
   | exact laws_markText.mono _ _
   | exact LeO.none _
   | refine LeO.ite ?_ ?_
   | refine LeO.bind ?_ (fun _ => ?_)
theorem laws_heldDOpS.mono : ∀ a0 a1 k, LeO (laws_heldDOpS.f k a0 a1) (laws_heldDOpS.f (k + 1) a0 a1) := by
 intro a0 a1 k
 have ih0 := laws_heldDOpS.mono_l k
 unfold laws_heldDOpS.f
 repeat' first
  | (with_reducible exact ih0 _ _ _)
  | (with_reducible exact laws_markText.mono _ _)
  | (with_reducible exact LeO.refl _)
  | (with_reducible exact LeO.none _)
  | (with_reducible refine LeO.ite ?_ ?_)
  | (with_reducible refine LeO.bind ?_ (fun _ => ?_))
  | exact ih0 _ _ _
  | exact laws_markText.mono _ _
  | exact LeO.none _
  | refine LeO.ite ?_ ?_
  | refine LeO.bind ?_ (fun _ => ?_)
def laws_heldDOpS.T7 : Bool × List (List Nat × List Nat) := (true, [([], []), ([], []), ([0, 1], [0, 1]), ([2], [2]), ([3], [3]), ([], []), ([5], [5]), ([4, 6], [4, 6])])
def laws_heldDOpS.B7 : List Nat := [0, 0, 3, 7, 15, 0, 32, 127]
theorem laws_heldDOpS.tab7 : rtab .any (opsOf Try.f71 7) = laws_heldDOpS.T7 := by kernel_rfl
theorem laws_heldDOpS.bits7 : qcf laws_heldDOpS.T7.2 laws_heldDOpS.B7 = true := by kernel_rfl
def laws_heldDOpS.T10 : Bool × List (List Nat × List Nat) := (true, [([], []), ([], []), ([0, 1], [0, 1]), ([2], [2]), ([3], [3]), ([], []), ([5], [5]), ([4, 6], [4, 6])])
def laws_heldDOpS.B10 : List Nat := [0, 0, 3, 7, 15, 0, 32, 127]
theorem laws_heldDOpS.tab10 : rtab .any (opsOf Try.f71 10) = laws_heldDOpS.T10 := by kernel_rfl
theorem laws_heldDOpS.bits10 : qcf laws_heldDOpS.T10.2 laws_heldDOpS.B10 = true := by kernel_rfl
def laws_heldDOpS.T13 : Bool × List (List Nat × List Nat) := (true, [([], []), ([], []), ([0, 1], [0, 1]), ([2], [2]), ([3], [3]), ([], []), ([5], [5]), ([4, 6], [4, 6])])
def laws_heldDOpS.B13 : List Nat := [0, 0, 3, 7, 15, 0, 32, 127]
theorem laws_heldDOpS.tab13 : rtab .any (opsOf Try.f71 13) = laws_heldDOpS.T13 := by kernel_rfl
theorem laws_heldDOpS.bits13 : qcf laws_heldDOpS.T13.2 laws_heldDOpS.B13 = true := by kernel_rfl
set_option maxHeartbeats 8000000 in
set_option maxRecDepth 100000 in
theorem laws_heldDOpS.calls (k : Nat) (A0 : Option Addr) (c0 : Nat) (l0 : List (S73)) (a1 : Int) (r : Int) (w : World) (hr0 : Kd.C k73 w A0 l0.length l0) (hc0 : l0.length ≤ c0) (h : laws_heldDOpS.f k l0 a1 = some r) :
 Calls Try.prog 71 #[.slice A0 l0.length c0, .int .i64 a1] w fun e w' => e = .returned (.int .i64 r) ∧ Below w.heap.size w w' := by
 have HR0 := am hr0
 have HC0 := am hc0
 clear hr0 hc0
 have HB := am (Below.refl w.heap.size w)
 have H : (laws_heldDOpS.l0 k l0 a1 0) = some r := h
 clear h
 have H' := am H
 clear H
 go_enter Try.func71, Try.ntmps71
 go_wp2
 go_loopg [1, 5] k (fun kq v1 v5 w' => ∃ (x1_1 : Int) (x5_1 : Int), v1 = .int .i64 x1_1 ∧ v5 = .int .i64 x5_1 ∧ Aside0 (laws_heldDOpS.l0 kq l0 x1_1 x5_1 = some r) ∧ Aside0 (kq ≤ k) ∧ Aside0 (Below w.heap.size w w'))
 case atStart => exact ⟨(a1), (0), au10, au10, H', ⟨Nat.le_refl _⟩, ⟨(au3 HB.out)⟩⟩
 case round =>
  clear H'
  obtain ⟨x1_1, x5_1, rfl, rfl, HA, HK1, HB⟩ := hrel
  cases gk with
  | zero => exact absurd HA.out (by simp [laws_heldDOpS.l0])
  | succ k1 =>
   have H := HA.out
   clear HA
   simp only [laws_heldDOpS.l0] at H
   by_cases c3 : x5_1 < (l0.length : Int)
   ·
    rw [if_pos c3] at H
    have c3b0 : decide (x5_1 < (l0.length : Int)) = true := decide_eq_true c3
    clear c3
    by_cases c4 : 0 ≤ x5_1
    ·
     rw [if_pos c4] at H
     have c4b0 : decide (0 ≤ x5_1) = true := decide_eq_true c4
     clear c4
     by_cases c5 : ((qae l0 x5_1).f0) = x1_1
     ·
      rw [if_pos c5] at H
      have c5b0 : (((qae l0 x5_1).f0) == x1_1) = true := beq_iff_eq.mpr c5
      have c5b1 : (((qae l0 x5_1).f0) != x1_1) = false := bne_eq_false_iff_eq.mpr c5
      clear c5
      replace H := Option.bind_eq_some_iff.mp H
      obtain ⟨t103, A60, H⟩ := H
      replace H : (if ((qae l0 x5_1).f1).toList = t103.toList then ((laws_markText.f k1 (wrap64 ((wrap64 (x1_1 + 1)) + 1))).bind fun t105 => (if ((qae l0 x5_1).f2).toList = t105.toList then ((laws_markText.f k1 (wrap64 ((wrap64 ((wrap64 (x1_1 + 1)) + 1)) + 1))).bind fun t107 => (if ((qae l0 x5_1).f3).toList = t107.toList then (laws_heldDOpS.l0 k1 l0 (wrap64 ((wrap64 ((wrap64 ((wrap64 (x1_1 + 1)) + 1)) + 1)) + 1)) (wrap64 (x5_1 + 1))) else (none))) else (none))) else (none)) = some r := H
      have A6 := am A60
      clear A60
      by_cases c7 : ((qae l0 x5_1).f1).toList = t103.toList
      ·
       rw [if_pos c7] at H
       have c7b0 : (((qae l0 x5_1).f1).toList == t103.toList) = true := beq_iff_eq.mpr c7
       have c7b1 : (((qae l0 x5_1).f1).toList != t103.toList) = false := bne_eq_false_iff_eq.mpr c7
       clear c7
       replace H := Option.bind_eq_some_iff.mp H
       obtain ⟨t105, A80, H⟩ := H
       replace H : (if ((qae l0 x5_1).f2).toList = t105.toList then ((laws_markText.f k1 (wrap64 ((wrap64 ((wrap64 (x1_1 + 1)) + 1)) + 1))).bind fun t107 => (if ((qae l0 x5_1).f3).toList = t107.toList then (laws_heldDOpS.l0 k1 l0 (wrap64 ((wrap64 ((wrap64 ((wrap64 (x1_1 + 1)) + 1)) + 1)) + 1)) (wrap64 (x5_1 + 1))) else (none))) else (none)) = some r := H
       have A8 := am A80
       clear A80
       by_cases c9 : ((qae l0 x5_1).f2).toList = t105.toList
       ·
        rw [if_pos c9] at H
        have c9b0 : (((qae l0 x5_1).f2).toList == t105.toList) = true := beq_iff_eq.mpr c9
        have c9b1 : (((qae l0 x5_1).f2).toList != t105.toList) = false := bne_eq_false_iff_eq.mpr c9
        clear c9
        replace H := Option.bind_eq_some_iff.mp H
        obtain ⟨t107, A100, H⟩ := H
        replace H : (if ((qae l0 x5_1).f3).toList = t107.toList then (laws_heldDOpS.l0 k1 l0 (wrap64 ((wrap64 ((wrap64 ((wrap64 (x1_1 + 1)) + 1)) + 1)) + 1)) (wrap64 (x5_1 + 1))) else (none)) = some r := H
        have A10 := am A100
        clear A100
        by_cases c11 : ((qae l0 x5_1).f3).toList = t107.toList
        ·
         rw [if_pos c11] at H
         have c11b0 : (((qae l0 x5_1).f3).toList == t107.toList) = true := beq_iff_eq.mpr c11
         have c11b1 : (((qae l0 x5_1).f3).toList != t107.toList) = false := bne_eq_false_iff_eq.mpr c11
         clear c11
         have H' := am H
         clear H
         have p101 : 0 ≤ (x5_1 : Int) := of_decide_eq_true au9
         have q101 : x5_1 < (l0.length : Int) := of_decide_eq_true au9
         obtain ⟨ad101, e101, hx101_0, hx101_1, hx101_2, hx101_3⟩ := qcu HR0.out x5_1 p101 q101
         cases e101
         replace hx101_0 := qac HB.out hx101_0
         replace hx101_1 := qac HB.out hx101_1
         replace hx101_2 := qac HB.out hx101_2
         replace hx101_3 := qac HB.out hx101_3
         replace p101 := eq_true p101
         replace q101 := eq_true q101
         try go_wp2
         replace HB := am (qay HB.out)
         have p102 : 0 ≤ (x5_1 : Int) := of_decide_eq_true au9
         have q102 : x5_1 < (l0.length : Int) := of_decide_eq_true au9
         obtain ⟨ad102, e102, hx102_0, hx102_1, hx102_2, hx102_3⟩ := qcu HR0.out x5_1 p102 q102
         have hw102_3 := hx102_3
         have hw102_2 := hx102_2
         have hw102_1 := hx102_1
         have hw102_0 := hx102_0
         obtain rfl : ad101 = ad102 := (by injection e102)
         replace hx102_0 := qac HB.out hx102_0
         replace hx102_1 := qac HB.out hx102_1
         replace hx102_2 := qac HB.out hx102_2
         replace hx102_3 := qac HB.out hx102_3
         replace p102 := eq_true p102
         replace q102 := eq_true q102
         refine qdm (n := 8) (S := fun w' => w'.cell? (ad101.add ((x5_1).toNat * 4)) = some (.int .i64 ((qae l0 x5_1).f0)) ∧ w'.cell? ⟨(ad101.add ((x5_1).toNat * 4)).block, (ad101.add ((x5_1).toNat * 4)).off + 1, none⟩ = some (.string ((qae l0 x5_1).f1)) ∧ w'.cell? ⟨(ad101.add ((x5_1).toNat * 4)).block, (ad101.add ((x5_1).toNat * 4)).off + 2, none⟩ = some (.string ((qae l0 x5_1).f2)) ∧ w'.cell? ⟨(ad101.add ((x5_1).toNat * 4)).block, (ad101.add ((x5_1).toNat * 4)).off + 3, none⟩ = some (.string ((qae l0 x5_1).f3))) (ds := []) #[false, false, false, false, false, false, false, false] (by kernel_rfl) rfl rfl ⟨(qac HB.out hw102_0), (qac HB.out hw102_1), (qac HB.out hw102_2), (qac HB.out hw102_3)⟩ (fun hHeld => ?_); refine qbx laws_heldDOpS.tab7 laws_heldDOpS.bits7 (fun HT_ HW_ => ?_)
         generalize wr.drew = w12 at HB hx102_0 hx102_1 hx102_2 hx102_3 hHeld ⊢
         refine pure_ (i := 0) (N := some 21) (v := ?_) (a' := ?_) #[true, false, false, false, false, false, false, false] rfl rfl (qaz HT_.out (by kernel_rfl)) (fun _ _ _ h => h) (Or.inl ⟨by rfl, ?_⟩) ?_ ?_
         rotate_left
         ·
          intro w'
          go_simp
          with_reducible rfl
         rotate_left
         ·
          simp only [Act.put, qsA, qsZ, qsS, i64_w, i32_w]
          rfl
         refine pure_ (i := 1) (N := some 22) (v := ?_) (a' := ?_) #[true, true, false, false, false, false, false, false] rfl rfl (qaz HT_.out (by kernel_rfl)) (fun _ _ _ h => h) (Or.inl ⟨by rfl, ?_⟩) ?_ ?_
         rotate_left
         ·
          intro w'
          go_simp
          with_reducible rfl
         rotate_left
         ·
          simp only [Act.put, qsA, qsZ, qsS, i64_w, i32_w]
          rfl
         refine pure_ (i := 2) (N := some 23) (v := ?_) (a' := ?_) #[true, true, true, false, false, false, false, false] rfl rfl (qaz HT_.out (by kernel_rfl)) (fun _ _ _ h => h) (Or.inl ⟨by rfl, ?_⟩) ?_ ?_
         rotate_left
         ·
          intro w'
          go_simp
          with_reducible rfl
         rotate_left
         ·
          simp only [Act.put, qsA, qsZ, qsS, i64_w, i32_w]
          rfl
         refine pure_ (i := 3) (N := some 24) (v := ?_) (a' := ?_) #[true, true, true, true, false, false, false, false] rfl rfl (qaz HT_.out (by kernel_rfl)) (fun _ _ _ h => h) (Or.inl ⟨by rfl, ?_⟩) ?_ ?_
         rotate_left
         ·
          intro w'
          go_simp
          with_reducible rfl
         rotate_left
         ·
          simp only [Act.put, qsA, qsZ, qsS, i64_w, i32_w]
          rfl
         refine pure_ (i := 5) (N := some 26) (v := ?_) (a' := ?_) #[true, true, true, true, false, true, false, false] rfl rfl (qaz HT_.out (by kernel_rfl)) (fun _ _ _ h => h) (Or.inl ⟨by rfl, ?_⟩) ?_ ?_
         rotate_left
         ·
          intro w'
          go_simp
          with_reducible rfl
         rotate_left
         ·
          simp only [Act.put, qsA, qsZ, qsS, i64_w, i32_w]
          rfl
         refine take_ (i := 4) (N := some 25) (v := ?_) (a' := ?_) #[true, true, true, true, true, true, false, false] rfl rfl (qbj HT_.out HW_.out (by kernel_rfl)) (fun _ _ _ h => h) (Or.inl ⟨by rfl, ?_⟩) hHeld ?_ ?_
         rotate_left
         ·
          rintro w' ⟨s0, s1, s2, s3⟩
          go_simp
          with_reducible rfl
         rotate_left
         ·
          simp only [Act.put, qsA, qsZ, qsS, i64_w, i32_w]
          rfl
         refine one_ (i := 6) (N := some 27) #[true, true, true, true, true, true, true, false] rfl rfl (qbw HT_.out (by kernel_rfl)) (by decide) (fun K hK => ?_)
         refine goes_ Try.func105 (by kernel_rfl) rfl #[.int .i64 (wrap64 (x1_1 + 1))] (by rfl) rfl rfl au6 ?_
         with_reducible refine (laws_markText.calls k1 (wrap64 (x1_1 + 1)) t103 _ A6.out).mono ?_
         rintro e w13 ⟨rfl, hb⟩
         refine ⟨_, rfl, ?_⟩
         replace HB := am (qad (au3 HB.out) hb)
         (try clear hb)
         (try clear hb2)
         (try clear hk)
         (try clear hi)
         refine hK.out _ _ ⟨(qac HB.out hw102_0), (qac HB.out hw102_1), (qac HB.out hw102_2), (qac HB.out hw102_3)⟩ (fun hHeld => ?_)
         clear hK K
         refine norm_ (a' := ?_) ?_ ?_
         rotate_left
         ·
          show Act.put _ (some 27) _ = _
          simp only [Act.put, qsA, qsZ, qsS, i64_w, i32_w]
          rfl
         refine pure_ (i := 7) (N := some 28) (v := ?_) (a' := ?_) #[true, true, true, true, true, true, true, true] rfl rfl (qaz HT_.out (by kernel_rfl)) (fun _ _ _ h => h) (Or.inl ⟨by rfl, ?_⟩) ?_ ?_
         rotate_left
         ·
          intro w'
          go_simp
          with_reducible rfl
         rotate_left
         ·
          simp only [Act.put, qsA, qsZ, qsS, i64_w, i32_w]
          rfl
         refine done_ (qdd HT_.out (by kernel_rfl)) ?_
         try go_wp2
         replace HB := am (qay HB.out)
         have p104 : 0 ≤ (x5_1 : Int) := of_decide_eq_true au9
         have q104 : x5_1 < (l0.length : Int) := of_decide_eq_true au9
         obtain ⟨ad104, e104, hx104_0, hx104_1, hx104_2, hx104_3⟩ := qcu HR0.out x5_1 p104 q104
         have hw104_3 := hx104_3
         have hw104_2 := hx104_2
         have hw104_1 := hx104_1
         have hw104_0 := hx104_0
         obtain rfl : ad101 = ad104 := (by injection e104)
         replace hx104_0 := qac HB.out hx104_0
         replace hx104_1 := qac HB.out hx104_1
         replace hx104_2 := qac HB.out hx104_2
         replace hx104_3 := qac HB.out hx104_3
         replace p104 := eq_true p104
         replace q104 := eq_true q104
         refine qdm (n := 8) (S := fun w' => w'.cell? (ad101.add ((x5_1).toNat * 4)) = some (.int .i64 ((qae l0 x5_1).f0)) ∧ w'.cell? ⟨(ad101.add ((x5_1).toNat * 4)).block, (ad101.add ((x5_1).toNat * 4)).off + 1, none⟩ = some (.string ((qae l0 x5_1).f1)) ∧ w'.cell? ⟨(ad101.add ((x5_1).toNat * 4)).block, (ad101.add ((x5_1).toNat * 4)).off + 2, none⟩ = some (.string ((qae l0 x5_1).f2)) ∧ w'.cell? ⟨(ad101.add ((x5_1).toNat * 4)).block, (ad101.add ((x5_1).toNat * 4)).off + 3, none⟩ = some (.string ((qae l0 x5_1).f3))) (ds := []) #[false, false, false, false, false, false, false, false] (by kernel_rfl) rfl rfl ⟨(qac HB.out hw104_0), (qac HB.out hw104_1), (qac HB.out hw104_2), (qac HB.out hw104_3)⟩ (fun hHeld => ?_); refine qbx laws_heldDOpS.tab10 laws_heldDOpS.bits10 (fun HT_ HW_ => ?_)
         generalize w13.drew = w14 at HB hx104_0 hx104_1 hx104_2 hx104_3 hHeld ⊢
         refine pure_ (i := 0) (N := some 31) (v := ?_) (a' := ?_) #[true, false, false, false, false, false, false, false] rfl rfl (qaz HT_.out (by kernel_rfl)) (fun _ _ _ h => h) (Or.inl ⟨by rfl, ?_⟩) ?_ ?_
         rotate_left
         ·
          intro w'
          go_simp
          with_reducible rfl
         rotate_left
         ·
          simp only [Act.put, qsA, qsZ, qsS, i64_w, i32_w]
          rfl
         refine pure_ (i := 1) (N := some 32) (v := ?_) (a' := ?_) #[true, true, false, false, false, false, false, false] rfl rfl (qaz HT_.out (by kernel_rfl)) (fun _ _ _ h => h) (Or.inl ⟨by rfl, ?_⟩) ?_ ?_
         rotate_left
         ·
          intro w'
          go_simp
          with_reducible rfl
         rotate_left
         ·
          simp only [Act.put, qsA, qsZ, qsS, i64_w, i32_w]
          rfl
         refine pure_ (i := 2) (N := some 33) (v := ?_) (a' := ?_) #[true, true, true, false, false, false, false, false] rfl rfl (qaz HT_.out (by kernel_rfl)) (fun _ _ _ h => h) (Or.inl ⟨by rfl, ?_⟩) ?_ ?_
         rotate_left
         ·
          intro w'
          go_simp
          with_reducible rfl
         rotate_left
         ·
          simp only [Act.put, qsA, qsZ, qsS, i64_w, i32_w]
          rfl
         refine pure_ (i := 3) (N := some 34) (v := ?_) (a' := ?_) #[true, true, true, true, false, false, false, false] rfl rfl (qaz HT_.out (by kernel_rfl)) (fun _ _ _ h => h) (Or.inl ⟨by rfl, ?_⟩) ?_ ?_
         rotate_left
         ·
          intro w'
          go_simp
          with_reducible rfl
         rotate_left
         ·
          simp only [Act.put, qsA, qsZ, qsS, i64_w, i32_w]
          rfl
         refine pure_ (i := 5) (N := some 36) (v := ?_) (a' := ?_) #[true, true, true, true, false, true, false, false] rfl rfl (qaz HT_.out (by kernel_rfl)) (fun _ _ _ h => h) (Or.inl ⟨by rfl, ?_⟩) ?_ ?_
         rotate_left
         ·
          intro w'
          go_simp
          with_reducible rfl
         rotate_left
         ·
          simp only [Act.put, qsA, qsZ, qsS, i64_w, i32_w]
          rfl
         refine take_ (i := 4) (N := some 35) (v := ?_) (a' := ?_) #[true, true, true, true, true, true, false, false] rfl rfl (qbj HT_.out HW_.out (by kernel_rfl)) (fun _ _ _ h => h) (Or.inl ⟨by rfl, ?_⟩) hHeld ?_ ?_
         rotate_left
         ·
          rintro w' ⟨s0, s1, s2, s3⟩
          go_simp
          with_reducible rfl
         rotate_left
         ·
          simp only [Act.put, qsA, qsZ, qsS, i64_w, i32_w]
          rfl
         refine one_ (i := 6) (N := some 37) #[true, true, true, true, true, true, true, false] rfl rfl (qbw HT_.out (by kernel_rfl)) (by decide) (fun K hK => ?_)
         refine goes_ Try.func105 (by kernel_rfl) rfl #[.int .i64 (wrap64 ((wrap64 (x1_1 + 1)) + 1))] (by rfl) rfl rfl au6 ?_
         with_reducible refine (laws_markText.calls k1 (wrap64 ((wrap64 (x1_1 + 1)) + 1)) t105 _ A8.out).mono ?_
         rintro e w15 ⟨rfl, hb⟩
         refine ⟨_, rfl, ?_⟩
         replace HB := am (qad (au3 HB.out) hb)
         (try clear hb)
         (try clear hb2)
         (try clear hk)
         (try clear hi)
         refine hK.out _ _ ⟨(qac HB.out hw104_0), (qac HB.out hw104_1), (qac HB.out hw104_2), (qac HB.out hw104_3)⟩ (fun hHeld => ?_)
         clear hK K
         refine norm_ (a' := ?_) ?_ ?_
         rotate_left
         ·
          show Act.put _ (some 37) _ = _
          simp only [Act.put, qsA, qsZ, qsS, i64_w, i32_w]
          rfl
         refine pure_ (i := 7) (N := some 38) (v := ?_) (a' := ?_) #[true, true, true, true, true, true, true, true] rfl rfl (qaz HT_.out (by kernel_rfl)) (fun _ _ _ h => h) (Or.inl ⟨by rfl, ?_⟩) ?_ ?_
         rotate_left
         ·
          intro w'
          go_simp
          with_reducible rfl
         rotate_left
         ·
          simp only [Act.put, qsA, qsZ, qsS, i64_w, i32_w]
          rfl
         refine done_ (qdd HT_.out (by kernel_rfl)) ?_
         try go_wp2
         replace HB := am (qay HB.out)
         have p106 : 0 ≤ (x5_1 : Int) := of_decide_eq_true au9
         have q106 : x5_1 < (l0.length : Int) := of_decide_eq_true au9
         obtain ⟨ad106, e106, hx106_0, hx106_1, hx106_2, hx106_3⟩ := qcu HR0.out x5_1 p106 q106
         have hw106_3 := hx106_3
         have hw106_2 := hx106_2
         have hw106_1 := hx106_1
         have hw106_0 := hx106_0
         obtain rfl : ad101 = ad106 := (by injection e106)
         replace hx106_0 := qac HB.out hx106_0
         replace hx106_1 := qac HB.out hx106_1
         replace hx106_2 := qac HB.out hx106_2
         replace hx106_3 := qac HB.out hx106_3
         replace p106 := eq_true p106
         replace q106 := eq_true q106
         refine qdm (n := 8) (S := fun w' => w'.cell? (ad101.add ((x5_1).toNat * 4)) = some (.int .i64 ((qae l0 x5_1).f0)) ∧ w'.cell? ⟨(ad101.add ((x5_1).toNat * 4)).block, (ad101.add ((x5_1).toNat * 4)).off + 1, none⟩ = some (.string ((qae l0 x5_1).f1)) ∧ w'.cell? ⟨(ad101.add ((x5_1).toNat * 4)).block, (ad101.add ((x5_1).toNat * 4)).off + 2, none⟩ = some (.string ((qae l0 x5_1).f2)) ∧ w'.cell? ⟨(ad101.add ((x5_1).toNat * 4)).block, (ad101.add ((x5_1).toNat * 4)).off + 3, none⟩ = some (.string ((qae l0 x5_1).f3))) (ds := []) #[false, false, false, false, false, false, false, false] (by kernel_rfl) rfl rfl ⟨(qac HB.out hw106_0), (qac HB.out hw106_1), (qac HB.out hw106_2), (qac HB.out hw106_3)⟩ (fun hHeld => ?_); refine qbx laws_heldDOpS.tab13 laws_heldDOpS.bits13 (fun HT_ HW_ => ?_)
         generalize w15.drew = w16 at HB hx106_0 hx106_1 hx106_2 hx106_3 hHeld ⊢
         refine pure_ (i := 0) (N := some 41) (v := ?_) (a' := ?_) #[true, false, false, false, false, false, false, false] rfl rfl (qaz HT_.out (by kernel_rfl)) (fun _ _ _ h => h) (Or.inl ⟨by rfl, ?_⟩) ?_ ?_
         rotate_left
         ·
          intro w'
          go_simp
          with_reducible rfl
         rotate_left
         ·
          simp only [Act.put, qsA, qsZ, qsS, i64_w, i32_w]
          rfl
         refine pure_ (i := 1) (N := some 42) (v := ?_) (a' := ?_) #[true, true, false, false, false, false, false, false] rfl rfl (qaz HT_.out (by kernel_rfl)) (fun _ _ _ h => h) (Or.inl ⟨by rfl, ?_⟩) ?_ ?_
         rotate_left
         ·
          intro w'
          go_simp
          with_reducible rfl
         rotate_left
         ·
          simp only [Act.put, qsA, qsZ, qsS, i64_w, i32_w]
          rfl
         refine pure_ (i := 2) (N := some 43) (v := ?_) (a' := ?_) #[true, true, true, false, false, false, false, false] rfl rfl (qaz HT_.out (by kernel_rfl)) (fun _ _ _ h => h) (Or.inl ⟨by rfl, ?_⟩) ?_ ?_
         rotate_left
         ·
          intro w'
          go_simp
          with_reducible rfl
         rotate_left
         ·
          simp only [Act.put, qsA, qsZ, qsS, i64_w, i32_w]
          rfl
         refine pure_ (i := 3) (N := some 44) (v := ?_) (a' := ?_) #[true, true, true, true, false, false, false, false] rfl rfl (qaz HT_.out (by kernel_rfl)) (fun _ _ _ h => h) (Or.inl ⟨by rfl, ?_⟩) ?_ ?_
         rotate_left
         ·
          intro w'
          go_simp
          with_reducible rfl
         rotate_left
         ·
          simp only [Act.put, qsA, qsZ, qsS, i64_w, i32_w]
          rfl
         refine pure_ (i := 5) (N := some 46) (v := ?_) (a' := ?_) #[true, true, true, true, false, true, false, false] rfl rfl (qaz HT_.out (by kernel_rfl)) (fun _ _ _ h => h) (Or.inl ⟨by rfl, ?_⟩) ?_ ?_
         rotate_left
         ·
          intro w'
          go_simp
          with_reducible rfl
         rotate_left
         ·
          simp only [Act.put, qsA, qsZ, qsS, i64_w, i32_w]
          rfl
         refine take_ (i := 4) (N := some 45) (v := ?_) (a' := ?_) #[true, true, true, true, true, true, false, false] rfl rfl (qbj HT_.out HW_.out (by kernel_rfl)) (fun _ _ _ h => h) (Or.inl ⟨by rfl, ?_⟩) hHeld ?_ ?_
         rotate_left
         ·
          rintro w' ⟨s0, s1, s2, s3⟩
          go_simp
          with_reducible rfl
         rotate_left
         ·
          simp only [Act.put, qsA, qsZ, qsS, i64_w, i32_w]
          rfl
         refine one_ (i := 6) (N := some 47) #[true, true, true, true, true, true, true, false] rfl rfl (qbw HT_.out (by kernel_rfl)) (by decide) (fun K hK => ?_)
         refine goes_ Try.func105 (by kernel_rfl) rfl #[.int .i64 (wrap64 ((wrap64 ((wrap64 (x1_1 + 1)) + 1)) + 1))] (by rfl) rfl rfl au6 ?_
         with_reducible refine (laws_markText.calls k1 (wrap64 ((wrap64 ((wrap64 (x1_1 + 1)) + 1)) + 1)) t107 _ A10.out).mono ?_
         rintro e w17 ⟨rfl, hb⟩
         refine ⟨_, rfl, ?_⟩
         replace HB := am (qad (au3 HB.out) hb)
         (try clear hb)
         (try clear hb2)
         (try clear hk)
         (try clear hi)
         refine hK.out _ _ ⟨(qac HB.out hw106_0), (qac HB.out hw106_1), (qac HB.out hw106_2), (qac HB.out hw106_3)⟩ (fun hHeld => ?_)
         clear hK K
         refine norm_ (a' := ?_) ?_ ?_
         rotate_left
         ·
          show Act.put _ (some 47) _ = _
          simp only [Act.put, qsA, qsZ, qsS, i64_w, i32_w]
          rfl
         refine pure_ (i := 7) (N := some 48) (v := ?_) (a' := ?_) #[true, true, true, true, true, true, true, true] rfl rfl (qaz HT_.out (by kernel_rfl)) (fun _ _ _ h => h) (Or.inl ⟨by rfl, ?_⟩) ?_ ?_
         rotate_left
         ·
          intro w'
          go_simp
          with_reducible rfl
         rotate_left
         ·
          simp only [Act.put, qsA, qsZ, qsS, i64_w, i32_w]
          rfl
         refine done_ (qdd HT_.out (by kernel_rfl)) ?_
         try go_wp2
         go_roundg k1
         case measure => have := HK1.out; omega
         case rel => exact ⟨(wrap64 ((wrap64 ((wrap64 ((wrap64 (x1_1 + 1)) + 1)) + 1)) + 1)), (wrap64 (x5_1 + 1)), au10, au10, H', ⟨by have := HK1.out; omega⟩, ⟨(au3 HB.out)⟩⟩
        ·
         rw [if_neg c11] at H
         exact absurd H (by simp)
       ·
        rw [if_neg c9] at H
        exact absurd H (by simp)
      ·
       rw [if_neg c7] at H
       exact absurd H (by simp)
     ·
      rw [if_neg c5] at H
      exact absurd H (by simp)
    ·
     rw [if_neg c4] at H
     exact absurd H (by simp)
   ·
    rw [if_neg c3] at H
    have c3b0 : decide (x5_1 < (l0.length : Int)) = false := decide_eq_false c3
    clear c3
    obtain rfl := Option.some.inj H
    go_wp2
    go_ret
    exact ⟨by first | rfl | (simp [qag, qah] <;> rfl) | (simp [*, qag, qah] <;> rfl), (au3 HB.out)⟩

end

section
def laws_heldFileS.l0 : Nat → List (S80) → Int → Int → Option (Int)
 | 0, _, _, _ => none
 | k + 1, x0, x1, x5 => if x5 < (x0.length : Int) then (if 0 ≤ x5 then ((laws_markText.f k x1).bind fun t102 => (if ((qai x0 x5).f0).toList = t102.toList then ((laws_markText.f k (wrap64 (x1 + 1))).bind fun t104 => (if ((qai x0 x5).f1).toList = t104.toList then (laws_heldFileS.l0 k x0 (wrap64 ((wrap64 (x1 + 1)) + 1)) (wrap64 (x5 + 1))) else (none))) else (none))) else (none)) else (some x1)
def laws_heldFileS.f (k : Nat) (l0 : List (S80)) (a1 : Int) : Option (Int) := laws_heldFileS.l0 k l0 a1 0
theorem laws_heldFileS.mono_l : ∀ k, (∀ y0 y1 y2, LeO (laws_heldFileS.l0 k y0 y1 y2) (laws_heldFileS.l0 (k + 1) y0 y1 y2))
 | 0 => fun _ _ _ r h => by simp [laws_heldFileS.l0] at h
 | k + 1 => by
  have ih0 := laws_heldFileS.mono_l k
  ·
   intro y0 y1 y2
   unfold laws_heldFileS.l0
   repeat' first
   | (with_reducible exact ih0 _ _ _)
   | (with_reducible exact laws_markText.mono _ _)
   | (with_reducible exact LeO.refl _)
   | (with_reducible exact LeO.none _)
   | (with_reducible refine LeO.ite ?_ ?_)
   | (with_reducible refine LeO.bind ?_ (fun _ => ?_))
   | exact ih0 _ _ _
   | exact laws_markText.mono _ _
   | exact LeO.none _
   | refine LeO.ite ?_ ?_
   | refine LeO.bind ?_ (fun _ => ?_)
theorem laws_heldFileS.mono : ∀ a0 a1 k, LeO (laws_heldFileS.f k a0 a1) (laws_heldFileS.f (k + 1) a0 a1) := by
 intro a0 a1 k
 have ih0 := laws_heldFileS.mono_l k
 unfold laws_heldFileS.f
 repeat' first
  | (with_reducible exact ih0 _ _ _)
  | (with_reducible exact laws_markText.mono _ _)
  | (with_reducible exact LeO.refl _)
  | (with_reducible exact LeO.none _)
  | (with_reducible refine LeO.ite ?_ ?_)
  | (with_reducible refine LeO.bind ?_ (fun _ => ?_))
  | exact ih0 _ _ _
  | exact laws_markText.mono _ _
  | exact LeO.none _
  | refine LeO.ite ?_ ?_
  | refine LeO.bind ?_ (fun _ => ?_)
def laws_heldFileS.T4 : Bool × List (List Nat × List Nat) := (true, [([], []), ([], []), ([0, 1], [0, 1]), ([2], [2]), ([3], [3]), ([], []), ([5], [5]), ([4, 6], [4, 6])])
def laws_heldFileS.B4 : List Nat := [0, 0, 3, 7, 15, 0, 32, 127]
theorem laws_heldFileS.tab4 : rtab .any (opsOf Try.f70 4) = laws_heldFileS.T4 := by kernel_rfl
theorem laws_heldFileS.bits4 : qcf laws_heldFileS.T4.2 laws_heldFileS.B4 = true := by kernel_rfl
def laws_heldFileS.T7 : Bool × List (List Nat × List Nat) := (true, [([], []), ([], []), ([0, 1], [0, 1]), ([2], [2]), ([3], [3]), ([], []), ([5], [5]), ([4, 6], [4, 6])])
def laws_heldFileS.B7 : List Nat := [0, 0, 3, 7, 15, 0, 32, 127]
theorem laws_heldFileS.tab7 : rtab .any (opsOf Try.f70 7) = laws_heldFileS.T7 := by kernel_rfl
theorem laws_heldFileS.bits7 : qcf laws_heldFileS.T7.2 laws_heldFileS.B7 = true := by kernel_rfl
set_option maxHeartbeats 8000000 in
set_option maxRecDepth 100000 in
theorem laws_heldFileS.calls (k : Nat) (A0 : Option Addr) (c0 : Nat) (l0 : List (S80)) (a1 : Int) (r : Int) (w : World) (hr0 : Kd.C k80 w A0 l0.length l0) (hc0 : l0.length ≤ c0) (h : laws_heldFileS.f k l0 a1 = some r) :
 Calls Try.prog 70 #[.slice A0 l0.length c0, .int .i64 a1] w fun e w' => e = .returned (.int .i64 r) ∧ Below w.heap.size w w' := by
 have HR0 := am hr0
 have HC0 := am hc0
 clear hr0 hc0
 have HB := am (Below.refl w.heap.size w)
 have H : (laws_heldFileS.l0 k l0 a1 0) = some r := h
 clear h
 have H' := am H
 clear H
 go_enter Try.func70, Try.ntmps70
 go_wp2
 go_loopg [1, 5] k (fun kq v1 v5 w' => ∃ (x1_1 : Int) (x5_1 : Int), v1 = .int .i64 x1_1 ∧ v5 = .int .i64 x5_1 ∧ Aside0 (laws_heldFileS.l0 kq l0 x1_1 x5_1 = some r) ∧ Aside0 (kq ≤ k) ∧ Aside0 (Below w.heap.size w w'))
 case atStart => exact ⟨(a1), (0), au10, au10, H', ⟨Nat.le_refl _⟩, ⟨(au3 HB.out)⟩⟩
 case round =>
  clear H'
  obtain ⟨x1_1, x5_1, rfl, rfl, HA, HK1, HB⟩ := hrel
  cases gk with
  | zero => exact absurd HA.out (by simp [laws_heldFileS.l0])
  | succ k1 =>
   have H := HA.out
   clear HA
   simp only [laws_heldFileS.l0] at H
   by_cases c3 : x5_1 < (l0.length : Int)
   ·
    rw [if_pos c3] at H
    have c3b0 : decide (x5_1 < (l0.length : Int)) = true := decide_eq_true c3
    clear c3
    by_cases c4 : 0 ≤ x5_1
    ·
     rw [if_pos c4] at H
     have c4b0 : decide (0 ≤ x5_1) = true := decide_eq_true c4
     clear c4
     replace H := Option.bind_eq_some_iff.mp H
     obtain ⟨t102, A50, H⟩ := H
     replace H : (if ((qai l0 x5_1).f0).toList = t102.toList then ((laws_markText.f k1 (wrap64 (x1_1 + 1))).bind fun t104 => (if ((qai l0 x5_1).f1).toList = t104.toList then (laws_heldFileS.l0 k1 l0 (wrap64 ((wrap64 (x1_1 + 1)) + 1)) (wrap64 (x5_1 + 1))) else (none))) else (none)) = some r := H
     have A5 := am A50
     clear A50
     by_cases c6 : ((qai l0 x5_1).f0).toList = t102.toList
     ·
      rw [if_pos c6] at H
      have c6b0 : (((qai l0 x5_1).f0).toList == t102.toList) = true := beq_iff_eq.mpr c6
      have c6b1 : (((qai l0 x5_1).f0).toList != t102.toList) = false := bne_eq_false_iff_eq.mpr c6
      clear c6
      replace H := Option.bind_eq_some_iff.mp H
      obtain ⟨t104, A70, H⟩ := H
      replace H : (if ((qai l0 x5_1).f1).toList = t104.toList then (laws_heldFileS.l0 k1 l0 (wrap64 ((wrap64 (x1_1 + 1)) + 1)) (wrap64 (x5_1 + 1))) else (none)) = some r := H
      have A7 := am A70
      clear A70
      by_cases c8 : ((qai l0 x5_1).f1).toList = t104.toList
      ·
       rw [if_pos c8] at H
       have c8b0 : (((qai l0 x5_1).f1).toList == t104.toList) = true := beq_iff_eq.mpr c8
       have c8b1 : (((qai l0 x5_1).f1).toList != t104.toList) = false := bne_eq_false_iff_eq.mpr c8
       clear c8
       have H' := am H
       clear H
       try go_wp2
       replace HB := am (qay HB.out)
       have p101 : 0 ≤ (x5_1 : Int) := of_decide_eq_true au9
       have q101 : x5_1 < (l0.length : Int) := of_decide_eq_true au9
       obtain ⟨ad101, e101, hx101_0, hx101_1⟩ := qax HR0.out x5_1 p101 q101
       have hw101_1 := hx101_1
       have hw101_0 := hx101_0
       cases e101
       replace hx101_0 := qac HB.out hx101_0
       replace hx101_1 := qac HB.out hx101_1
       replace p101 := eq_true p101
       replace q101 := eq_true q101
       refine qdm (n := 8) (S := fun w' => w'.cell? (ad101.add ((x5_1).toNat * 2)) = some (.string ((qai l0 x5_1).f0)) ∧ w'.cell? ⟨(ad101.add ((x5_1).toNat * 2)).block, (ad101.add ((x5_1).toNat * 2)).off + 1, none⟩ = some (.string ((qai l0 x5_1).f1))) (ds := []) #[false, false, false, false, false, false, false, false] (by kernel_rfl) rfl rfl ⟨(qac HB.out hw101_0), (qac HB.out hw101_1)⟩ (fun hHeld => ?_); refine qbx laws_heldFileS.tab4 laws_heldFileS.bits4 (fun HT_ HW_ => ?_)
       generalize wr.drew = w9 at HB hx101_0 hx101_1 hHeld ⊢
       refine pure_ (i := 0) (N := some 12) (v := ?_) (a' := ?_) #[true, false, false, false, false, false, false, false] rfl rfl (qaz HT_.out (by kernel_rfl)) (fun _ _ _ h => h) (Or.inl ⟨by rfl, ?_⟩) ?_ ?_
       rotate_left
       ·
        intro w'
        go_simp
        with_reducible rfl
       rotate_left
       ·
        simp only [Act.put, qsA, qsZ, qsS, i64_w, i32_w]
        rfl
       refine pure_ (i := 1) (N := some 13) (v := ?_) (a' := ?_) #[true, true, false, false, false, false, false, false] rfl rfl (qaz HT_.out (by kernel_rfl)) (fun _ _ _ h => h) (Or.inl ⟨by rfl, ?_⟩) ?_ ?_
       rotate_left
       ·
        intro w'
        go_simp
        with_reducible rfl
       rotate_left
       ·
        simp only [Act.put, qsA, qsZ, qsS, i64_w, i32_w]
        rfl
       refine pure_ (i := 2) (N := some 14) (v := ?_) (a' := ?_) #[true, true, true, false, false, false, false, false] rfl rfl (qaz HT_.out (by kernel_rfl)) (fun _ _ _ h => h) (Or.inl ⟨by rfl, ?_⟩) ?_ ?_
       rotate_left
       ·
        intro w'
        go_simp
        with_reducible rfl
       rotate_left
       ·
        simp only [Act.put, qsA, qsZ, qsS, i64_w, i32_w]
        rfl
       refine pure_ (i := 3) (N := some 15) (v := ?_) (a' := ?_) #[true, true, true, true, false, false, false, false] rfl rfl (qaz HT_.out (by kernel_rfl)) (fun _ _ _ h => h) (Or.inl ⟨by rfl, ?_⟩) ?_ ?_
       rotate_left
       ·
        intro w'
        go_simp
        with_reducible rfl
       rotate_left
       ·
        simp only [Act.put, qsA, qsZ, qsS, i64_w, i32_w]
        rfl
       refine pure_ (i := 5) (N := some 17) (v := ?_) (a' := ?_) #[true, true, true, true, false, true, false, false] rfl rfl (qaz HT_.out (by kernel_rfl)) (fun _ _ _ h => h) (Or.inl ⟨by rfl, ?_⟩) ?_ ?_
       rotate_left
       ·
        intro w'
        go_simp
        with_reducible rfl
       rotate_left
       ·
        simp only [Act.put, qsA, qsZ, qsS, i64_w, i32_w]
        rfl
       refine take_ (i := 4) (N := some 16) (v := ?_) (a' := ?_) #[true, true, true, true, true, true, false, false] rfl rfl (qbj HT_.out HW_.out (by kernel_rfl)) (fun _ _ _ h => h) (Or.inl ⟨by rfl, ?_⟩) hHeld ?_ ?_
       rotate_left
       ·
        rintro w' ⟨s0, s1⟩
        go_simp
        with_reducible rfl
       rotate_left
       ·
        simp only [Act.put, qsA, qsZ, qsS, i64_w, i32_w]
        rfl
       refine one_ (i := 6) (N := some 18) #[true, true, true, true, true, true, true, false] rfl rfl (qbw HT_.out (by kernel_rfl)) (by decide) (fun K hK => ?_)
       refine goes_ Try.func105 (by kernel_rfl) rfl #[.int .i64 x1_1] (by rfl) rfl rfl au6 ?_
       with_reducible refine (laws_markText.calls k1 x1_1 t102 _ A5.out).mono ?_
       rintro e w10 ⟨rfl, hb⟩
       refine ⟨_, rfl, ?_⟩
       replace HB := am (qad (au3 HB.out) hb)
       (try clear hb)
       (try clear hb2)
       (try clear hk)
       (try clear hi)
       refine hK.out _ _ ⟨(qac HB.out hw101_0), (qac HB.out hw101_1)⟩ (fun hHeld => ?_)
       clear hK K
       refine norm_ (a' := ?_) ?_ ?_
       rotate_left
       ·
        show Act.put _ (some 18) _ = _
        simp only [Act.put, qsA, qsZ, qsS, i64_w, i32_w]
        rfl
       refine pure_ (i := 7) (N := some 19) (v := ?_) (a' := ?_) #[true, true, true, true, true, true, true, true] rfl rfl (qaz HT_.out (by kernel_rfl)) (fun _ _ _ h => h) (Or.inl ⟨by rfl, ?_⟩) ?_ ?_
       rotate_left
       ·
        intro w'
        go_simp
        with_reducible rfl
       rotate_left
       ·
        simp only [Act.put, qsA, qsZ, qsS, i64_w, i32_w]
        rfl
       refine done_ (qdd HT_.out (by kernel_rfl)) ?_
       try go_wp2
       replace HB := am (qay HB.out)
       have p103 : 0 ≤ (x5_1 : Int) := of_decide_eq_true au9
       have q103 : x5_1 < (l0.length : Int) := of_decide_eq_true au9
       obtain ⟨ad103, e103, hx103_0, hx103_1⟩ := qax HR0.out x5_1 p103 q103
       have hw103_1 := hx103_1
       have hw103_0 := hx103_0
       obtain rfl : ad101 = ad103 := (by injection e103)
       replace hx103_0 := qac HB.out hx103_0
       replace hx103_1 := qac HB.out hx103_1
       replace p103 := eq_true p103
       replace q103 := eq_true q103
       refine qdm (n := 8) (S := fun w' => w'.cell? (ad101.add ((x5_1).toNat * 2)) = some (.string ((qai l0 x5_1).f0)) ∧ w'.cell? ⟨(ad101.add ((x5_1).toNat * 2)).block, (ad101.add ((x5_1).toNat * 2)).off + 1, none⟩ = some (.string ((qai l0 x5_1).f1))) (ds := []) #[false, false, false, false, false, false, false, false] (by kernel_rfl) rfl rfl ⟨(qac HB.out hw103_0), (qac HB.out hw103_1)⟩ (fun hHeld => ?_); refine qbx laws_heldFileS.tab7 laws_heldFileS.bits7 (fun HT_ HW_ => ?_)
       generalize w10.drew = w11 at HB hx103_0 hx103_1 hHeld ⊢
       refine pure_ (i := 0) (N := some 22) (v := ?_) (a' := ?_) #[true, false, false, false, false, false, false, false] rfl rfl (qaz HT_.out (by kernel_rfl)) (fun _ _ _ h => h) (Or.inl ⟨by rfl, ?_⟩) ?_ ?_
       rotate_left
       ·
        intro w'
        go_simp
        with_reducible rfl
       rotate_left
       ·
        simp only [Act.put, qsA, qsZ, qsS, i64_w, i32_w]
        rfl
       refine pure_ (i := 1) (N := some 23) (v := ?_) (a' := ?_) #[true, true, false, false, false, false, false, false] rfl rfl (qaz HT_.out (by kernel_rfl)) (fun _ _ _ h => h) (Or.inl ⟨by rfl, ?_⟩) ?_ ?_
       rotate_left
       ·
        intro w'
        go_simp
        with_reducible rfl
       rotate_left
       ·
        simp only [Act.put, qsA, qsZ, qsS, i64_w, i32_w]
        rfl
       refine pure_ (i := 2) (N := some 24) (v := ?_) (a' := ?_) #[true, true, true, false, false, false, false, false] rfl rfl (qaz HT_.out (by kernel_rfl)) (fun _ _ _ h => h) (Or.inl ⟨by rfl, ?_⟩) ?_ ?_
       rotate_left
       ·
        intro w'
        go_simp
        with_reducible rfl
       rotate_left
       ·
        simp only [Act.put, qsA, qsZ, qsS, i64_w, i32_w]
        rfl
       refine pure_ (i := 3) (N := some 25) (v := ?_) (a' := ?_) #[true, true, true, true, false, false, false, false] rfl rfl (qaz HT_.out (by kernel_rfl)) (fun _ _ _ h => h) (Or.inl ⟨by rfl, ?_⟩) ?_ ?_
       rotate_left
       ·
        intro w'
        go_simp
        with_reducible rfl
       rotate_left
       ·
        simp only [Act.put, qsA, qsZ, qsS, i64_w, i32_w]
        rfl
       refine pure_ (i := 5) (N := some 27) (v := ?_) (a' := ?_) #[true, true, true, true, false, true, false, false] rfl rfl (qaz HT_.out (by kernel_rfl)) (fun _ _ _ h => h) (Or.inl ⟨by rfl, ?_⟩) ?_ ?_
       rotate_left
       ·
        intro w'
        go_simp
        with_reducible rfl
       rotate_left
       ·
        simp only [Act.put, qsA, qsZ, qsS, i64_w, i32_w]
        rfl
       refine take_ (i := 4) (N := some 26) (v := ?_) (a' := ?_) #[true, true, true, true, true, true, false, false] rfl rfl (qbj HT_.out HW_.out (by kernel_rfl)) (fun _ _ _ h => h) (Or.inl ⟨by rfl, ?_⟩) hHeld ?_ ?_
       rotate_left
       ·
        rintro w' ⟨s0, s1⟩
        go_simp
        with_reducible rfl
       rotate_left
       ·
        simp only [Act.put, qsA, qsZ, qsS, i64_w, i32_w]
        rfl
       refine one_ (i := 6) (N := some 28) #[true, true, true, true, true, true, true, false] rfl rfl (qbw HT_.out (by kernel_rfl)) (by decide) (fun K hK => ?_)
       refine goes_ Try.func105 (by kernel_rfl) rfl #[.int .i64 (wrap64 (x1_1 + 1))] (by rfl) rfl rfl au6 ?_
       with_reducible refine (laws_markText.calls k1 (wrap64 (x1_1 + 1)) t104 _ A7.out).mono ?_
       rintro e w12 ⟨rfl, hb⟩
       refine ⟨_, rfl, ?_⟩
       replace HB := am (qad (au3 HB.out) hb)
       (try clear hb)
       (try clear hb2)
       (try clear hk)
       (try clear hi)
       refine hK.out _ _ ⟨(qac HB.out hw103_0), (qac HB.out hw103_1)⟩ (fun hHeld => ?_)
       clear hK K
       refine norm_ (a' := ?_) ?_ ?_
       rotate_left
       ·
        show Act.put _ (some 28) _ = _
        simp only [Act.put, qsA, qsZ, qsS, i64_w, i32_w]
        rfl
       refine pure_ (i := 7) (N := some 29) (v := ?_) (a' := ?_) #[true, true, true, true, true, true, true, true] rfl rfl (qaz HT_.out (by kernel_rfl)) (fun _ _ _ h => h) (Or.inl ⟨by rfl, ?_⟩) ?_ ?_
       rotate_left
       ·
        intro w'
        go_simp
        with_reducible rfl
       rotate_left
       ·
        simp only [Act.put, qsA, qsZ, qsS, i64_w, i32_w]
        rfl
       refine done_ (qdd HT_.out (by kernel_rfl)) ?_
       try go_wp2
       go_roundg k1
       case measure => have := HK1.out; omega
       case rel => exact ⟨(wrap64 ((wrap64 (x1_1 + 1)) + 1)), (wrap64 (x5_1 + 1)), au10, au10, H', ⟨by have := HK1.out; omega⟩, ⟨(au3 HB.out)⟩⟩
      ·
       rw [if_neg c8] at H
       exact absurd H (by simp)
     ·
      rw [if_neg c6] at H
      exact absurd H (by simp)
    ·
     rw [if_neg c4] at H
     exact absurd H (by simp)
   ·
    rw [if_neg c3] at H
    have c3b0 : decide (x5_1 < (l0.length : Int)) = false := decide_eq_false c3
    clear c3
    obtain rfl := Option.some.inj H
    go_wp2
    go_ret
    exact ⟨by first | rfl | (simp [qag, qah] <;> rfl) | (simp [*, qag, qah] <;> rfl), (au3 HB.out)⟩

end

section
def laws_heldDisk.f (k : Nat) (l0_0 : List (S80)) (l0_1 : List (S80)) (l0_2 : List (S73)) (a1 : Int) : Option (Int) := (laws_heldFileS.f k l0_0 a1).bind fun t102 => (if t102 < 0 then (none) else ((laws_heldFileS.f k l0_1 t102).bind fun t103 => (if t103 < 0 then (none) else ((laws_heldDOpS.f k l0_2 t103).bind fun t104 => (if t104 < 0 then (none) else (some t104))))))
theorem laws_heldDisk.mono : ∀ a0 a1 a2 a3 k, LeO (laws_heldDisk.f k a0 a1 a2 a3) (laws_heldDisk.f (k + 1) a0 a1 a2 a3) := by
 intro a0 a1 a2 a3 k
 unfold laws_heldDisk.f
 repeat' first
  | (with_reducible exact laws_heldDOpS.mono _ _ _)
  | (with_reducible exact laws_heldFileS.mono _ _ _)
  | (with_reducible exact LeO.refl _)
  | (with_reducible exact LeO.none _)
  | (with_reducible refine LeO.ite ?_ ?_)
  | (with_reducible refine LeO.bind ?_ (fun _ => ?_))
  | exact laws_heldDOpS.mono _ _ _
  | exact laws_heldFileS.mono _ _ _
  | exact LeO.none _
  | refine LeO.ite ?_ ?_
  | refine LeO.bind ?_ (fun _ => ?_)
set_option maxHeartbeats 8000000 in
set_option maxRecDepth 100000 in
theorem laws_heldDisk.calls (k : Nat) (A0_0 : Option Addr) (c0_0 : Nat) (l0_0 : List (S80)) (A0_1 : Option Addr) (c0_1 : Nat) (l0_1 : List (S80)) (A0_2 : Option Addr) (c0_2 : Nat) (l0_2 : List (S73)) (a1 : Int) (r : Int) (w : World) (hr0_0 : Kd.C k80 w A0_0 l0_0.length l0_0) (hc0_0 : l0_0.length ≤ c0_0) (hr0_1 : Kd.C k80 w A0_1 l0_1.length l0_1) (hc0_1 : l0_1.length ≤ c0_1) (hr0_2 : Kd.C k73 w A0_2 l0_2.length l0_2) (hc0_2 : l0_2.length ≤ c0_2) (h : laws_heldDisk.f k l0_0 l0_1 l0_2 a1 = some r) :
 Calls Try.prog 30 #[.agg #[.slice A0_0 l0_0.length c0_0, .slice A0_1 l0_1.length c0_1, .slice A0_2 l0_2.length c0_2], .int .i64 a1] w fun e w' => e = .returned (.int .i64 r) ∧ Below w.heap.size w w' := by
 have hu31 := Try.underlying31
 have HR0_0 := am hr0_0
 have HC0_0 := am hc0_0
 clear hr0_0 hc0_0
 have HR0_1 := am hr0_1
 have HC0_1 := am hc0_1
 clear hr0_1 hc0_1
 have HR0_2 := am hr0_2
 have HC0_2 := am hc0_2
 clear hr0_2 hc0_2
 have HB := am (Below.refl w.heap.size w)
 have H : ((laws_heldFileS.f k l0_0 a1).bind fun t102 => (if t102 < 0 then (none) else ((laws_heldFileS.f k l0_1 t102).bind fun t103 => (if t103 < 0 then (none) else ((laws_heldDOpS.f k l0_2 t103).bind fun t104 => (if t104 < 0 then (none) else (some t104))))))) = some r := h
 clear h
 replace H := Option.bind_eq_some_iff.mp H
 obtain ⟨t102, A30, H⟩ := H
 replace H : (if t102 < 0 then (none) else ((laws_heldFileS.f k l0_1 t102).bind fun t103 => (if t103 < 0 then (none) else ((laws_heldDOpS.f k l0_2 t103).bind fun t104 => (if t104 < 0 then (none) else (some t104)))))) = some r := H
 have A3 := am A30
 clear A30
 by_cases c4 : t102 < 0
 ·
  rw [if_pos c4] at H
  exact absurd H (by simp)
 ·
  rw [if_neg c4] at H
  have c4b0 : decide (t102 < 0) = false := decide_eq_false c4
  clear c4
  replace H := Option.bind_eq_some_iff.mp H
  obtain ⟨t103, A50, H⟩ := H
  replace H : (if t103 < 0 then (none) else ((laws_heldDOpS.f k l0_2 t103).bind fun t104 => (if t104 < 0 then (none) else (some t104)))) = some r := H
  have A5 := am A50
  clear A50
  by_cases c6 : t103 < 0
  ·
   rw [if_pos c6] at H
   exact absurd H (by simp)
  ·
   rw [if_neg c6] at H
   have c6b0 : decide (t103 < 0) = false := decide_eq_false c6
   clear c6
   replace H := Option.bind_eq_some_iff.mp H
   obtain ⟨t104, A70, H⟩ := H
   replace H : (if t104 < 0 then (none) else (some t104)) = some r := H
   have A7 := am A70
   clear A70
   by_cases c8 : t104 < 0
   ·
    rw [if_pos c8] at H
    exact absurd H (by simp)
   ·
    rw [if_neg c8] at H
    have c8b0 : decide (t104 < 0) = false := decide_eq_false c8
    clear c8
    obtain rfl := Option.some.inj H
    go_enter Try.func30, Try.ntmps30
    go_wp2_with (first | ((with_reducible refine qal (N := 2) rfl ?_); refine bxE (N := 2) (cs := #[.slice A0_0 l0_0.length c0_0, .slice A0_1 l0_1.length c0_1, .slice A0_2 l0_2.length c0_2]) (t := 31) ?_; intro gb101 hg w9 hbox hb; have BK101 := am (hbox); have GW101 := am (sgE hg (au3 HB.out) : w.heap.size ≤ gb101); have GE101 := GW101; replace HB := am (qad (au3 HB.out) hb); clear hb hbox hg; have hcz10_0 : _ = some (Value.slice A0_0 l0_0.length c0_0) := bcE BK101.out 0; have hcz10_1 : _ = some (Value.slice A0_1 l0_1.length c0_1) := bcE BK101.out 1; have hcz10_2 : _ = some (Value.slice A0_2 l0_2.length c0_2) := bcE BK101.out 2; have hfz10_0 := qaa BK101.out 0; have hfz10_1 := qaa BK101.out 1; have hfz10_2 := qaa BK101.out 2) | ((with_reducible refine qaj (f := 70) rfl ?_); refine qap (some 8) rfl rfl Try.func70 (by kernel_rfl) rfl #[.slice A0_0 l0_0.length c0_0, .int .i64 a1] rfl au6 ?_; (with_reducible refine (laws_heldFileS.calls k _ _ l0_0 a1 t102 _ ?side1 ?side2 A3.out).mono ?_); (case side1 => exact scE (Kd.C_below HR0_0.out HB.out)); (case side2 => exact HC0_0.out); rintro e w11 ⟨rfl, hb⟩; refine ⟨_, rfl, ?_⟩; replace BK101 := am (qab (au1 BK101.out) hb); replace HB := am (qad (au7 HB.out GE101.out) hb); (try clear hb); (try clear hb2); (try clear hk); (try clear hi); have hcz12_0 : _ = some (Value.slice A0_0 l0_0.length c0_0) := bcE BK101.out 0; have hcz12_1 : _ = some (Value.slice A0_1 l0_1.length c0_1) := bcE BK101.out 1; have hcz12_2 : _ = some (Value.slice A0_2 l0_2.length c0_2) := bcE BK101.out 2; have hfz12_0 := qaa BK101.out 0; have hfz12_1 := qaa BK101.out 1; have hfz12_2 := qaa BK101.out 2) | ((with_reducible refine qaj (f := 70) rfl ?_); refine qap (some 14) rfl rfl Try.func70 (by kernel_rfl) rfl #[.slice A0_1 l0_1.length c0_1, .int .i64 t102] rfl au6 ?_; (with_reducible refine (laws_heldFileS.calls k _ _ l0_1 t102 t103 _ ?side1 ?side2 A5.out).mono ?_); (case side1 => exact scE (Kd.C_below HR0_1.out HB.out)); (case side2 => exact HC0_1.out); rintro e w13 ⟨rfl, hb⟩; refine ⟨_, rfl, ?_⟩; replace BK101 := am (qab (au1 BK101.out) hb); replace HB := am (qad (au7 HB.out GE101.out) hb); (try clear hb); (try clear hb2); (try clear hk); (try clear hi); have hcz14_0 : _ = some (Value.slice A0_0 l0_0.length c0_0) := bcE BK101.out 0; have hcz14_1 : _ = some (Value.slice A0_1 l0_1.length c0_1) := bcE BK101.out 1; have hcz14_2 : _ = some (Value.slice A0_2 l0_2.length c0_2) := bcE BK101.out 2; have hfz14_0 := qaa BK101.out 0; have hfz14_1 := qaa BK101.out 1; have hfz14_2 := qaa BK101.out 2) | ((with_reducible refine qaj (f := 71) rfl ?_); refine qap (some 20) rfl rfl Try.func71 (by kernel_rfl) rfl #[.slice A0_2 l0_2.length c0_2, .int .i64 t103] rfl au6 ?_; (with_reducible refine (laws_heldDOpS.calls k _ _ l0_2 t103 t104 _ ?side1 ?side2 A7.out).mono ?_); (case side1 => exact scE (Kd.C_below HR0_2.out HB.out)); (case side2 => exact HC0_2.out); rintro e w15 ⟨rfl, hb⟩; refine ⟨_, rfl, ?_⟩; replace BK101 := am (qab (au1 BK101.out) hb); replace HB := am (qad (au7 HB.out GE101.out) hb); (try clear hb); (try clear hb2); (try clear hk); (try clear hi)))
    go_ret
    exact ⟨by first | rfl | (simp [qag, qah] <;> rfl) | (simp [*, qag, qah] <;> rfl), (au7 HB.out GE101.out)⟩

end

section
def laws_markDOpS.l0 : Nat → List (S73) → Int → Int → Option (Int × (List (S73)))
 | 0, _, _, _ => none
 | k + 1, x0, x1, x5 => if x5 < (x0.length : Int) then (if 0 ≤ x5 then ((some (x0.set (x5 : Int).toNat (⟨x1, (qae x0 x5).f1, (qae x0 x5).f2, (qae x0 x5).f3⟩ : S73) : List (S73))).bind fun y101 => ((laws_markText.f k (wrap64 (x1 + 1))).bind fun t102 => ((some (y101.set (x5 : Int).toNat (⟨(qae y101 x5).f0, t102, (qae y101 x5).f2, (qae y101 x5).f3⟩ : S73) : List (S73))).bind fun y103 => ((laws_markText.f k (wrap64 ((wrap64 (x1 + 1)) + 1))).bind fun t104 => ((some (y103.set (x5 : Int).toNat (⟨(qae y103 x5).f0, (qae y103 x5).f1, t104, (qae y103 x5).f3⟩ : S73) : List (S73))).bind fun y105 => ((laws_markText.f k (wrap64 ((wrap64 ((wrap64 (x1 + 1)) + 1)) + 1))).bind fun t106 => (laws_markDOpS.l0 k (y105.set (x5 : Int).toNat (⟨(qae y105 x5).f0, (qae y105 x5).f1, (qae y105 x5).f2, t106⟩ : S73)) (wrap64 ((wrap64 ((wrap64 ((wrap64 (x1 + 1)) + 1)) + 1)) + 1)) (wrap64 (x5 + 1))))))))) else (none)) else (some (x1, x0))
def laws_markDOpS.f (k : Nat) (l0 : List (S73)) (a1 : Int) : Option (Int × (List (S73))) := laws_markDOpS.l0 k l0 a1 0
theorem laws_markDOpS.mono_l : ∀ k, (∀ y0 y1 y2, LeO (laws_markDOpS.l0 k y0 y1 y2) (laws_markDOpS.l0 (k + 1) y0 y1 y2))
 | 0 => fun _ _ _ r h => by simp [laws_markDOpS.l0] at h
 | k + 1 => by
  have ih0 := laws_markDOpS.mono_l k
  ·
   intro y0 y1 y2
   unfold laws_markDOpS.l0
   repeat' first
   | (with_reducible exact ih0 _ _ _)
   | (with_reducible exact laws_markText.mono _ _)
   | (with_reducible exact LeO.refl _)
   | (with_reducible exact LeO.none _)
   | (with_reducible refine LeO.ite ?_ ?_)
   | (with_reducible refine LeO.bind ?_ (fun _ => ?_))
   | exact ih0 _ _ _
   | exact laws_markText.mono _ _
   | exact LeO.none _
   | refine LeO.ite ?_ ?_
   | refine LeO.bind ?_ (fun _ => ?_)
theorem laws_markDOpS.mono : ∀ a0 a1 k, LeO (laws_markDOpS.f k a0 a1) (laws_markDOpS.f (k + 1) a0 a1) := by
 intro a0 a1 k
 have ih0 := laws_markDOpS.mono_l k
 unfold laws_markDOpS.f
 repeat' first
  | (with_reducible exact ih0 _ _ _)
  | (with_reducible exact laws_markText.mono _ _)
  | (with_reducible exact LeO.refl _)
  | (with_reducible exact LeO.none _)
  | (with_reducible refine LeO.ite ?_ ?_)
  | (with_reducible refine LeO.bind ?_ (fun _ => ?_))
  | exact ih0 _ _ _
  | exact laws_markText.mono _ _
  | exact LeO.none _
  | refine LeO.ite ?_ ?_
  | refine LeO.bind ?_ (fun _ => ?_)
set_option maxHeartbeats 8000000 in
set_option maxRecDepth 100000 in
theorem laws_markDOpS.calls (k : Nat) (P0_ : Nat → Prop) (u9000_ : Value) (l0 : List (S73)) (a1 : Int) (r1 : Int) (r2 : List (S73)) (w0 w : World) (hB : Below w0.heap.size w0 w) (ho0 : Kd.R k73 73 w w0.heap.size P0_ u9000_ l0) (h : laws_markDOpS.f k l0 a1 = some (r1, r2)) :
 Calls Try.prog 69 #[u9000_, .int .i64 a1] w fun e w' => e = .returned (.int .i64 r1) ∧ Kd.R k73 73 w' w0.heap.size (fun k_ => (P0_ k_ ∨ w.heap.size ≤ k_)) u9000_ r2 ∧ Below w0.heap.size w0 w' ∧ Kept w w' (fun k_ => P0_ k_) := by
 have HO0 := am (show Kd.R k73 73 w w0.heap.size (fun k_ => (P0_ k_ ∨ w.heap.size ≤ k_)) u9000_ l0 from Kd.R_mono ho0 (fun k_ hk => (.inl hk)))
 have HK := am (Kept.refl w (fun k_ => P0_ k_))
 have HW0 := am hB.size
 have HB := am hB
 clear hB
 have H : (laws_markDOpS.l0 k l0 a1 0) = some (r1, r2) := h
 clear h
 have H' := am H
 clear H
 go_enter Try.func69, Try.ntmps69
 go_wp2
 go_loopg [1, 5] k (fun kq v1 v5 w' => ∃ (x0_1 : List (S73)) (x1_1 : Int) (x5_1 : Int), v1 = .int .i64 x1_1 ∧ v5 = .int .i64 x5_1 ∧ Aside0 (laws_markDOpS.l0 kq x0_1 x1_1 x5_1 = some (r1, r2)) ∧ Aside0 (kq ≤ k) ∧ Aside0 (Kd.R k73 73 w' w0.heap.size (fun k_ => (P0_ k_ ∨ w.heap.size ≤ k_)) u9000_ x0_1) ∧ Aside0 (Kept w w' (fun k_ => P0_ k_)) ∧ Aside0 (Below w0.heap.size w0 w'))
 case atStart => exact ⟨(l0), (a1), (0), au10, au10, H', ⟨Nat.le_refl _⟩, ⟨au0 HO0.out⟩, ⟨(au17 HK.out)⟩, ⟨(au3 HB.out)⟩⟩
 case round =>
  clear H'
  obtain ⟨x0_1, x1_1, x5_1, rfl, rfl, HA, HK1, HO_0, HK, HB⟩ := hrel
  cases gk with
  | zero => exact absurd HA.out (by simp [laws_markDOpS.l0])
  | succ k1 =>
   have H := HA.out
   clear HA
   simp only [laws_markDOpS.l0] at H
   by_cases c3 : x5_1 < (x0_1.length : Int)
   ·
    rw [if_pos c3] at H
    have c3b0 : decide (x5_1 < (x0_1.length : Int)) = true := decide_eq_true c3
    clear c3
    by_cases c4 : 0 ≤ x5_1
    ·
     rw [if_pos c4] at H
     have c4b0 : decide (0 ≤ x5_1) = true := decide_eq_true c4
     clear c4
     obtain ⟨y101, hy101⟩ : ∃ y_ : List (S73), y_ = (x0_1.set (x5_1 : Int).toNat (⟨x1_1, (qae x0_1 x5_1).f1, (qae x0_1 x5_1).f2, (qae x0_1 x5_1).f3⟩ : S73)) := ⟨_, rfl⟩
     replace H : ((laws_markText.f k1 (wrap64 (x1_1 + 1))).bind fun t102 => ((some (y101.set (x5_1 : Int).toNat (⟨(qae y101 x5_1).f0, t102, (qae y101 x5_1).f2, (qae y101 x5_1).f3⟩ : S73) : List (S73))).bind fun y103 => ((laws_markText.f k1 (wrap64 ((wrap64 (x1_1 + 1)) + 1))).bind fun t104 => ((some (y103.set (x5_1 : Int).toNat (⟨(qae y103 x5_1).f0, (qae y103 x5_1).f1, t104, (qae y103 x5_1).f3⟩ : S73) : List (S73))).bind fun y105 => ((laws_markText.f k1 (wrap64 ((wrap64 ((wrap64 (x1_1 + 1)) + 1)) + 1))).bind fun t106 => (laws_markDOpS.l0 k1 (y105.set (x5_1 : Int).toNat (⟨(qae y105 x5_1).f0, (qae y105 x5_1).f1, (qae y105 x5_1).f2, t106⟩ : S73)) (wrap64 ((wrap64 ((wrap64 ((wrap64 (x1_1 + 1)) + 1)) + 1)) + 1)) (wrap64 (x5_1 + 1)))))))) = some (r1, r2) := by first | (rw [hy101]; with_reducible exact H) | (have H2_ := (Option.bind_some _ _).symm.trans H; rw [hy101]; with_reducible exact H2_) | (have H2_ := (Option.bind_some _ _).symm.trans H; with_reducible exact H2_) | with_reducible exact H | (rw [hy101]; exact H) | exact H
     have Ny101 := am hy101
     clear hy101
     replace H := Option.bind_eq_some_iff.mp H
     obtain ⟨t102, A60, H⟩ := H
     replace H : ((some (y101.set (x5_1 : Int).toNat (⟨(qae y101 x5_1).f0, t102, (qae y101 x5_1).f2, (qae y101 x5_1).f3⟩ : S73) : List (S73))).bind fun y103 => ((laws_markText.f k1 (wrap64 ((wrap64 (x1_1 + 1)) + 1))).bind fun t104 => ((some (y103.set (x5_1 : Int).toNat (⟨(qae y103 x5_1).f0, (qae y103 x5_1).f1, t104, (qae y103 x5_1).f3⟩ : S73) : List (S73))).bind fun y105 => ((laws_markText.f k1 (wrap64 ((wrap64 ((wrap64 (x1_1 + 1)) + 1)) + 1))).bind fun t106 => (laws_markDOpS.l0 k1 (y105.set (x5_1 : Int).toNat (⟨(qae y105 x5_1).f0, (qae y105 x5_1).f1, (qae y105 x5_1).f2, t106⟩ : S73)) (wrap64 ((wrap64 ((wrap64 ((wrap64 (x1_1 + 1)) + 1)) + 1)) + 1)) (wrap64 (x5_1 + 1))))))) = some (r1, r2) := H
     have A6 := am A60
     clear A60
     obtain ⟨y103, hy103⟩ : ∃ y_ : List (S73), y_ = (y101.set (x5_1 : Int).toNat (⟨(qae y101 x5_1).f0, t102, (qae y101 x5_1).f2, (qae y101 x5_1).f3⟩ : S73)) := ⟨_, rfl⟩
     replace H : ((laws_markText.f k1 (wrap64 ((wrap64 (x1_1 + 1)) + 1))).bind fun t104 => ((some (y103.set (x5_1 : Int).toNat (⟨(qae y103 x5_1).f0, (qae y103 x5_1).f1, t104, (qae y103 x5_1).f3⟩ : S73) : List (S73))).bind fun y105 => ((laws_markText.f k1 (wrap64 ((wrap64 ((wrap64 (x1_1 + 1)) + 1)) + 1))).bind fun t106 => (laws_markDOpS.l0 k1 (y105.set (x5_1 : Int).toNat (⟨(qae y105 x5_1).f0, (qae y105 x5_1).f1, (qae y105 x5_1).f2, t106⟩ : S73)) (wrap64 ((wrap64 ((wrap64 ((wrap64 (x1_1 + 1)) + 1)) + 1)) + 1)) (wrap64 (x5_1 + 1)))))) = some (r1, r2) := by first | (rw [hy103]; with_reducible exact H) | (have H2_ := (Option.bind_some _ _).symm.trans H; rw [hy103]; with_reducible exact H2_) | (have H2_ := (Option.bind_some _ _).symm.trans H; with_reducible exact H2_) | with_reducible exact H | (rw [hy103]; exact H) | exact H
     have Ny103 := am hy103
     clear hy103
     replace H := Option.bind_eq_some_iff.mp H
     obtain ⟨t104, A80, H⟩ := H
     replace H : ((some (y103.set (x5_1 : Int).toNat (⟨(qae y103 x5_1).f0, (qae y103 x5_1).f1, t104, (qae y103 x5_1).f3⟩ : S73) : List (S73))).bind fun y105 => ((laws_markText.f k1 (wrap64 ((wrap64 ((wrap64 (x1_1 + 1)) + 1)) + 1))).bind fun t106 => (laws_markDOpS.l0 k1 (y105.set (x5_1 : Int).toNat (⟨(qae y105 x5_1).f0, (qae y105 x5_1).f1, (qae y105 x5_1).f2, t106⟩ : S73)) (wrap64 ((wrap64 ((wrap64 ((wrap64 (x1_1 + 1)) + 1)) + 1)) + 1)) (wrap64 (x5_1 + 1))))) = some (r1, r2) := H
     have A8 := am A80
     clear A80
     obtain ⟨y105, hy105⟩ : ∃ y_ : List (S73), y_ = (y103.set (x5_1 : Int).toNat (⟨(qae y103 x5_1).f0, (qae y103 x5_1).f1, t104, (qae y103 x5_1).f3⟩ : S73)) := ⟨_, rfl⟩
     replace H : ((laws_markText.f k1 (wrap64 ((wrap64 ((wrap64 (x1_1 + 1)) + 1)) + 1))).bind fun t106 => (laws_markDOpS.l0 k1 (y105.set (x5_1 : Int).toNat (⟨(qae y105 x5_1).f0, (qae y105 x5_1).f1, (qae y105 x5_1).f2, t106⟩ : S73)) (wrap64 ((wrap64 ((wrap64 ((wrap64 (x1_1 + 1)) + 1)) + 1)) + 1)) (wrap64 (x5_1 + 1)))) = some (r1, r2) := by first | (rw [hy105]; with_reducible exact H) | (have H2_ := (Option.bind_some _ _).symm.trans H; rw [hy105]; with_reducible exact H2_) | (have H2_ := (Option.bind_some _ _).symm.trans H; with_reducible exact H2_) | with_reducible exact H | (rw [hy105]; exact H) | exact H
     have Ny105 := am hy105
     clear hy105
     replace H := Option.bind_eq_some_iff.mp H
     obtain ⟨t106, A100, H⟩ := H
     replace H : (laws_markDOpS.l0 k1 (y105.set (x5_1 : Int).toNat (⟨(qae y105 x5_1).f0, (qae y105 x5_1).f1, (qae y105 x5_1).f2, t106⟩ : S73)) (wrap64 ((wrap64 ((wrap64 ((wrap64 (x1_1 + 1)) + 1)) + 1)) + 1)) (wrap64 (x5_1 + 1))) = some (r1, r2) := H
     have A10 := am A100
     clear A100
     obtain ⟨y107, hy107⟩ : ∃ y_ : List (S73), y_ = (y105.set (x5_1 : Int).toNat (⟨(qae y105 x5_1).f0, (qae y105 x5_1).f1, (qae y105 x5_1).f2, t106⟩ : S73)) := ⟨_, rfl⟩
     replace H : (laws_markDOpS.l0 k1 y107 (wrap64 ((wrap64 ((wrap64 ((wrap64 (x1_1 + 1)) + 1)) + 1)) + 1)) (wrap64 (x5_1 + 1))) = some (r1, r2) := by first | (rw [hy107]; with_reducible exact H) | (have H2_ := (Option.bind_some _ _).symm.trans H; rw [hy107]; with_reducible exact H2_) | (have H2_ := (Option.bind_some _ _).symm.trans H; with_reducible exact H2_) | with_reducible exact H | (rw [hy107]; exact H) | exact H
     have Ny107 := am hy107
     clear hy107
     have H' := am H
     clear H
     obtain ⟨Ao12, co12, eo12⟩ := Kd.R_slice HO_0.out
     subst eo12
     have p5 : 0 ≤ (x5_1 : Int) := of_decide_eq_true au9
     have q5 : (x5_1 : Int) < ((x0_1.length : Int) : Int) := of_decide_eq_true au9
     obtain ⟨go5, co5, eo5, gb5, gl5, cl5, HG5⟩ := Kd.R_form HO_0.out (by omega)
     (first | cases eo5 | (injection eo5 with ea_ en_ ec_; (first | subst ea_ | (injection ea_ with ea_; subst ea_)); subst ec_; clear en_))
     have GB5 := am gb5
     have GG5 := am HG5
     clear gb5 gl5 HG5
     have HMgo5 := am (show (P0_ go5 ∨ w.heap.size ≤ go5) from (HO_0.out.1 _ rfl))
     obtain ⟨ce5, hcl5, hM5, hcc5, hfr5⟩ := Kd.R_elem HO_0.out z73 (x5_1 : Int) p5 q5
     obtain rfl := qbs hM5
     have hx5_0 : wr.cell? ⟨go5, (x5_1 : Int).toNat * 4, none⟩ = some (.int .i64 ((qae x0_1 x5_1).f0)) := hcc5 0 _ rfl
     have hx5_1 : wr.cell? ⟨go5, (x5_1 : Int).toNat * 4 + 1, none⟩ = some (.string ((qae x0_1 x5_1).f1)) := hcc5 1 _ rfl
     have hx5_2 : wr.cell? ⟨go5, (x5_1 : Int).toNat * 4 + 2, none⟩ = some (.string ((qae x0_1 x5_1).f2)) := hcc5 2 _ rfl
     have hx5_3 : wr.cell? ⟨go5, (x5_1 : Int).toNat * 4 + 3, none⟩ = some (.string ((qae x0_1 x5_1).f3)) := hcc5 3 _ rfl
     have hf5_0 : wr.frozen? ⟨go5, (x5_1 : Int).toNat * 4, none⟩ = false := hfr5 0
     have hf5_1 : wr.frozen? ⟨go5, (x5_1 : Int).toNat * 4 + 1, none⟩ = false := hfr5 1
     have hf5_2 : wr.frozen? ⟨go5, (x5_1 : Int).toNat * 4 + 2, none⟩ = false := hfr5 2
     have hf5_3 : wr.frozen? ⟨go5, (x5_1 : Int).toNat * 4 + 3, none⟩ = false := hfr5 3
     clear hcl5 hcc5 hfr5 hM5
     replace p5 := eq_true p5
     replace q5 := eq_true q5
     have HX13 := am (show Kd.R k73 73 wr w0.heap.size (fun k_ => (P0_ k_ ∨ w.heap.size ≤ k_)) (.slice (some ⟨go5, 0, none⟩) x0_1.length co12) x0_1 from (au0 HO_0.out))
     obtain ⟨ce13, hcl13, hM13, hcc13, hfr13⟩ := Kd.R_elem HX13.out z73 (x5_1 : Int) (of_decide_eq_true au9) (by have h_ : (x5_1 : Int) < ((x0_1.length : Int) : Int) := of_decide_eq_true au9; first | exact h_ | (have e_ := (Kd.R_reads' HO_0.out).1; omega) | simpa using h_)
     obtain rfl := qbs hM13
     have HP13 := Kd.R_seg HX13.out (x5_1 : Int) (of_decide_eq_true au9) (by have h_ : (x5_1 : Int) < ((x0_1.length : Int) : Int) := of_decide_eq_true au9; first | exact h_ | (have e_ := (Kd.R_reads' HO_0.out).1; omega) | simpa using h_) (seg := [.int .i64 x1_1]) (j := 0) hcl13 hcc13 (show 1 ≤ 4 from by decide) (x' := (⟨x1_1, (qae x0_1 x5_1).f1, (qae x0_1 x5_1).f2, (qae x0_1 x5_1).f3⟩ : S73)) (qct _ _ _ (⟨x1_1, (qae x0_1 x5_1).f1, (qae x0_1 x5_1).f2, (qae x0_1 x5_1).f3⟩ : S73) ) (fun _ hk => hk)
     have hx13_0 := hcc13 0 _ rfl
     (try simp only [show (k73).sz = 4 from rfl, Nat.mul_one, Nat.add_zero] at hx13_0)
     have hf13_0 := hfr13 0
     (try simp only [show (k73).sz = 4 from rfl, Nat.mul_one, Nat.add_zero] at hf13_0)
     clear hcl13 hcc13 hfr13 hM13
     go_wp2_with (first | ((with_reducible refine qby (t := 2) (p := 16) rfl ?_); refine qbq (t := 2) (p := 16) (v := ?vo_w14) (w1 := (wr.setCell ⟨go5, (x5_1 : Int).toNat * 4, none⟩ (.int .i64 x1_1))) ?hg ?ho ?hn ?hr ?_; (case ho => rfl); (case hg => rfl); (case hn => rfl); (case hr => first | (go_simp; done) | (go_simp; rfl)); intro w14 hw; have hg : wr.grownBy w14 (some go5) := (by rw [hw]; exact HP13.2); have hp_ : Kd.R k73 73 w14 w0.heap.size (fun k_ => (P0_ k_ ∨ w.heap.size ≤ k_)) (.slice (some ⟨go5, 0, none⟩) x0_1.length co12) y101 := (by rw [hw, Ny101.out]; exact HP13.1); clear HP13; replace HB := am ((by rw [hw]; exact qar (HB.out) GB5.out : Below w0.heap.size w0 w14)); replace HK := am (Kept.of_grown (S := (fun k_ => P0_ k_)) hg (au17 HK.out) (fun k_ e_ => (HO_0.out.1 k_ e_))); replace HO_0 := am (hp_); clear hg hw hp_) | ((with_reducible refine qaj (f := 105) rfl ?_); refine qap (some 22) rfl rfl Try.func105 (by kernel_rfl) rfl #[.int .i64 (wrap64 (x1_1 + 1))] rfl au6 ?_; (with_reducible refine (laws_markText.calls k1 (wrap64 (x1_1 + 1)) t102 _ A6.out).mono ?_); rintro e w15 ⟨rfl, hb⟩; refine ⟨_, rfl, ?_⟩; replace HO_0 := am (Kd.R_below (au0 HO_0.out) hb); replace HK := am (Kept.below (S := (fun k_ => P0_ k_)) (au17 HK.out) hb); replace HB := am (qad (au3 HB.out) hb); (try clear hb); (try clear hb2); (try clear hk); (try clear hi); have p7 : 0 ≤ (x5_1 : Int) := of_decide_eq_true au9; have q7 : (x5_1 : Int) < ((x0_1.length : Int) : Int) := of_decide_eq_true au9; obtain ⟨ce7, hcl7, hM7, hcc7, hfr7⟩ := Kd.R_elem HO_0.out z73 (x5_1 : Int) p7 q7; obtain rfl := qbs hM7; have hx7_0 : w15.cell? ⟨go5, (x5_1 : Int).toNat * 4, none⟩ = some (.int .i64 ((qae y101 x5_1).f0)) := hcc7 0 _ rfl; have hx7_1 : w15.cell? ⟨go5, (x5_1 : Int).toNat * 4 + 1, none⟩ = some (.string ((qae y101 x5_1).f1)) := hcc7 1 _ rfl; have hx7_2 : w15.cell? ⟨go5, (x5_1 : Int).toNat * 4 + 2, none⟩ = some (.string ((qae y101 x5_1).f2)) := hcc7 2 _ rfl; have hx7_3 : w15.cell? ⟨go5, (x5_1 : Int).toNat * 4 + 3, none⟩ = some (.string ((qae y101 x5_1).f3)) := hcc7 3 _ rfl; have hf7_0 : w15.frozen? ⟨go5, (x5_1 : Int).toNat * 4, none⟩ = false := hfr7 0; have hf7_1 : w15.frozen? ⟨go5, (x5_1 : Int).toNat * 4 + 1, none⟩ = false := hfr7 1; have hf7_2 : w15.frozen? ⟨go5, (x5_1 : Int).toNat * 4 + 2, none⟩ = false := hfr7 2; have hf7_3 : w15.frozen? ⟨go5, (x5_1 : Int).toNat * 4 + 3, none⟩ = false := hfr7 3; clear hcl7 hcc7 hfr7 hM7; replace p7 := eq_true p7; replace q7 := eq_true q7; have HX16 := am (show Kd.R k73 73 w15 w0.heap.size (fun k_ => (P0_ k_ ∨ w.heap.size ≤ k_)) (.slice (some ⟨go5, 0, none⟩) x0_1.length co12) y101 from (au0 HO_0.out)); obtain ⟨ce16, hcl16, hM16, hcc16, hfr16⟩ := Kd.R_elem HX16.out z73 (x5_1 : Int) (of_decide_eq_true au9) (by have h_ : (x5_1 : Int) < ((x0_1.length : Int) : Int) := of_decide_eq_true au9; first | exact h_ | (have e_ := (Kd.R_reads' HO_0.out).1; omega) | simpa using h_); obtain rfl := qbs hM16; have HP16 := Kd.R_seg HX16.out (x5_1 : Int) (of_decide_eq_true au9) (by have h_ : (x5_1 : Int) < ((x0_1.length : Int) : Int) := of_decide_eq_true au9; first | exact h_ | (have e_ := (Kd.R_reads' HO_0.out).1; omega) | simpa using h_) (seg := [.string t102]) (j := 1) hcl16 hcc16 (show 2 ≤ 4 from by decide) (x' := (⟨(qae y101 x5_1).f0, t102, (qae y101 x5_1).f2, (qae y101 x5_1).f3⟩ : S73)) (qct _ _ _ (⟨(qae y101 x5_1).f0, t102, (qae y101 x5_1).f2, (qae y101 x5_1).f3⟩ : S73) ) (fun _ hk => hk); have hx16_1 := hcc16 1 _ rfl; (try simp only [show (k73).sz = 4 from rfl, Nat.mul_one, Nat.add_zero] at hx16_1); have hf16_1 := hfr16 1; (try simp only [show (k73).sz = 4 from rfl, Nat.mul_one, Nat.add_zero] at hf16_1); clear hcl16 hcc16 hfr16 hM16) | ((with_reducible refine qby (t := 9) (p := 24) rfl ?_); refine qbq (t := 9) (p := 24) (v := ?vo_w17) (w1 := (w15.setCell ⟨go5, (x5_1 : Int).toNat * 4 + 1, none⟩ (.string t102))) ?hg ?ho ?hn ?hr ?_; (case ho => rfl); (case hg => rfl); (case hn => rfl); (case hr => first | (go_simp; done) | (go_simp; rfl)); intro w17 hw; have hg : w15.grownBy w17 (some go5) := (by rw [hw]; exact HP16.2); have hp_ : Kd.R k73 73 w17 w0.heap.size (fun k_ => (P0_ k_ ∨ w.heap.size ≤ k_)) (.slice (some ⟨go5, 0, none⟩) x0_1.length co12) y103 := (by rw [hw, Ny103.out]; exact HP16.1); clear HP16; replace HB := am ((by rw [hw]; exact qar (HB.out) GB5.out : Below w0.heap.size w0 w17)); replace HK := am (Kept.of_grown (S := (fun k_ => P0_ k_)) hg (au17 HK.out) (fun k_ e_ => (HO_0.out.1 k_ e_))); replace HO_0 := am (hp_); clear hg hw hp_) | ((with_reducible refine qaj (f := 105) rfl ?_); refine qap (some 30) rfl rfl Try.func105 (by kernel_rfl) rfl #[.int .i64 (wrap64 ((wrap64 (x1_1 + 1)) + 1))] rfl au6 ?_; (with_reducible refine (laws_markText.calls k1 (wrap64 ((wrap64 (x1_1 + 1)) + 1)) t104 _ A8.out).mono ?_); rintro e w18 ⟨rfl, hb⟩; refine ⟨_, rfl, ?_⟩; replace HO_0 := am (Kd.R_below (au0 HO_0.out) hb); replace HK := am (Kept.below (S := (fun k_ => P0_ k_)) (au17 HK.out) hb); replace HB := am (qad (au3 HB.out) hb); (try clear hb); (try clear hb2); (try clear hk); (try clear hi); have p9 : 0 ≤ (x5_1 : Int) := of_decide_eq_true au9; have q9 : (x5_1 : Int) < ((x0_1.length : Int) : Int) := of_decide_eq_true au9; obtain ⟨ce9, hcl9, hM9, hcc9, hfr9⟩ := Kd.R_elem HO_0.out z73 (x5_1 : Int) p9 q9; obtain rfl := qbs hM9; have hx9_0 : w18.cell? ⟨go5, (x5_1 : Int).toNat * 4, none⟩ = some (.int .i64 ((qae y103 x5_1).f0)) := hcc9 0 _ rfl; have hx9_1 : w18.cell? ⟨go5, (x5_1 : Int).toNat * 4 + 1, none⟩ = some (.string ((qae y103 x5_1).f1)) := hcc9 1 _ rfl; have hx9_2 : w18.cell? ⟨go5, (x5_1 : Int).toNat * 4 + 2, none⟩ = some (.string ((qae y103 x5_1).f2)) := hcc9 2 _ rfl; have hx9_3 : w18.cell? ⟨go5, (x5_1 : Int).toNat * 4 + 3, none⟩ = some (.string ((qae y103 x5_1).f3)) := hcc9 3 _ rfl; have hf9_0 : w18.frozen? ⟨go5, (x5_1 : Int).toNat * 4, none⟩ = false := hfr9 0; have hf9_1 : w18.frozen? ⟨go5, (x5_1 : Int).toNat * 4 + 1, none⟩ = false := hfr9 1; have hf9_2 : w18.frozen? ⟨go5, (x5_1 : Int).toNat * 4 + 2, none⟩ = false := hfr9 2; have hf9_3 : w18.frozen? ⟨go5, (x5_1 : Int).toNat * 4 + 3, none⟩ = false := hfr9 3; clear hcl9 hcc9 hfr9 hM9; replace p9 := eq_true p9; replace q9 := eq_true q9; have HX19 := am (show Kd.R k73 73 w18 w0.heap.size (fun k_ => (P0_ k_ ∨ w.heap.size ≤ k_)) (.slice (some ⟨go5, 0, none⟩) x0_1.length co12) y103 from (au0 HO_0.out)); obtain ⟨ce19, hcl19, hM19, hcc19, hfr19⟩ := Kd.R_elem HX19.out z73 (x5_1 : Int) (of_decide_eq_true au9) (by have h_ : (x5_1 : Int) < ((x0_1.length : Int) : Int) := of_decide_eq_true au9; first | exact h_ | (have e_ := (Kd.R_reads' HO_0.out).1; omega) | simpa using h_); obtain rfl := qbs hM19; have HP19 := Kd.R_seg HX19.out (x5_1 : Int) (of_decide_eq_true au9) (by have h_ : (x5_1 : Int) < ((x0_1.length : Int) : Int) := of_decide_eq_true au9; first | exact h_ | (have e_ := (Kd.R_reads' HO_0.out).1; omega) | simpa using h_) (seg := [.string t104]) (j := 2) hcl19 hcc19 (show 3 ≤ 4 from by decide) (x' := (⟨(qae y103 x5_1).f0, (qae y103 x5_1).f1, t104, (qae y103 x5_1).f3⟩ : S73)) (qct _ _ _ (⟨(qae y103 x5_1).f0, (qae y103 x5_1).f1, t104, (qae y103 x5_1).f3⟩ : S73) ) (fun _ hk => hk); have hx19_2 := hcc19 2 _ rfl; (try simp only [show (k73).sz = 4 from rfl, Nat.mul_one, Nat.add_zero] at hx19_2); have hf19_2 := hfr19 2; (try simp only [show (k73).sz = 4 from rfl, Nat.mul_one, Nat.add_zero] at hf19_2); clear hcl19 hcc19 hfr19 hM19) | ((with_reducible refine qby (t := 9) (p := 32) rfl ?_); refine qbq (t := 9) (p := 32) (v := ?vo_w20) (w1 := (w18.setCell ⟨go5, (x5_1 : Int).toNat * 4 + 2, none⟩ (.string t104))) ?hg ?ho ?hn ?hr ?_; (case ho => rfl); (case hg => rfl); (case hn => rfl); (case hr => first | (go_simp; done) | (go_simp; rfl)); intro w20 hw; have hg : w18.grownBy w20 (some go5) := (by rw [hw]; exact HP19.2); have hp_ : Kd.R k73 73 w20 w0.heap.size (fun k_ => (P0_ k_ ∨ w.heap.size ≤ k_)) (.slice (some ⟨go5, 0, none⟩) x0_1.length co12) y105 := (by rw [hw, Ny105.out]; exact HP19.1); clear HP19; replace HB := am ((by rw [hw]; exact qar (HB.out) GB5.out : Below w0.heap.size w0 w20)); replace HK := am (Kept.of_grown (S := (fun k_ => P0_ k_)) hg (au17 HK.out) (fun k_ e_ => (HO_0.out.1 k_ e_))); replace HO_0 := am (hp_); clear hg hw hp_) | ((with_reducible refine qaj (f := 105) rfl ?_); refine qap (some 38) rfl rfl Try.func105 (by kernel_rfl) rfl #[.int .i64 (wrap64 ((wrap64 ((wrap64 (x1_1 + 1)) + 1)) + 1))] rfl au6 ?_; (with_reducible refine (laws_markText.calls k1 (wrap64 ((wrap64 ((wrap64 (x1_1 + 1)) + 1)) + 1)) t106 _ A10.out).mono ?_); rintro e w21 ⟨rfl, hb⟩; refine ⟨_, rfl, ?_⟩; replace HO_0 := am (Kd.R_below (au0 HO_0.out) hb); replace HK := am (Kept.below (S := (fun k_ => P0_ k_)) (au17 HK.out) hb); replace HB := am (qad (au3 HB.out) hb); (try clear hb); (try clear hb2); (try clear hk); (try clear hi); have p11 : 0 ≤ (x5_1 : Int) := of_decide_eq_true au9; have q11 : (x5_1 : Int) < ((x0_1.length : Int) : Int) := of_decide_eq_true au9; obtain ⟨ce11, hcl11, hM11, hcc11, hfr11⟩ := Kd.R_elem HO_0.out z73 (x5_1 : Int) p11 q11; obtain rfl := qbs hM11; have hx11_0 : w21.cell? ⟨go5, (x5_1 : Int).toNat * 4, none⟩ = some (.int .i64 ((qae y105 x5_1).f0)) := hcc11 0 _ rfl; have hx11_1 : w21.cell? ⟨go5, (x5_1 : Int).toNat * 4 + 1, none⟩ = some (.string ((qae y105 x5_1).f1)) := hcc11 1 _ rfl; have hx11_2 : w21.cell? ⟨go5, (x5_1 : Int).toNat * 4 + 2, none⟩ = some (.string ((qae y105 x5_1).f2)) := hcc11 2 _ rfl; have hx11_3 : w21.cell? ⟨go5, (x5_1 : Int).toNat * 4 + 3, none⟩ = some (.string ((qae y105 x5_1).f3)) := hcc11 3 _ rfl; have hf11_0 : w21.frozen? ⟨go5, (x5_1 : Int).toNat * 4, none⟩ = false := hfr11 0; have hf11_1 : w21.frozen? ⟨go5, (x5_1 : Int).toNat * 4 + 1, none⟩ = false := hfr11 1; have hf11_2 : w21.frozen? ⟨go5, (x5_1 : Int).toNat * 4 + 2, none⟩ = false := hfr11 2; have hf11_3 : w21.frozen? ⟨go5, (x5_1 : Int).toNat * 4 + 3, none⟩ = false := hfr11 3; clear hcl11 hcc11 hfr11 hM11; replace p11 := eq_true p11; replace q11 := eq_true q11; have HX22 := am (show Kd.R k73 73 w21 w0.heap.size (fun k_ => (P0_ k_ ∨ w.heap.size ≤ k_)) (.slice (some ⟨go5, 0, none⟩) x0_1.length co12) y105 from (au0 HO_0.out)); obtain ⟨ce22, hcl22, hM22, hcc22, hfr22⟩ := Kd.R_elem HX22.out z73 (x5_1 : Int) (of_decide_eq_true au9) (by have h_ : (x5_1 : Int) < ((x0_1.length : Int) : Int) := of_decide_eq_true au9; first | exact h_ | (have e_ := (Kd.R_reads' HO_0.out).1; omega) | simpa using h_); obtain rfl := qbs hM22; have HP22 := Kd.R_seg HX22.out (x5_1 : Int) (of_decide_eq_true au9) (by have h_ : (x5_1 : Int) < ((x0_1.length : Int) : Int) := of_decide_eq_true au9; first | exact h_ | (have e_ := (Kd.R_reads' HO_0.out).1; omega) | simpa using h_) (seg := [.string t106]) (j := 3) hcl22 hcc22 (show 4 ≤ 4 from by decide) (x' := (⟨(qae y105 x5_1).f0, (qae y105 x5_1).f1, (qae y105 x5_1).f2, t106⟩ : S73)) (qct _ _ _ (⟨(qae y105 x5_1).f0, (qae y105 x5_1).f1, (qae y105 x5_1).f2, t106⟩ : S73) ) (fun _ hk => hk); have hx22_3 := hcc22 3 _ rfl; (try simp only [show (k73).sz = 4 from rfl, Nat.mul_one, Nat.add_zero] at hx22_3); have hf22_3 := hfr22 3; (try simp only [show (k73).sz = 4 from rfl, Nat.mul_one, Nat.add_zero] at hf22_3); clear hcl22 hcc22 hfr22 hM22) | ((with_reducible refine qby (t := 9) (p := 40) rfl ?_); refine qbq (t := 9) (p := 40) (v := ?vo_w23) (w1 := (w21.setCell ⟨go5, (x5_1 : Int).toNat * 4 + 3, none⟩ (.string t106))) ?hg ?ho ?hn ?hr ?_; (case ho => rfl); (case hg => rfl); (case hn => rfl); (case hr => first | (go_simp; done) | (go_simp; rfl)); intro w23 hw; have hg : w21.grownBy w23 (some go5) := (by rw [hw]; exact HP22.2); have hp_ : Kd.R k73 73 w23 w0.heap.size (fun k_ => (P0_ k_ ∨ w.heap.size ≤ k_)) (.slice (some ⟨go5, 0, none⟩) x0_1.length co12) y107 := (by rw [hw, Ny107.out]; exact HP22.1); clear HP22; replace HB := am ((by rw [hw]; exact qar (HB.out) GB5.out : Below w0.heap.size w0 w23)); replace HK := am (Kept.of_grown (S := (fun k_ => P0_ k_)) hg (au17 HK.out) (fun k_ e_ => (HO_0.out.1 k_ e_))); replace HO_0 := am (hp_); clear hg hw hp_))
     go_roundg k1
     case measure => have := HK1.out; omega
     case rel => exact ⟨(y107), (wrap64 ((wrap64 ((wrap64 ((wrap64 (x1_1 + 1)) + 1)) + 1)) + 1)), (wrap64 (x5_1 + 1)), au10, au10, H', ⟨by have := HK1.out; omega⟩, ⟨au0 HO_0.out⟩, ⟨(au17 HK.out)⟩, ⟨(au3 HB.out)⟩⟩
    ·
     rw [if_neg c4] at H
     exact absurd H (by simp)
   ·
    rw [if_neg c3] at H
    have c3b0 : decide (x5_1 < (x0_1.length : Int)) = false := decide_eq_false c3
    clear c3
    simp only [Option.some.injEq, Prod.mk.injEq] at H
    obtain ⟨rfl, rfl⟩ := H
    obtain ⟨Ao24, co24, eo24⟩ := Kd.R_slice HO_0.out
    subst eo24
    go_wp2
    go_ret
    exact ⟨by first | rfl | (simp [qag, qah] <;> rfl) | (simp [*, qag, qah] <;> rfl), au0 HO_0.out, (au3 HB.out), (au17 HK.out)⟩

end

section
def laws_markFileS.l0 : Nat → List (S80) → Int → Int → Option (Int × (List (S80)))
 | 0, _, _, _ => none
 | k + 1, x0, x1, x5 => if x5 < (x0.length : Int) then ((laws_markText.f k x1).bind fun t101 => (if 0 ≤ x5 then ((some (x0.set (x5 : Int).toNat (⟨t101, (qai x0 x5).f1⟩ : S80) : List (S80))).bind fun y102 => ((laws_markText.f k (wrap64 (x1 + 1))).bind fun t103 => (laws_markFileS.l0 k (y102.set (x5 : Int).toNat (⟨(qai y102 x5).f0, t103⟩ : S80)) (wrap64 ((wrap64 (x1 + 1)) + 1)) (wrap64 (x5 + 1))))) else (none))) else (some (x1, x0))
def laws_markFileS.f (k : Nat) (l0 : List (S80)) (a1 : Int) : Option (Int × (List (S80))) := laws_markFileS.l0 k l0 a1 0
theorem laws_markFileS.mono_l : ∀ k, (∀ y0 y1 y2, LeO (laws_markFileS.l0 k y0 y1 y2) (laws_markFileS.l0 (k + 1) y0 y1 y2))
 | 0 => fun _ _ _ r h => by simp [laws_markFileS.l0] at h
 | k + 1 => by
  have ih0 := laws_markFileS.mono_l k
  ·
   intro y0 y1 y2
   unfold laws_markFileS.l0
   repeat' first
   | (with_reducible exact ih0 _ _ _)
   | (with_reducible exact laws_markText.mono _ _)
   | (with_reducible exact LeO.refl _)
   | (with_reducible exact LeO.none _)
   | (with_reducible refine LeO.ite ?_ ?_)
   | (with_reducible refine LeO.bind ?_ (fun _ => ?_))
   | exact ih0 _ _ _
   | exact laws_markText.mono _ _
   | exact LeO.none _
   | refine LeO.ite ?_ ?_
   | refine LeO.bind ?_ (fun _ => ?_)
theorem laws_markFileS.mono : ∀ a0 a1 k, LeO (laws_markFileS.f k a0 a1) (laws_markFileS.f (k + 1) a0 a1) := by
 intro a0 a1 k
 have ih0 := laws_markFileS.mono_l k
 unfold laws_markFileS.f
 repeat' first
  | (with_reducible exact ih0 _ _ _)
  | (with_reducible exact laws_markText.mono _ _)
  | (with_reducible exact LeO.refl _)
  | (with_reducible exact LeO.none _)
  | (with_reducible refine LeO.ite ?_ ?_)
  | (with_reducible refine LeO.bind ?_ (fun _ => ?_))
  | exact ih0 _ _ _
  | exact laws_markText.mono _ _
  | exact LeO.none _
  | refine LeO.ite ?_ ?_
  | refine LeO.bind ?_ (fun _ => ?_)
set_option maxHeartbeats 8000000 in
set_option maxRecDepth 100000 in
theorem laws_markFileS.calls (k : Nat) (P0_ : Nat → Prop) (u9000_ : Value) (l0 : List (S80)) (a1 : Int) (r1 : Int) (r2 : List (S80)) (w0 w : World) (hB : Below w0.heap.size w0 w) (ho0 : Kd.R k80 80 w w0.heap.size P0_ u9000_ l0) (h : laws_markFileS.f k l0 a1 = some (r1, r2)) :
 Calls Try.prog 68 #[u9000_, .int .i64 a1] w fun e w' => e = .returned (.int .i64 r1) ∧ Kd.R k80 80 w' w0.heap.size (fun k_ => (P0_ k_ ∨ w.heap.size ≤ k_)) u9000_ r2 ∧ Below w0.heap.size w0 w' ∧ Kept w w' (fun k_ => P0_ k_) := by
 have HO0 := am (show Kd.R k80 80 w w0.heap.size (fun k_ => (P0_ k_ ∨ w.heap.size ≤ k_)) u9000_ l0 from Kd.R_mono ho0 (fun k_ hk => (.inl hk)))
 have HK := am (Kept.refl w (fun k_ => P0_ k_))
 have HW0 := am hB.size
 have HB := am hB
 clear hB
 have H : (laws_markFileS.l0 k l0 a1 0) = some (r1, r2) := h
 clear h
 have H' := am H
 clear H
 go_enter Try.func68, Try.ntmps68
 go_wp2
 go_loopg [1, 5] k (fun kq v1 v5 w' => ∃ (x0_1 : List (S80)) (x1_1 : Int) (x5_1 : Int), v1 = .int .i64 x1_1 ∧ v5 = .int .i64 x5_1 ∧ Aside0 (laws_markFileS.l0 kq x0_1 x1_1 x5_1 = some (r1, r2)) ∧ Aside0 (kq ≤ k) ∧ Aside0 (Kd.R k80 80 w' w0.heap.size (fun k_ => (P0_ k_ ∨ w.heap.size ≤ k_)) u9000_ x0_1) ∧ Aside0 (Kept w w' (fun k_ => P0_ k_)) ∧ Aside0 (Below w0.heap.size w0 w'))
 case atStart => exact ⟨(l0), (a1), (0), au10, au10, H', ⟨Nat.le_refl _⟩, ⟨au0 HO0.out⟩, ⟨(au17 HK.out)⟩, ⟨(au3 HB.out)⟩⟩
 case round =>
  clear H'
  obtain ⟨x0_1, x1_1, x5_1, rfl, rfl, HA, HK1, HO_0, HK, HB⟩ := hrel
  cases gk with
  | zero => exact absurd HA.out (by simp [laws_markFileS.l0])
  | succ k1 =>
   have H := HA.out
   clear HA
   simp only [laws_markFileS.l0] at H
   by_cases c3 : x5_1 < (x0_1.length : Int)
   ·
    rw [if_pos c3] at H
    have c3b0 : decide (x5_1 < (x0_1.length : Int)) = true := decide_eq_true c3
    clear c3
    replace H := Option.bind_eq_some_iff.mp H
    obtain ⟨t101, A40, H⟩ := H
    replace H : (if 0 ≤ x5_1 then ((some (x0_1.set (x5_1 : Int).toNat (⟨t101, (qai x0_1 x5_1).f1⟩ : S80) : List (S80))).bind fun y102 => ((laws_markText.f k1 (wrap64 (x1_1 + 1))).bind fun t103 => (laws_markFileS.l0 k1 (y102.set (x5_1 : Int).toNat (⟨(qai y102 x5_1).f0, t103⟩ : S80)) (wrap64 ((wrap64 (x1_1 + 1)) + 1)) (wrap64 (x5_1 + 1))))) else (none)) = some (r1, r2) := H
    have A4 := am A40
    clear A40
    by_cases c5 : 0 ≤ x5_1
    ·
     rw [if_pos c5] at H
     have c5b0 : decide (0 ≤ x5_1) = true := decide_eq_true c5
     clear c5
     obtain ⟨y102, hy102⟩ : ∃ y_ : List (S80), y_ = (x0_1.set (x5_1 : Int).toNat (⟨t101, (qai x0_1 x5_1).f1⟩ : S80)) := ⟨_, rfl⟩
     replace H : ((laws_markText.f k1 (wrap64 (x1_1 + 1))).bind fun t103 => (laws_markFileS.l0 k1 (y102.set (x5_1 : Int).toNat (⟨(qai y102 x5_1).f0, t103⟩ : S80)) (wrap64 ((wrap64 (x1_1 + 1)) + 1)) (wrap64 (x5_1 + 1)))) = some (r1, r2) := by first | (rw [hy102]; with_reducible exact H) | (have H2_ := (Option.bind_some _ _).symm.trans H; rw [hy102]; with_reducible exact H2_) | (have H2_ := (Option.bind_some _ _).symm.trans H; with_reducible exact H2_) | with_reducible exact H | (rw [hy102]; exact H) | exact H
     have Ny102 := am hy102
     clear hy102
     replace H := Option.bind_eq_some_iff.mp H
     obtain ⟨t103, A70, H⟩ := H
     replace H : (laws_markFileS.l0 k1 (y102.set (x5_1 : Int).toNat (⟨(qai y102 x5_1).f0, t103⟩ : S80)) (wrap64 ((wrap64 (x1_1 + 1)) + 1)) (wrap64 (x5_1 + 1))) = some (r1, r2) := H
     have A7 := am A70
     clear A70
     obtain ⟨y104, hy104⟩ : ∃ y_ : List (S80), y_ = (y102.set (x5_1 : Int).toNat (⟨(qai y102 x5_1).f0, t103⟩ : S80)) := ⟨_, rfl⟩
     replace H : (laws_markFileS.l0 k1 y104 (wrap64 ((wrap64 (x1_1 + 1)) + 1)) (wrap64 (x5_1 + 1))) = some (r1, r2) := by first | (rw [hy104]; with_reducible exact H) | (have H2_ := (Option.bind_some _ _).symm.trans H; rw [hy104]; with_reducible exact H2_) | (have H2_ := (Option.bind_some _ _).symm.trans H; with_reducible exact H2_) | with_reducible exact H | (rw [hy104]; exact H) | exact H
     have Ny104 := am hy104
     clear hy104
     have H' := am H
     clear H
     obtain ⟨Ao9, co9, eo9⟩ := Kd.R_slice HO_0.out
     subst eo9
     go_wp2_with (first | ((with_reducible refine qaj (f := 105) rfl ?_); refine qap (some 15) rfl rfl Try.func105 (by kernel_rfl) rfl #[.int .i64 x1_1] rfl au6 ?_; (with_reducible refine (laws_markText.calls k1 x1_1 t101 _ A4.out).mono ?_); rintro e w10 ⟨rfl, hb⟩; refine ⟨_, rfl, ?_⟩; replace HO_0 := am (Kd.R_below (au0 HO_0.out) hb); replace HK := am (Kept.below (S := (fun k_ => P0_ k_)) (au17 HK.out) hb); replace HB := am (qad (au3 HB.out) hb); (try clear hb); (try clear hb2); (try clear hk); (try clear hi); have p6 : 0 ≤ (x5_1 : Int) := of_decide_eq_true au9; have q6 : (x5_1 : Int) < ((x0_1.length : Int) : Int) := of_decide_eq_true au9; obtain ⟨go6, co6, eo6, gb6, gl6, cl6, HG6⟩ := Kd.R_form HO_0.out (by omega); (first | cases eo6 | (injection eo6 with ea_ en_ ec_; (first | subst ea_ | (injection ea_ with ea_; subst ea_)); subst ec_; clear en_)); have GB6 := am gb6; have GG6 := am HG6; clear gb6 gl6 HG6; have HMgo6 := am (show (P0_ go6 ∨ w.heap.size ≤ go6) from (HO_0.out.1 _ rfl)); obtain ⟨ce6, hcl6, hM6, hcc6, hfr6⟩ := Kd.R_elem HO_0.out z80 (x5_1 : Int) p6 q6; obtain rfl := qcp hM6; have hx6_0 : w10.cell? ⟨go6, (x5_1 : Int).toNat * 2, none⟩ = some (.string ((qai x0_1 x5_1).f0)) := hcc6 0 _ rfl; have hx6_1 : w10.cell? ⟨go6, (x5_1 : Int).toNat * 2 + 1, none⟩ = some (.string ((qai x0_1 x5_1).f1)) := hcc6 1 _ rfl; have hf6_0 : w10.frozen? ⟨go6, (x5_1 : Int).toNat * 2, none⟩ = false := hfr6 0; have hf6_1 : w10.frozen? ⟨go6, (x5_1 : Int).toNat * 2 + 1, none⟩ = false := hfr6 1; clear hcl6 hcc6 hfr6 hM6; replace p6 := eq_true p6; replace q6 := eq_true q6; have HX11 := am (show Kd.R k80 80 w10 w0.heap.size (fun k_ => (P0_ k_ ∨ w.heap.size ≤ k_)) (.slice (some ⟨go6, 0, none⟩) x0_1.length co9) x0_1 from (au0 HO_0.out)); obtain ⟨ce11, hcl11, hM11, hcc11, hfr11⟩ := Kd.R_elem HX11.out z80 (x5_1 : Int) (of_decide_eq_true au9) (by have h_ : (x5_1 : Int) < ((x0_1.length : Int) : Int) := of_decide_eq_true au9; first | exact h_ | (have e_ := (Kd.R_reads' HO_0.out).1; omega) | simpa using h_); obtain rfl := qcp hM11; have HP11 := Kd.R_seg HX11.out (x5_1 : Int) (of_decide_eq_true au9) (by have h_ : (x5_1 : Int) < ((x0_1.length : Int) : Int) := of_decide_eq_true au9; first | exact h_ | (have e_ := (Kd.R_reads' HO_0.out).1; omega) | simpa using h_) (seg := [.string t101]) (j := 0) hcl11 hcc11 (show 1 ≤ 2 from by decide) (x' := (⟨t101, (qai x0_1 x5_1).f1⟩ : S80)) (qcs _ _ _ (⟨t101, (qai x0_1 x5_1).f1⟩ : S80) ) (fun _ hk => hk); have hx11_0 := hcc11 0 _ rfl; (try simp only [show (k80).sz = 2 from rfl, Nat.mul_one, Nat.add_zero] at hx11_0); have hf11_0 := hfr11 0; (try simp only [show (k80).sz = 2 from rfl, Nat.mul_one, Nat.add_zero] at hf11_0); clear hcl11 hcc11 hfr11 hM11) | ((with_reducible refine qby (t := 9) (p := 17) rfl ?_); refine qbq (t := 9) (p := 17) (v := ?vo_w12) (w1 := (w10.setCell ⟨go6, (x5_1 : Int).toNat * 2, none⟩ (.string t101))) ?hg ?ho ?hn ?hr ?_; (case ho => rfl); (case hg => rfl); (case hn => rfl); (case hr => first | (go_simp; done) | (go_simp; rfl)); intro w12 hw; have hg : w10.grownBy w12 (some go6) := (by rw [hw]; exact HP11.2); have hp_ : Kd.R k80 80 w12 w0.heap.size (fun k_ => (P0_ k_ ∨ w.heap.size ≤ k_)) (.slice (some ⟨go6, 0, none⟩) x0_1.length co9) y102 := (by rw [hw, Ny102.out]; exact HP11.1); clear HP11; replace HB := am ((by rw [hw]; exact qar (HB.out) GB6.out : Below w0.heap.size w0 w12)); replace HK := am (Kept.of_grown (S := (fun k_ => P0_ k_)) hg (au17 HK.out) (fun k_ e_ => (HO_0.out.1 k_ e_))); replace HO_0 := am (hp_); clear hg hw hp_) | ((with_reducible refine qaj (f := 105) rfl ?_); refine qap (some 23) rfl rfl Try.func105 (by kernel_rfl) rfl #[.int .i64 (wrap64 (x1_1 + 1))] rfl au6 ?_; (with_reducible refine (laws_markText.calls k1 (wrap64 (x1_1 + 1)) t103 _ A7.out).mono ?_); rintro e w13 ⟨rfl, hb⟩; refine ⟨_, rfl, ?_⟩; replace HO_0 := am (Kd.R_below (au0 HO_0.out) hb); replace HK := am (Kept.below (S := (fun k_ => P0_ k_)) (au17 HK.out) hb); replace HB := am (qad (au3 HB.out) hb); (try clear hb); (try clear hb2); (try clear hk); (try clear hi); have p8 : 0 ≤ (x5_1 : Int) := of_decide_eq_true au9; have q8 : (x5_1 : Int) < ((x0_1.length : Int) : Int) := of_decide_eq_true au9; obtain ⟨ce8, hcl8, hM8, hcc8, hfr8⟩ := Kd.R_elem HO_0.out z80 (x5_1 : Int) p8 q8; obtain rfl := qcp hM8; have hx8_0 : w13.cell? ⟨go6, (x5_1 : Int).toNat * 2, none⟩ = some (.string ((qai y102 x5_1).f0)) := hcc8 0 _ rfl; have hx8_1 : w13.cell? ⟨go6, (x5_1 : Int).toNat * 2 + 1, none⟩ = some (.string ((qai y102 x5_1).f1)) := hcc8 1 _ rfl; have hf8_0 : w13.frozen? ⟨go6, (x5_1 : Int).toNat * 2, none⟩ = false := hfr8 0; have hf8_1 : w13.frozen? ⟨go6, (x5_1 : Int).toNat * 2 + 1, none⟩ = false := hfr8 1; clear hcl8 hcc8 hfr8 hM8; replace p8 := eq_true p8; replace q8 := eq_true q8; have HX14 := am (show Kd.R k80 80 w13 w0.heap.size (fun k_ => (P0_ k_ ∨ w.heap.size ≤ k_)) (.slice (some ⟨go6, 0, none⟩) x0_1.length co9) y102 from (au0 HO_0.out)); obtain ⟨ce14, hcl14, hM14, hcc14, hfr14⟩ := Kd.R_elem HX14.out z80 (x5_1 : Int) (of_decide_eq_true au9) (by have h_ : (x5_1 : Int) < ((x0_1.length : Int) : Int) := of_decide_eq_true au9; first | exact h_ | (have e_ := (Kd.R_reads' HO_0.out).1; omega) | simpa using h_); obtain rfl := qcp hM14; have HP14 := Kd.R_seg HX14.out (x5_1 : Int) (of_decide_eq_true au9) (by have h_ : (x5_1 : Int) < ((x0_1.length : Int) : Int) := of_decide_eq_true au9; first | exact h_ | (have e_ := (Kd.R_reads' HO_0.out).1; omega) | simpa using h_) (seg := [.string t103]) (j := 1) hcl14 hcc14 (show 2 ≤ 2 from by decide) (x' := (⟨(qai y102 x5_1).f0, t103⟩ : S80)) (qcs _ _ _ (⟨(qai y102 x5_1).f0, t103⟩ : S80) ) (fun _ hk => hk); have hx14_1 := hcc14 1 _ rfl; (try simp only [show (k80).sz = 2 from rfl, Nat.mul_one, Nat.add_zero] at hx14_1); have hf14_1 := hfr14 1; (try simp only [show (k80).sz = 2 from rfl, Nat.mul_one, Nat.add_zero] at hf14_1); clear hcl14 hcc14 hfr14 hM14) | ((with_reducible refine qby (t := 9) (p := 25) rfl ?_); refine qbq (t := 9) (p := 25) (v := ?vo_w15) (w1 := (w13.setCell ⟨go6, (x5_1 : Int).toNat * 2 + 1, none⟩ (.string t103))) ?hg ?ho ?hn ?hr ?_; (case ho => rfl); (case hg => rfl); (case hn => rfl); (case hr => first | (go_simp; done) | (go_simp; rfl)); intro w15 hw; have hg : w13.grownBy w15 (some go6) := (by rw [hw]; exact HP14.2); have hp_ : Kd.R k80 80 w15 w0.heap.size (fun k_ => (P0_ k_ ∨ w.heap.size ≤ k_)) (.slice (some ⟨go6, 0, none⟩) x0_1.length co9) y104 := (by rw [hw, Ny104.out]; exact HP14.1); clear HP14; replace HB := am ((by rw [hw]; exact qar (HB.out) GB6.out : Below w0.heap.size w0 w15)); replace HK := am (Kept.of_grown (S := (fun k_ => P0_ k_)) hg (au17 HK.out) (fun k_ e_ => (HO_0.out.1 k_ e_))); replace HO_0 := am (hp_); clear hg hw hp_))
     go_roundg k1
     case measure => have := HK1.out; omega
     case rel => exact ⟨(y104), (wrap64 ((wrap64 (x1_1 + 1)) + 1)), (wrap64 (x5_1 + 1)), au10, au10, H', ⟨by have := HK1.out; omega⟩, ⟨au0 HO_0.out⟩, ⟨(au17 HK.out)⟩, ⟨(au3 HB.out)⟩⟩
    ·
     rw [if_neg c5] at H
     exact absurd H (by simp)
   ·
    rw [if_neg c3] at H
    have c3b0 : decide (x5_1 < (x0_1.length : Int)) = false := decide_eq_false c3
    clear c3
    simp only [Option.some.injEq, Prod.mk.injEq] at H
    obtain ⟨rfl, rfl⟩ := H
    obtain ⟨Ao16, co16, eo16⟩ := Kd.R_slice HO_0.out
    subst eo16
    go_wp2
    go_ret
    exact ⟨by first | rfl | (simp [qag, qah] <;> rfl) | (simp [*, qag, qah] <;> rfl), au0 HO_0.out, (au3 HB.out), (au17 HK.out)⟩

end

section
def laws_markDisk.f (k : Nat) (l0_0 : List (S80)) (l0_1 : List (S80)) (l0_2 : List (S73)) (a1 : Int) : Option (Int × (List (S80)) × (List (S80)) × (List (S73))) := (laws_markFileS.f k l0_0 a1).bind fun bt102 => ((laws_markFileS.f k l0_1 bt102.1).bind fun bt104 => ((laws_markDOpS.f k l0_2 bt104.1).bind fun bt106 => (some (bt106.1, bt102.2, bt104.2, bt106.2))))
theorem laws_markDisk.mono : ∀ a0 a1 a2 a3 k, LeO (laws_markDisk.f k a0 a1 a2 a3) (laws_markDisk.f (k + 1) a0 a1 a2 a3) := by
 intro a0 a1 a2 a3 k
 unfold laws_markDisk.f
 repeat' first
  | (with_reducible exact laws_markDOpS.mono _ _ _)
  | (with_reducible exact laws_markFileS.mono _ _ _)
  | (with_reducible exact LeO.refl _)
  | (with_reducible exact LeO.none _)
  | (with_reducible refine LeO.ite ?_ ?_)
  | (with_reducible refine LeO.bind ?_ (fun _ => ?_))
  | exact laws_markDOpS.mono _ _ _
  | exact laws_markFileS.mono _ _ _
  | exact LeO.none _
  | refine LeO.ite ?_ ?_
  | refine LeO.bind ?_ (fun _ => ?_)
set_option maxHeartbeats 8000000 in
set_option maxRecDepth 100000 in
theorem laws_markDisk.calls (k : Nat) (P0_0_ : Nat → Prop) (u9000_ : Value) (l0_0 : List (S80)) (P0_1_ : Nat → Prop) (u9001_ : Value) (l0_1 : List (S80)) (P0_2_ : Nat → Prop) (u9002_ : Value) (l0_2 : List (S73)) (a1 : Int) (r1 : Int) (r2 : List (S80)) (r3 : List (S80)) (r4 : List (S73)) (w0 w : World) (hB : Below w0.heap.size w0 w) (ho0_0 : Kd.R k80 80 w w0.heap.size P0_0_ u9000_ l0_0) (hp0_0_0_1 : ∀ k_, P0_0_ k_ → ¬ P0_1_ k_) (ho0_1 : Kd.R k80 80 w w0.heap.size P0_1_ u9001_ l0_1) (hp0_1_0_0 : ∀ k_, P0_1_ k_ → ¬ P0_0_ k_) (ho0_2 : Kd.R k73 73 w w0.heap.size P0_2_ u9002_ l0_2) (h : laws_markDisk.f k l0_0 l0_1 l0_2 a1 = some (r1, r2, r3, r4)) :
 Calls Try.prog 29 #[.agg #[u9000_, u9001_, u9002_], .int .i64 a1] w fun e w' => e = .returned (.int .i64 r1) ∧ Kd.R k80 80 w' w0.heap.size (fun k_ => ((P0_0_ k_ ∨ P0_1_ k_ ∨ P0_2_ k_) ∨ w.heap.size ≤ k_)) u9000_ r2 ∧ Kd.R k80 80 w' w0.heap.size (fun k_ => ((P0_0_ k_ ∨ P0_1_ k_ ∨ P0_2_ k_) ∨ w.heap.size ≤ k_)) u9001_ r3 ∧ Kd.R k73 73 w' w0.heap.size (fun k_ => ((P0_0_ k_ ∨ P0_1_ k_ ∨ P0_2_ k_) ∨ w.heap.size ≤ k_)) u9002_ r4 ∧ Below w0.heap.size w0 w' ∧ Kept w w' (fun k_ => P0_0_ k_ ∨ P0_1_ k_ ∨ P0_2_ k_) := by
 have hu31 := Try.underlying31
 have HO0_0 := am (show Kd.R k80 80 w w0.heap.size (fun k_ => ((P0_0_ k_ ∨ P0_1_ k_ ∨ P0_2_ k_) ∨ w.heap.size ≤ k_) ∧ some k_ ≠ (u9001_ : Value).ownBlock) u9000_ l0_0 from Kd.R_mono ho0_0 (fun k_ hk => ⟨(.inl (.inl hk)), fun e_ => hp0_0_0_1 k_ hk (ho0_1.1 k_ e_.symm)⟩))
 have HO0_1 := am (show Kd.R k80 80 w w0.heap.size (fun k_ => ((P0_0_ k_ ∨ P0_1_ k_ ∨ P0_2_ k_) ∨ w.heap.size ≤ k_) ∧ some k_ ≠ (u9000_ : Value).ownBlock) u9001_ l0_1 from Kd.R_mono ho0_1 (fun k_ hk => ⟨(.inl (.inr (.inl hk))), fun e_ => hp0_1_0_0 k_ hk (ho0_0.1 k_ e_.symm)⟩))
 have HO0_2 := am (show Kd.R k73 73 w w0.heap.size (fun k_ => ((P0_0_ k_ ∨ P0_1_ k_ ∨ P0_2_ k_) ∨ w.heap.size ≤ k_)) u9002_ l0_2 from Kd.R_mono ho0_2 (fun k_ hk => (.inl (.inr (.inr hk)))))
 have HK := am (Kept.refl w (fun k_ => P0_0_ k_ ∨ P0_1_ k_ ∨ P0_2_ k_))
 have HW0 := am hB.size
 have HB := am hB
 clear hB
 have H : ((laws_markFileS.f k l0_0 a1).bind fun bt102 => ((laws_markFileS.f k l0_1 bt102.1).bind fun bt104 => ((laws_markDOpS.f k l0_2 bt104.1).bind fun bt106 => (some (bt106.1, bt102.2, bt104.2, bt106.2))))) = some (r1, r2, r3, r4) := h
 clear h
 replace H := Option.bind_eq_some_iff.mp H
 obtain ⟨⟨t102, t103⟩, A30, H⟩ := H
 replace H : ((laws_markFileS.f k l0_1 t102).bind fun bt104 => ((laws_markDOpS.f k l0_2 bt104.1).bind fun bt106 => (some (bt106.1, t103, bt104.2, bt106.2)))) = some (r1, r2, r3, r4) := H
 have A3 := am A30
 clear A30
 replace H := Option.bind_eq_some_iff.mp H
 obtain ⟨⟨t104, t105⟩, A40, H⟩ := H
 replace H : ((laws_markDOpS.f k l0_2 t104).bind fun bt106 => (some (bt106.1, t103, t105, bt106.2))) = some (r1, r2, r3, r4) := H
 have A4 := am A40
 clear A40
 replace H := Option.bind_eq_some_iff.mp H
 obtain ⟨⟨t106, t107⟩, A50, H⟩ := H
 replace H : (some (t106, t103, t105, t107)) = some (r1, r2, r3, r4) := H
 have A5 := am A50
 clear A50
 simp only [Option.some.injEq, Prod.mk.injEq] at H
 obtain ⟨rfl, rfl, rfl, rfl⟩ := H
 obtain ⟨Ao6, co6, eo6⟩ := Kd.R_slice HO0_0.out
 subst eo6
 obtain ⟨Ao7, co7, eo7⟩ := Kd.R_slice HO0_1.out
 subst eo7
 obtain ⟨Ao8, co8, eo8⟩ := Kd.R_slice HO0_2.out
 subst eo8
 go_enter Try.func29, Try.ntmps29
 go_wp2_with (first | ((with_reducible refine qal (N := 2) rfl ?_); refine bxE (N := 2) (cs := #[.slice Ao6 l0_0.length co6, .slice Ao7 l0_1.length co7, .slice Ao8 l0_2.length co8]) (t := 31) ?_; intro gb101 hg w9 hbox hb; replace HO0_0 := am (Kd.R_below (au0 HO0_0.out) hb); replace HO0_1 := am (Kd.R_below (au0 HO0_1.out) hb); replace HO0_2 := am (Kd.R_below (au0 HO0_2.out) hb); have BK101 := am (hbox); have GW101 := am ((by rw [hg]; exact (by first | exact HK.out.1 | exact (show Kept w _ (fun k_ => P0_0_ k_ ∨ P0_1_ k_ ∨ P0_2_ k_) from (au17 HK.out)).1) : w.heap.size ≤ gb101)); replace HK := am (Kept.below (S := (fun k_ => P0_0_ k_ ∨ P0_1_ k_ ∨ P0_2_ k_)) (au17 HK.out) hb); have GE101 := am ((sgE hg (au3 HB.out) : w0.heap.size ≤ gb101)); replace HB := am (qad (au3 HB.out) hb); clear hb hbox hg; have hcz10_0 : _ = some (Value.slice Ao6 l0_0.length co6) := bcE BK101.out 0; have hcz10_1 : _ = some (Value.slice Ao7 l0_1.length co7) := bcE BK101.out 1; have hcz10_2 : _ = some (Value.slice Ao8 l0_2.length co8) := bcE BK101.out 2; have hfz10_0 := qaa BK101.out 0; have hfz10_1 := qaa BK101.out 1; have hfz10_2 := qaa BK101.out 2) | ((with_reducible refine qaj (f := 68) rfl ?_); refine qap (some 8) rfl rfl Try.func68 (by kernel_rfl) rfl #[.slice Ao6 l0_0.length co6, .int .i64 a1] rfl au6 ?_; (with_reducible refine (laws_markFileS.calls k (fun k_ => some k_ = (.slice Ao6 l0_0.length co6 : Value).ownBlock) (.slice Ao6 l0_0.length co6) l0_0 a1 t102 t103 w0 _ ?side1 ?side2 A3.out).mono ?_); (case side1 => repeat (first | (with_reducible first | exact HB.out | apply qaq | apply qaw | apply qay | refine qar ?_ GE101.out) | exact HB.out)); (case side2 => exact Kd.R_tight rfl HO0_0.out); rintro e w11 ⟨rfl, hy0, hb, hkp⟩; refine ⟨_, rfl, ?_⟩; replace HO0_1 := am (Kd.R_mono (ok' := fun k_ => ((P0_0_ k_ ∨ P0_1_ k_ ∨ P0_2_ k_) ∨ w.heap.size ≤ k_) ∧ some k_ ≠ (.slice Ao6 l0_0.length co6 : Value).ownBlock) (Kd.R_keptB (HO0_1.out) hkp (fun k_ hk_ hs_ => (hk_.2) hs_)) (fun k_ hk_ => ⟨hk_.1.1, hk_.1.2⟩)); replace HO0_2 := am (Kd.R_mono (ok' := fun k_ => ((P0_0_ k_ ∨ P0_1_ k_ ∨ P0_2_ k_) ∨ w.heap.size ≤ k_)) (Kd.R_keptB ((Kd.R_apart' HO0_2.out (Kd.R_typed HO0_0.out) (by decide))) hkp (fun k_ hk_ hs_ => (hk_.2) hs_)) (fun k_ hk_ => hk_.1.1)); replace BK101 := am (qbu (au1 BK101.out) hkp (fun hs_ => (fun e_ => (Kd.R_ne HO0_0.out BK101.out (by decide)) e_) hs_)); replace HK := am (Kept.then_ (S := (fun k_ => P0_0_ k_ ∨ P0_1_ k_ ∨ P0_2_ k_)) (au18 HK.out GW101.out) hkp (fun k_ hs_ => (fun e_ => (HO0_0.out.1 k_ e_.symm).1) hs_)); replace HO0_0 := am (Kd.R_reok rfl hy0 (fun k_ e_ => HO0_0.out.1 k_ e_)); replace HB := am (hb); (try clear hb); (try clear hkp); (try clear hy0); have hcz12_0 : _ = some (Value.slice Ao6 l0_0.length co6) := bcE BK101.out 0; have hcz12_1 : _ = some (Value.slice Ao7 l0_1.length co7) := bcE BK101.out 1; have hcz12_2 : _ = some (Value.slice Ao8 l0_2.length co8) := bcE BK101.out 2; have hfz12_0 := qaa BK101.out 0; have hfz12_1 := qaa BK101.out 1; have hfz12_2 := qaa BK101.out 2) | ((with_reducible refine qaj (f := 68) rfl ?_); refine qap (some 12) rfl rfl Try.func68 (by kernel_rfl) rfl #[.slice Ao7 l0_1.length co7, .int .i64 t102] rfl au6 ?_; (with_reducible refine (laws_markFileS.calls k (fun k_ => some k_ = (.slice Ao7 l0_1.length co7 : Value).ownBlock) (.slice Ao7 l0_1.length co7) l0_1 t102 t104 t105 w0 _ ?side1 ?side2 A4.out).mono ?_); (case side1 => repeat (first | (with_reducible first | exact HB.out | apply qaq | apply qaw | apply qay | refine qar ?_ GE101.out) | exact HB.out)); (case side2 => exact Kd.R_tight rfl HO0_1.out); rintro e w13 ⟨rfl, hy0, hb, hkp⟩; refine ⟨_, rfl, ?_⟩; replace HO0_0 := am (Kd.R_mono (ok' := fun k_ => ((P0_0_ k_ ∨ P0_1_ k_ ∨ P0_2_ k_) ∨ w.heap.size ≤ k_) ∧ some k_ ≠ (.slice Ao7 l0_1.length co7 : Value).ownBlock) (Kd.R_keptB (HO0_0.out) hkp (fun k_ hk_ hs_ => (hk_.2) hs_)) (fun k_ hk_ => ⟨hk_.1.1, hk_.1.2⟩)); replace HO0_2 := am (Kd.R_mono (ok' := fun k_ => ((P0_0_ k_ ∨ P0_1_ k_ ∨ P0_2_ k_) ∨ w.heap.size ≤ k_)) (Kd.R_keptB ((Kd.R_apart' HO0_2.out (Kd.R_typed HO0_1.out) (by decide))) hkp (fun k_ hk_ hs_ => (hk_.2) hs_)) (fun k_ hk_ => hk_.1.1)); replace BK101 := am (qbu (au1 BK101.out) hkp (fun hs_ => (fun e_ => (Kd.R_ne HO0_1.out BK101.out (by decide)) e_) hs_)); replace HK := am (Kept.then_ (S := (fun k_ => P0_0_ k_ ∨ P0_1_ k_ ∨ P0_2_ k_)) (au18 HK.out GW101.out) hkp (fun k_ hs_ => (fun e_ => (HO0_1.out.1 k_ e_.symm).1) hs_)); replace HO0_1 := am (Kd.R_reok rfl hy0 (fun k_ e_ => HO0_1.out.1 k_ e_)); replace HB := am (hb); (try clear hb); (try clear hkp); (try clear hy0); have hcz14_0 : _ = some (Value.slice Ao6 l0_0.length co6) := bcE BK101.out 0; have hcz14_1 : _ = some (Value.slice Ao7 l0_1.length co7) := bcE BK101.out 1; have hcz14_2 : _ = some (Value.slice Ao8 l0_2.length co8) := bcE BK101.out 2; have hfz14_0 := qaa BK101.out 0; have hfz14_1 := qaa BK101.out 1; have hfz14_2 := qaa BK101.out 2) | ((with_reducible refine qaj (f := 69) rfl ?_); refine qap (some 16) rfl rfl Try.func69 (by kernel_rfl) rfl #[.slice Ao8 l0_2.length co8, .int .i64 t104] rfl au6 ?_; (with_reducible refine (laws_markDOpS.calls k (fun k_ => some k_ = (.slice Ao8 l0_2.length co8 : Value).ownBlock) (.slice Ao8 l0_2.length co8) l0_2 t104 t106 t107 w0 _ ?side1 ?side2 A5.out).mono ?_); (case side1 => repeat (first | (with_reducible first | exact HB.out | apply qaq | apply qaw | apply qay | refine qar ?_ GE101.out) | exact HB.out)); (case side2 => exact Kd.R_tight rfl HO0_2.out); rintro e w15 ⟨rfl, hy0, hb, hkp⟩; refine ⟨_, rfl, ?_⟩; replace HO0_0 := am (Kd.R_mono (ok' := fun k_ => ((P0_0_ k_ ∨ P0_1_ k_ ∨ P0_2_ k_) ∨ w.heap.size ≤ k_) ∧ some k_ ≠ (.slice Ao7 l0_1.length co7 : Value).ownBlock) (Kd.R_keptB ((Kd.R_apart' HO0_0.out (Kd.R_typed HO0_2.out) (by decide))) hkp (fun k_ hk_ hs_ => (hk_.2) hs_)) (fun k_ hk_ => ⟨hk_.1.1.1, hk_.1.1.2⟩)); replace HO0_1 := am (Kd.R_mono (ok' := fun k_ => ((P0_0_ k_ ∨ P0_1_ k_ ∨ P0_2_ k_) ∨ w.heap.size ≤ k_) ∧ some k_ ≠ (.slice Ao6 l0_0.length co6 : Value).ownBlock) (Kd.R_keptB ((Kd.R_apart' HO0_1.out (Kd.R_typed HO0_2.out) (by decide))) hkp (fun k_ hk_ hs_ => (hk_.2) hs_)) (fun k_ hk_ => ⟨hk_.1.1.1, hk_.1.1.2⟩)); replace BK101 := am (qbu (au1 BK101.out) hkp (fun hs_ => (fun e_ => (Kd.R_ne HO0_2.out BK101.out (by decide)) e_) hs_)); replace HK := am (Kept.then_ (S := (fun k_ => P0_0_ k_ ∨ P0_1_ k_ ∨ P0_2_ k_)) (au18 HK.out GW101.out) hkp (fun k_ hs_ => (fun e_ => (HO0_2.out.1 k_ e_.symm)) hs_)); replace HO0_2 := am (Kd.R_reok rfl hy0 (fun k_ e_ => HO0_2.out.1 k_ e_)); replace HB := am (hb); (try clear hb); (try clear hkp); (try clear hy0)))
 go_ret
 exact ⟨by first | rfl | (simp [qag, qah] <;> rfl) | (simp [*, qag, qah] <;> rfl), by refine au0 ?_; exact Kd.R_mono HO0_0.out (fun _ hk => hk.1), by refine au0 ?_; exact Kd.R_mono HO0_1.out (fun _ hk => hk.1), au0 HO0_2.out, (au7 HB.out GE101.out), (au18 HK.out GW101.out)⟩

end

section
def laws_szDOp.f (a0_0 : Int) (a0_1 : ByteArray) (a0_2 : ByteArray) (a0_3 : ByteArray) (a1 : Int) : Option (Int) := if (wrap64 (a1 - (a0_1.size : Int))) < 0 then (some (-1)) else (if (wrap64 ((wrap64 (a1 - (a0_1.size : Int))) - (a0_2.size : Int))) < 0 then (some (-1)) else (if (wrap64 ((wrap64 ((wrap64 (a1 - (a0_1.size : Int))) - (a0_2.size : Int))) - (a0_3.size : Int))) < 0 then (some (-1)) else (some (wrap64 ((wrap64 ((wrap64 (a1 - (a0_1.size : Int))) - (a0_2.size : Int))) - (a0_3.size : Int))))))
set_option maxHeartbeats 8000000 in
set_option maxRecDepth 100000 in
theorem laws_szDOp.calls (a0_0 : Int) (a0_1 : ByteArray) (a0_2 : ByteArray) (a0_3 : ByteArray) (a1 : Int) (r : Int) (w : World) (h : laws_szDOp.f a0_0 a0_1 a0_2 a0_3 a1 = some r) :
 Calls Try.prog 83 #[.agg #[.int .i64 a0_0, .string a0_1, .string a0_2, .string a0_3], .int .i64 a1] w fun e w' => e = .returned (.int .i64 r) ∧ Below w.heap.size w w' := by
 have hu108 := Try.underlying108
 have HB := am (Below.refl w.heap.size w)
 have H : (if (wrap64 (a1 - (a0_1.size : Int))) < 0 then (some (-1)) else (if (wrap64 ((wrap64 (a1 - (a0_1.size : Int))) - (a0_2.size : Int))) < 0 then (some (-1)) else (if (wrap64 ((wrap64 ((wrap64 (a1 - (a0_1.size : Int))) - (a0_2.size : Int))) - (a0_3.size : Int))) < 0 then (some (-1)) else (some (wrap64 ((wrap64 ((wrap64 (a1 - (a0_1.size : Int))) - (a0_2.size : Int))) - (a0_3.size : Int))))))) = some r := h
 clear h
 by_cases c3 : (wrap64 (a1 - (a0_1.size : Int))) < 0
 ·
  rw [if_pos c3] at H
  have c3b0 : decide ((wrap64 (a1 - (a0_1.size : Int))) < 0) = true := decide_eq_true c3
  clear c3
  obtain rfl := Option.some.inj H
  go_enter Try.func83, Try.ntmps83
  go_wp2_with (first | ((with_reducible refine qal (N := 2) rfl ?_); refine bxE (N := 2) (cs := #[.int .i64 a0_0, .string a0_1, .string a0_2, .string a0_3]) (t := 108) ?_; intro gb101 hg w4 hbox hb; have BK101 := am (hbox); have GW101 := am (sgE hg (au3 HB.out) : w.heap.size ≤ gb101); have GE101 := GW101; replace HB := am (qad (au3 HB.out) hb); clear hb hbox hg; have hcz5_0 : _ = some (Value.int .i64 a0_0) := bcE BK101.out 0; have hcz5_1 : _ = some (Value.string a0_1) := bcE BK101.out 1; have hcz5_2 : _ = some (Value.string a0_2) := bcE BK101.out 2; have hcz5_3 : _ = some (Value.string a0_3) := bcE BK101.out 3; have hfz5_0 := qaa BK101.out 0; have hfz5_1 := qaa BK101.out 1; have hfz5_2 := qaa BK101.out 2; have hfz5_3 := qaa BK101.out 3))
  go_ret
  exact ⟨by first | rfl | (simp [qag, qah] <;> rfl) | (simp [*, qag, qah] <;> rfl), (au7 HB.out GE101.out)⟩
 ·
  rw [if_neg c3] at H
  have c3b0 : decide ((wrap64 (a1 - (a0_1.size : Int))) < 0) = false := decide_eq_false c3
  clear c3
  by_cases c6 : (wrap64 ((wrap64 (a1 - (a0_1.size : Int))) - (a0_2.size : Int))) < 0
  ·
   rw [if_pos c6] at H
   have c6b0 : decide ((wrap64 ((wrap64 (a1 - (a0_1.size : Int))) - (a0_2.size : Int))) < 0) = true := decide_eq_true c6
   clear c6
   obtain rfl := Option.some.inj H
   go_enter Try.func83, Try.ntmps83
   go_wp2_with (first | ((with_reducible refine qal (N := 2) rfl ?_); refine bxE (N := 2) (cs := #[.int .i64 a0_0, .string a0_1, .string a0_2, .string a0_3]) (t := 108) ?_; intro gb101 hg w7 hbox hb; have BK101 := am (hbox); have GW101 := am (sgE hg (au3 HB.out) : w.heap.size ≤ gb101); have GE101 := GW101; replace HB := am (qad (au3 HB.out) hb); clear hb hbox hg; have hcz8_0 : _ = some (Value.int .i64 a0_0) := bcE BK101.out 0; have hcz8_1 : _ = some (Value.string a0_1) := bcE BK101.out 1; have hcz8_2 : _ = some (Value.string a0_2) := bcE BK101.out 2; have hcz8_3 : _ = some (Value.string a0_3) := bcE BK101.out 3; have hfz8_0 := qaa BK101.out 0; have hfz8_1 := qaa BK101.out 1; have hfz8_2 := qaa BK101.out 2; have hfz8_3 := qaa BK101.out 3))
   go_ret
   exact ⟨by first | rfl | (simp [qag, qah] <;> rfl) | (simp [*, qag, qah] <;> rfl), (au7 HB.out GE101.out)⟩
  ·
   rw [if_neg c6] at H
   have c6b0 : decide ((wrap64 ((wrap64 (a1 - (a0_1.size : Int))) - (a0_2.size : Int))) < 0) = false := decide_eq_false c6
   clear c6
   by_cases c9 : (wrap64 ((wrap64 ((wrap64 (a1 - (a0_1.size : Int))) - (a0_2.size : Int))) - (a0_3.size : Int))) < 0
   ·
    rw [if_pos c9] at H
    have c9b0 : decide ((wrap64 ((wrap64 ((wrap64 (a1 - (a0_1.size : Int))) - (a0_2.size : Int))) - (a0_3.size : Int))) < 0) = true := decide_eq_true c9
    clear c9
    obtain rfl := Option.some.inj H
    go_enter Try.func83, Try.ntmps83
    go_wp2_with (first | ((with_reducible refine qal (N := 2) rfl ?_); refine bxE (N := 2) (cs := #[.int .i64 a0_0, .string a0_1, .string a0_2, .string a0_3]) (t := 108) ?_; intro gb101 hg w10 hbox hb; have BK101 := am (hbox); have GW101 := am (sgE hg (au3 HB.out) : w.heap.size ≤ gb101); have GE101 := GW101; replace HB := am (qad (au3 HB.out) hb); clear hb hbox hg; have hcz11_0 : _ = some (Value.int .i64 a0_0) := bcE BK101.out 0; have hcz11_1 : _ = some (Value.string a0_1) := bcE BK101.out 1; have hcz11_2 : _ = some (Value.string a0_2) := bcE BK101.out 2; have hcz11_3 : _ = some (Value.string a0_3) := bcE BK101.out 3; have hfz11_0 := qaa BK101.out 0; have hfz11_1 := qaa BK101.out 1; have hfz11_2 := qaa BK101.out 2; have hfz11_3 := qaa BK101.out 3))
    go_ret
    exact ⟨by first | rfl | (simp [qag, qah] <;> rfl) | (simp [*, qag, qah] <;> rfl), (au7 HB.out GE101.out)⟩
   ·
    rw [if_neg c9] at H
    have c9b0 : decide ((wrap64 ((wrap64 ((wrap64 (a1 - (a0_1.size : Int))) - (a0_2.size : Int))) - (a0_3.size : Int))) < 0) = false := decide_eq_false c9
    clear c9
    obtain rfl := Option.some.inj H
    go_enter Try.func83, Try.ntmps83
    go_wp2_with (first | ((with_reducible refine qal (N := 2) rfl ?_); refine bxE (N := 2) (cs := #[.int .i64 a0_0, .string a0_1, .string a0_2, .string a0_3]) (t := 108) ?_; intro gb101 hg w12 hbox hb; have BK101 := am (hbox); have GW101 := am (sgE hg (au3 HB.out) : w.heap.size ≤ gb101); have GE101 := GW101; replace HB := am (qad (au3 HB.out) hb); clear hb hbox hg; have hcz13_0 : _ = some (Value.int .i64 a0_0) := bcE BK101.out 0; have hcz13_1 : _ = some (Value.string a0_1) := bcE BK101.out 1; have hcz13_2 : _ = some (Value.string a0_2) := bcE BK101.out 2; have hcz13_3 : _ = some (Value.string a0_3) := bcE BK101.out 3; have hfz13_0 := qaa BK101.out 0; have hfz13_1 := qaa BK101.out 1; have hfz13_2 := qaa BK101.out 2; have hfz13_3 := qaa BK101.out 3))
    go_ret
    exact ⟨by first | rfl | (simp [qag, qah] <;> rfl) | (simp [*, qag, qah] <;> rfl), (au7 HB.out GE101.out)⟩

end

section
def laws_szDOpS.l0 : Nat → List (S108) → Int → Int → Option (Int)
 | 0, _, _, _ => none
 | k + 1, x0, x1, x5 => if x5 < (x0.length : Int) then (if 0 ≤ x5 then ((laws_szDOp.f ((qbc x0 x5).f0) ((qbc x0 x5).f1) ((qbc x0 x5).f2) ((qbc x0 x5).f3) x1).bind fun t102 => (if t102 < 0 then (some (-1)) else (laws_szDOpS.l0 k x0 t102 (wrap64 (x5 + 1))))) else (none)) else (some x1)
def laws_szDOpS.f (k : Nat) (l0 : List (S108)) (a1 : Int) : Option (Int) := if (wrap64 (a1 - (l0.length : Int))) < 0 then (some (-1)) else (laws_szDOpS.l0 k l0 (wrap64 (a1 - (l0.length : Int))) 0)
theorem laws_szDOpS.mono_l : ∀ k, (∀ y0 y1 y2, LeO (laws_szDOpS.l0 k y0 y1 y2) (laws_szDOpS.l0 (k + 1) y0 y1 y2))
 | 0 => fun _ _ _ r h => by simp [laws_szDOpS.l0] at h
 | k + 1 => by
  have ih0 := laws_szDOpS.mono_l k
  ·
   intro y0 y1 y2
   unfold laws_szDOpS.l0
   repeat' first
   | (with_reducible exact ih0 _ _ _)
   | (with_reducible exact LeO.refl _)
   | (with_reducible exact LeO.none _)
   | (with_reducible refine LeO.ite ?_ ?_)
   | (with_reducible refine LeO.bind ?_ (fun _ => ?_))
   | exact ih0 _ _ _
   | exact LeO.none _
   | refine LeO.ite ?_ ?_
   | refine LeO.bind ?_ (fun _ => ?_)
theorem laws_szDOpS.mono : ∀ a0 a1 k, LeO (laws_szDOpS.f k a0 a1) (laws_szDOpS.f (k + 1) a0 a1) := by
 intro a0 a1 k
 have ih0 := laws_szDOpS.mono_l k
 unfold laws_szDOpS.f
 repeat' first
  | (with_reducible exact ih0 _ _ _)
  | (with_reducible exact LeO.refl _)
  | (with_reducible exact LeO.none _)
  | (with_reducible refine LeO.ite ?_ ?_)
  | (with_reducible refine LeO.bind ?_ (fun _ => ?_))
  | exact ih0 _ _ _
  | exact LeO.none _
  | refine LeO.ite ?_ ?_
  | refine LeO.bind ?_ (fun _ => ?_)
set_option maxHeartbeats 8000000 in
set_option maxRecDepth 100000 in
theorem laws_szDOpS.calls (k : Nat) (A0 : Option Addr) (c0 : Nat) (l0 : List (S108)) (a1 : Int) (r : Int) (w : World) (hr0 : Kd.C k108 w A0 l0.length l0) (hc0 : l0.length ≤ c0) (h : laws_szDOpS.f k l0 a1 = some r) :
 Calls Try.prog 42 #[.slice A0 l0.length c0, .int .i64 a1] w fun e w' => e = .returned (.int .i64 r) ∧ Below w.heap.size w w' := by
 have hu108 := Try.underlying108
 have HR0 := am hr0
 have HC0 := am hc0
 clear hr0 hc0
 have HB := am (Below.refl w.heap.size w)
 have H : (if (wrap64 (a1 - (l0.length : Int))) < 0 then (some (-1)) else (laws_szDOpS.l0 k l0 (wrap64 (a1 - (l0.length : Int))) 0)) = some r := h
 clear h
 by_cases c3 : (wrap64 (a1 - (l0.length : Int))) < 0
 ·
  rw [if_pos c3] at H
  have c3b0 : decide ((wrap64 (a1 - (l0.length : Int))) < 0) = true := decide_eq_true c3
  clear c3
  obtain rfl := Option.some.inj H
  go_enter Try.func42, Try.ntmps42
  go_wp2
  go_ret
  exact ⟨by first | rfl | (simp [qag, qah] <;> rfl) | (simp [*, qag, qah] <;> rfl), (au3 HB.out)⟩
 ·
  rw [if_neg c3] at H
  have c3b0 : decide ((wrap64 (a1 - (l0.length : Int))) < 0) = false := decide_eq_false c3
  clear c3
  have H' := am H
  clear H
  go_enter Try.func42, Try.ntmps42
  go_wp2
  go_loopg [1, 5] k (fun kq v1 v5 w' => ∃ (x1_1 : Int) (x5_1 : Int), v1 = .int .i64 x1_1 ∧ v5 = .int .i64 x5_1 ∧ Aside0 (laws_szDOpS.l0 kq l0 x1_1 x5_1 = some r) ∧ Aside0 (kq ≤ k) ∧ Aside0 (Below w.heap.size w w'))
  case atStart => exact ⟨(wrap64 (a1 - (l0.length : Int))), (0), au10, au10, H', ⟨Nat.le_refl _⟩, ⟨(au3 HB.out)⟩⟩
  case round =>
   clear H'
   obtain ⟨x1_1, x5_1, rfl, rfl, HA, HK1, HB⟩ := hrel
   cases gk with
   | zero => exact absurd HA.out (by simp [laws_szDOpS.l0])
   | succ k1 =>
    have H := HA.out
    clear HA
    simp only [laws_szDOpS.l0] at H
    by_cases c4 : x5_1 < (l0.length : Int)
    ·
     rw [if_pos c4] at H
     have c4b0 : decide (x5_1 < (l0.length : Int)) = true := decide_eq_true c4
     clear c4
     by_cases c5 : 0 ≤ x5_1
     ·
      rw [if_pos c5] at H
      have c5b0 : decide (0 ≤ x5_1) = true := decide_eq_true c5
      clear c5
      replace H := Option.bind_eq_some_iff.mp H
      obtain ⟨t102, A60, H⟩ := H
      replace H : (if t102 < 0 then (some (-1)) else (laws_szDOpS.l0 k1 l0 t102 (wrap64 (x5_1 + 1)))) = some r := H
      have A6 := am A60
      clear A60
      by_cases c7 : t102 < 0
      ·
       rw [if_pos c7] at H
       have c7b0 : decide (t102 < 0) = true := decide_eq_true c7
       clear c7
       obtain rfl := Option.some.inj H
       have p101 : 0 ≤ (x5_1 : Int) := of_decide_eq_true au9
       have q101 : x5_1 < (l0.length : Int) := of_decide_eq_true au9
       obtain ⟨ad101, e101, hx101_0, hx101_1, hx101_2, hx101_3⟩ := at_T108 HR0.out x5_1 p101 q101
       cases e101
       replace hx101_0 := qac HB.out hx101_0
       replace hx101_1 := qac HB.out hx101_1
       replace hx101_2 := qac HB.out hx101_2
       replace hx101_3 := qac HB.out hx101_3
       replace p101 := eq_true p101
       replace q101 := eq_true q101
       go_wp2_with (first | ((with_reducible refine qaj (f := 83) rfl ?_); refine qap (some 23) rfl rfl Try.func83 (by kernel_rfl) rfl #[.agg #[.int .i64 ((qbc l0 x5_1).f0), .string ((qbc l0 x5_1).f1), .string ((qbc l0 x5_1).f2), .string ((qbc l0 x5_1).f3)], .int .i64 x1_1] rfl au6 ?_; (with_reducible refine (laws_szDOp.calls ((qbc l0 x5_1).f0) ((qbc l0 x5_1).f1) ((qbc l0 x5_1).f2) ((qbc l0 x5_1).f3) x1_1 t102 _ A6.out).mono ?_); rintro e w8 ⟨rfl, hb⟩; refine ⟨_, rfl, ?_⟩; replace HB := am (qad (au3 HB.out) hb); (try clear hb); (try clear hb2); (try clear hk); (try clear hi)))
       go_ret
       exact ⟨by first | rfl | (simp [qag, qah] <;> rfl) | (simp [*, qag, qah] <;> rfl), (au3 HB.out)⟩
      ·
       rw [if_neg c7] at H
       have c7b0 : decide (t102 < 0) = false := decide_eq_false c7
       clear c7
       have H' := am H
       clear H
       have p101 : 0 ≤ (x5_1 : Int) := of_decide_eq_true au9
       have q101 : x5_1 < (l0.length : Int) := of_decide_eq_true au9
       obtain ⟨ad101, e101, hx101_0, hx101_1, hx101_2, hx101_3⟩ := at_T108 HR0.out x5_1 p101 q101
       cases e101
       replace hx101_0 := qac HB.out hx101_0
       replace hx101_1 := qac HB.out hx101_1
       replace hx101_2 := qac HB.out hx101_2
       replace hx101_3 := qac HB.out hx101_3
       replace p101 := eq_true p101
       replace q101 := eq_true q101
       go_wp2_with (first | ((with_reducible refine qaj (f := 83) rfl ?_); refine qap (some 23) rfl rfl Try.func83 (by kernel_rfl) rfl #[.agg #[.int .i64 ((qbc l0 x5_1).f0), .string ((qbc l0 x5_1).f1), .string ((qbc l0 x5_1).f2), .string ((qbc l0 x5_1).f3)], .int .i64 x1_1] rfl au6 ?_; (with_reducible refine (laws_szDOp.calls ((qbc l0 x5_1).f0) ((qbc l0 x5_1).f1) ((qbc l0 x5_1).f2) ((qbc l0 x5_1).f3) x1_1 t102 _ A6.out).mono ?_); rintro e w9 ⟨rfl, hb⟩; refine ⟨_, rfl, ?_⟩; replace HB := am (qad (au3 HB.out) hb); (try clear hb); (try clear hb2); (try clear hk); (try clear hi)))
       go_roundg k1
       case measure => have := HK1.out; omega
       case rel => exact ⟨(t102), (wrap64 (x5_1 + 1)), au10, au10, H', ⟨by have := HK1.out; omega⟩, ⟨(au3 HB.out)⟩⟩
     ·
      rw [if_neg c5] at H
      exact absurd H (by simp)
    ·
     rw [if_neg c4] at H
     have c4b0 : decide (x5_1 < (l0.length : Int)) = false := decide_eq_false c4
     clear c4
     obtain rfl := Option.some.inj H
     go_wp2
     go_ret
     exact ⟨by first | rfl | (simp [qag, qah] <;> rfl) | (simp [*, qag, qah] <;> rfl), (au3 HB.out)⟩

end

section
def laws_szFile.f (a0_0 : ByteArray) (a0_1 : ByteArray) (a1 : Int) : Option (Int) := if (wrap64 (a1 - (a0_0.size : Int))) < 0 then (some (-1)) else (if (wrap64 ((wrap64 (a1 - (a0_0.size : Int))) - (a0_1.size : Int))) < 0 then (some (-1)) else (some (wrap64 ((wrap64 (a1 - (a0_0.size : Int))) - (a0_1.size : Int)))))
set_option maxHeartbeats 8000000 in
set_option maxRecDepth 100000 in
theorem laws_szFile.calls (a0_0 : ByteArray) (a0_1 : ByteArray) (a1 : Int) (r : Int) (w : World) (h : laws_szFile.f a0_0 a0_1 a1 = some r) :
 Calls Try.prog 82 #[.agg #[.string a0_0, .string a0_1], .int .i64 a1] w fun e w' => e = .returned (.int .i64 r) ∧ Below w.heap.size w w' := by
 have hu106 := Try.underlying106
 have HB := am (Below.refl w.heap.size w)
 have H : (if (wrap64 (a1 - (a0_0.size : Int))) < 0 then (some (-1)) else (if (wrap64 ((wrap64 (a1 - (a0_0.size : Int))) - (a0_1.size : Int))) < 0 then (some (-1)) else (some (wrap64 ((wrap64 (a1 - (a0_0.size : Int))) - (a0_1.size : Int)))))) = some r := h
 clear h
 by_cases c3 : (wrap64 (a1 - (a0_0.size : Int))) < 0
 ·
  rw [if_pos c3] at H
  have c3b0 : decide ((wrap64 (a1 - (a0_0.size : Int))) < 0) = true := decide_eq_true c3
  clear c3
  obtain rfl := Option.some.inj H
  go_enter Try.func82, Try.ntmps82
  go_wp2_with (first | ((with_reducible refine qal (N := 2) rfl ?_); refine bxE (N := 2) (cs := #[.string a0_0, .string a0_1]) (t := 106) ?_; intro gb101 hg w4 hbox hb; have BK101 := am (hbox); have GW101 := am (sgE hg (au3 HB.out) : w.heap.size ≤ gb101); have GE101 := GW101; replace HB := am (qad (au3 HB.out) hb); clear hb hbox hg; have hcz5_0 : _ = some (Value.string a0_0) := bcE BK101.out 0; have hcz5_1 : _ = some (Value.string a0_1) := bcE BK101.out 1; have hfz5_0 := qaa BK101.out 0; have hfz5_1 := qaa BK101.out 1))
  go_ret
  exact ⟨by first | rfl | (simp [qag, qah] <;> rfl) | (simp [*, qag, qah] <;> rfl), (au7 HB.out GE101.out)⟩
 ·
  rw [if_neg c3] at H
  have c3b0 : decide ((wrap64 (a1 - (a0_0.size : Int))) < 0) = false := decide_eq_false c3
  clear c3
  by_cases c6 : (wrap64 ((wrap64 (a1 - (a0_0.size : Int))) - (a0_1.size : Int))) < 0
  ·
   rw [if_pos c6] at H
   have c6b0 : decide ((wrap64 ((wrap64 (a1 - (a0_0.size : Int))) - (a0_1.size : Int))) < 0) = true := decide_eq_true c6
   clear c6
   obtain rfl := Option.some.inj H
   go_enter Try.func82, Try.ntmps82
   go_wp2_with (first | ((with_reducible refine qal (N := 2) rfl ?_); refine bxE (N := 2) (cs := #[.string a0_0, .string a0_1]) (t := 106) ?_; intro gb101 hg w7 hbox hb; have BK101 := am (hbox); have GW101 := am (sgE hg (au3 HB.out) : w.heap.size ≤ gb101); have GE101 := GW101; replace HB := am (qad (au3 HB.out) hb); clear hb hbox hg; have hcz8_0 : _ = some (Value.string a0_0) := bcE BK101.out 0; have hcz8_1 : _ = some (Value.string a0_1) := bcE BK101.out 1; have hfz8_0 := qaa BK101.out 0; have hfz8_1 := qaa BK101.out 1))
   go_ret
   exact ⟨by first | rfl | (simp [qag, qah] <;> rfl) | (simp [*, qag, qah] <;> rfl), (au7 HB.out GE101.out)⟩
  ·
   rw [if_neg c6] at H
   have c6b0 : decide ((wrap64 ((wrap64 (a1 - (a0_0.size : Int))) - (a0_1.size : Int))) < 0) = false := decide_eq_false c6
   clear c6
   obtain rfl := Option.some.inj H
   go_enter Try.func82, Try.ntmps82
   go_wp2_with (first | ((with_reducible refine qal (N := 2) rfl ?_); refine bxE (N := 2) (cs := #[.string a0_0, .string a0_1]) (t := 106) ?_; intro gb101 hg w9 hbox hb; have BK101 := am (hbox); have GW101 := am (sgE hg (au3 HB.out) : w.heap.size ≤ gb101); have GE101 := GW101; replace HB := am (qad (au3 HB.out) hb); clear hb hbox hg; have hcz10_0 : _ = some (Value.string a0_0) := bcE BK101.out 0; have hcz10_1 : _ = some (Value.string a0_1) := bcE BK101.out 1; have hfz10_0 := qaa BK101.out 0; have hfz10_1 := qaa BK101.out 1))
   go_ret
   exact ⟨by first | rfl | (simp [qag, qah] <;> rfl) | (simp [*, qag, qah] <;> rfl), (au7 HB.out GE101.out)⟩

end

section
def laws_szFileS.l0 : Nat → List (S106) → Int → Int → Option (Int)
 | 0, _, _, _ => none
 | k + 1, x0, x1, x5 => if x5 < (x0.length : Int) then (if 0 ≤ x5 then ((laws_szFile.f ((qbm x0 x5).f0) ((qbm x0 x5).f1) x1).bind fun t102 => (if t102 < 0 then (some (-1)) else (laws_szFileS.l0 k x0 t102 (wrap64 (x5 + 1))))) else (none)) else (some x1)
def laws_szFileS.f (k : Nat) (l0 : List (S106)) (a1 : Int) : Option (Int) := if (wrap64 (a1 - (l0.length : Int))) < 0 then (some (-1)) else (laws_szFileS.l0 k l0 (wrap64 (a1 - (l0.length : Int))) 0)
theorem laws_szFileS.mono_l : ∀ k, (∀ y0 y1 y2, LeO (laws_szFileS.l0 k y0 y1 y2) (laws_szFileS.l0 (k + 1) y0 y1 y2))
 | 0 => fun _ _ _ r h => by simp [laws_szFileS.l0] at h
 | k + 1 => by
  have ih0 := laws_szFileS.mono_l k
  ·
   intro y0 y1 y2
   unfold laws_szFileS.l0
   repeat' first
   | (with_reducible exact ih0 _ _ _)
   | (with_reducible exact LeO.refl _)
   | (with_reducible exact LeO.none _)
   | (with_reducible refine LeO.ite ?_ ?_)
   | (with_reducible refine LeO.bind ?_ (fun _ => ?_))
   | exact ih0 _ _ _
   | exact LeO.none _
   | refine LeO.ite ?_ ?_
   | refine LeO.bind ?_ (fun _ => ?_)
theorem laws_szFileS.mono : ∀ a0 a1 k, LeO (laws_szFileS.f k a0 a1) (laws_szFileS.f (k + 1) a0 a1) := by
 intro a0 a1 k
 have ih0 := laws_szFileS.mono_l k
 unfold laws_szFileS.f
 repeat' first
  | (with_reducible exact ih0 _ _ _)
  | (with_reducible exact LeO.refl _)
  | (with_reducible exact LeO.none _)
  | (with_reducible refine LeO.ite ?_ ?_)
  | (with_reducible refine LeO.bind ?_ (fun _ => ?_))
  | exact ih0 _ _ _
  | exact LeO.none _
  | refine LeO.ite ?_ ?_
  | refine LeO.bind ?_ (fun _ => ?_)
set_option maxHeartbeats 8000000 in
set_option maxRecDepth 100000 in
theorem laws_szFileS.calls (k : Nat) (A0 : Option Addr) (c0 : Nat) (l0 : List (S106)) (a1 : Int) (r : Int) (w : World) (hr0 : Kd.C k106 w A0 l0.length l0) (hc0 : l0.length ≤ c0) (h : laws_szFileS.f k l0 a1 = some r) :
 Calls Try.prog 41 #[.slice A0 l0.length c0, .int .i64 a1] w fun e w' => e = .returned (.int .i64 r) ∧ Below w.heap.size w w' := by
 have hu106 := Try.underlying106
 have HR0 := am hr0
 have HC0 := am hc0
 clear hr0 hc0
 have HB := am (Below.refl w.heap.size w)
 have H : (if (wrap64 (a1 - (l0.length : Int))) < 0 then (some (-1)) else (laws_szFileS.l0 k l0 (wrap64 (a1 - (l0.length : Int))) 0)) = some r := h
 clear h
 by_cases c3 : (wrap64 (a1 - (l0.length : Int))) < 0
 ·
  rw [if_pos c3] at H
  have c3b0 : decide ((wrap64 (a1 - (l0.length : Int))) < 0) = true := decide_eq_true c3
  clear c3
  obtain rfl := Option.some.inj H
  go_enter Try.func41, Try.ntmps41
  go_wp2
  go_ret
  exact ⟨by first | rfl | (simp [qag, qah] <;> rfl) | (simp [*, qag, qah] <;> rfl), (au3 HB.out)⟩
 ·
  rw [if_neg c3] at H
  have c3b0 : decide ((wrap64 (a1 - (l0.length : Int))) < 0) = false := decide_eq_false c3
  clear c3
  have H' := am H
  clear H
  go_enter Try.func41, Try.ntmps41
  go_wp2
  go_loopg [1, 5] k (fun kq v1 v5 w' => ∃ (x1_1 : Int) (x5_1 : Int), v1 = .int .i64 x1_1 ∧ v5 = .int .i64 x5_1 ∧ Aside0 (laws_szFileS.l0 kq l0 x1_1 x5_1 = some r) ∧ Aside0 (kq ≤ k) ∧ Aside0 (Below w.heap.size w w'))
  case atStart => exact ⟨(wrap64 (a1 - (l0.length : Int))), (0), au10, au10, H', ⟨Nat.le_refl _⟩, ⟨(au3 HB.out)⟩⟩
  case round =>
   clear H'
   obtain ⟨x1_1, x5_1, rfl, rfl, HA, HK1, HB⟩ := hrel
   cases gk with
   | zero => exact absurd HA.out (by simp [laws_szFileS.l0])
   | succ k1 =>
    have H := HA.out
    clear HA
    simp only [laws_szFileS.l0] at H
    by_cases c4 : x5_1 < (l0.length : Int)
    ·
     rw [if_pos c4] at H
     have c4b0 : decide (x5_1 < (l0.length : Int)) = true := decide_eq_true c4
     clear c4
     by_cases c5 : 0 ≤ x5_1
     ·
      rw [if_pos c5] at H
      have c5b0 : decide (0 ≤ x5_1) = true := decide_eq_true c5
      clear c5
      replace H := Option.bind_eq_some_iff.mp H
      obtain ⟨t102, A60, H⟩ := H
      replace H : (if t102 < 0 then (some (-1)) else (laws_szFileS.l0 k1 l0 t102 (wrap64 (x5_1 + 1)))) = some r := H
      have A6 := am A60
      clear A60
      by_cases c7 : t102 < 0
      ·
       rw [if_pos c7] at H
       have c7b0 : decide (t102 < 0) = true := decide_eq_true c7
       clear c7
       obtain rfl := Option.some.inj H
       have p101 : 0 ≤ (x5_1 : Int) := of_decide_eq_true au9
       have q101 : x5_1 < (l0.length : Int) := of_decide_eq_true au9
       obtain ⟨ad101, e101, hx101_0, hx101_1⟩ := at_T106 HR0.out x5_1 p101 q101
       cases e101
       replace hx101_0 := qac HB.out hx101_0
       replace hx101_1 := qac HB.out hx101_1
       replace p101 := eq_true p101
       replace q101 := eq_true q101
       go_wp2_with (first | ((with_reducible refine qaj (f := 82) rfl ?_); refine qap (some 23) rfl rfl Try.func82 (by kernel_rfl) rfl #[.agg #[.string ((qbm l0 x5_1).f0), .string ((qbm l0 x5_1).f1)], .int .i64 x1_1] rfl au6 ?_; (with_reducible refine (laws_szFile.calls ((qbm l0 x5_1).f0) ((qbm l0 x5_1).f1) x1_1 t102 _ A6.out).mono ?_); rintro e w8 ⟨rfl, hb⟩; refine ⟨_, rfl, ?_⟩; replace HB := am (qad (au3 HB.out) hb); (try clear hb); (try clear hb2); (try clear hk); (try clear hi)))
       go_ret
       exact ⟨by first | rfl | (simp [qag, qah] <;> rfl) | (simp [*, qag, qah] <;> rfl), (au3 HB.out)⟩
      ·
       rw [if_neg c7] at H
       have c7b0 : decide (t102 < 0) = false := decide_eq_false c7
       clear c7
       have H' := am H
       clear H
       have p101 : 0 ≤ (x5_1 : Int) := of_decide_eq_true au9
       have q101 : x5_1 < (l0.length : Int) := of_decide_eq_true au9
       obtain ⟨ad101, e101, hx101_0, hx101_1⟩ := at_T106 HR0.out x5_1 p101 q101
       cases e101
       replace hx101_0 := qac HB.out hx101_0
       replace hx101_1 := qac HB.out hx101_1
       replace p101 := eq_true p101
       replace q101 := eq_true q101
       go_wp2_with (first | ((with_reducible refine qaj (f := 82) rfl ?_); refine qap (some 23) rfl rfl Try.func82 (by kernel_rfl) rfl #[.agg #[.string ((qbm l0 x5_1).f0), .string ((qbm l0 x5_1).f1)], .int .i64 x1_1] rfl au6 ?_; (with_reducible refine (laws_szFile.calls ((qbm l0 x5_1).f0) ((qbm l0 x5_1).f1) x1_1 t102 _ A6.out).mono ?_); rintro e w9 ⟨rfl, hb⟩; refine ⟨_, rfl, ?_⟩; replace HB := am (qad (au3 HB.out) hb); (try clear hb); (try clear hb2); (try clear hk); (try clear hi)))
       go_roundg k1
       case measure => have := HK1.out; omega
       case rel => exact ⟨(t102), (wrap64 (x5_1 + 1)), au10, au10, H', ⟨by have := HK1.out; omega⟩, ⟨(au3 HB.out)⟩⟩
     ·
      rw [if_neg c5] at H
      exact absurd H (by simp)
    ·
     rw [if_neg c4] at H
     have c4b0 : decide (x5_1 < (l0.length : Int)) = false := decide_eq_false c4
     clear c4
     obtain rfl := Option.some.inj H
     go_wp2
     go_ret
     exact ⟨by first | rfl | (simp [qag, qah] <;> rfl) | (simp [*, qag, qah] <;> rfl), (au3 HB.out)⟩

end

section
def laws_szDisk.f (k : Nat) (l0_0 : List (S106)) (l0_1 : List (S106)) (l0_2 : List (S108)) (a1 : Int) : Option (Int) := (laws_szFileS.f k l0_0 a1).bind fun t102 => (if t102 < 0 then (some (-1)) else ((laws_szFileS.f k l0_1 t102).bind fun t103 => (if t103 < 0 then (some (-1)) else ((laws_szDOpS.f k l0_2 t103).bind fun t104 => (if t104 < 0 then (some (-1)) else (some t104))))))
theorem laws_szDisk.mono : ∀ a0 a1 a2 a3 k, LeO (laws_szDisk.f k a0 a1 a2 a3) (laws_szDisk.f (k + 1) a0 a1 a2 a3) := by
 intro a0 a1 a2 a3 k
 unfold laws_szDisk.f
 repeat' first
  | (with_reducible exact laws_szDOpS.mono _ _ _)
  | (with_reducible exact laws_szFileS.mono _ _ _)
  | (with_reducible exact LeO.refl _)
  | (with_reducible exact LeO.none _)
  | (with_reducible refine LeO.ite ?_ ?_)
  | (with_reducible refine LeO.bind ?_ (fun _ => ?_))
  | exact laws_szDOpS.mono _ _ _
  | exact laws_szFileS.mono _ _ _
  | exact LeO.none _
  | refine LeO.ite ?_ ?_
  | refine LeO.bind ?_ (fun _ => ?_)
set_option maxHeartbeats 8000000 in
set_option maxRecDepth 100000 in
theorem laws_szDisk.calls (k : Nat) (A0_0 : Option Addr) (c0_0 : Nat) (l0_0 : List (S106)) (A0_1 : Option Addr) (c0_1 : Nat) (l0_1 : List (S106)) (A0_2 : Option Addr) (c0_2 : Nat) (l0_2 : List (S108)) (a1 : Int) (r : Int) (w : World) (hr0_0 : Kd.C k106 w A0_0 l0_0.length l0_0) (hc0_0 : l0_0.length ≤ c0_0) (hr0_1 : Kd.C k106 w A0_1 l0_1.length l0_1) (hc0_1 : l0_1.length ≤ c0_1) (hr0_2 : Kd.C k108 w A0_2 l0_2.length l0_2) (hc0_2 : l0_2.length ≤ c0_2) (h : laws_szDisk.f k l0_0 l0_1 l0_2 a1 = some r) :
 Calls Try.prog 12 #[.agg #[.slice A0_0 l0_0.length c0_0, .slice A0_1 l0_1.length c0_1, .slice A0_2 l0_2.length c0_2], .int .i64 a1] w fun e w' => e = .returned (.int .i64 r) ∧ Below w.heap.size w w' := by
 have hu25 := Try.underlying25
 have HR0_0 := am hr0_0
 have HC0_0 := am hc0_0
 clear hr0_0 hc0_0
 have HR0_1 := am hr0_1
 have HC0_1 := am hc0_1
 clear hr0_1 hc0_1
 have HR0_2 := am hr0_2
 have HC0_2 := am hc0_2
 clear hr0_2 hc0_2
 have HB := am (Below.refl w.heap.size w)
 have H : ((laws_szFileS.f k l0_0 a1).bind fun t102 => (if t102 < 0 then (some (-1)) else ((laws_szFileS.f k l0_1 t102).bind fun t103 => (if t103 < 0 then (some (-1)) else ((laws_szDOpS.f k l0_2 t103).bind fun t104 => (if t104 < 0 then (some (-1)) else (some t104))))))) = some r := h
 clear h
 replace H := Option.bind_eq_some_iff.mp H
 obtain ⟨t102, A30, H⟩ := H
 replace H : (if t102 < 0 then (some (-1)) else ((laws_szFileS.f k l0_1 t102).bind fun t103 => (if t103 < 0 then (some (-1)) else ((laws_szDOpS.f k l0_2 t103).bind fun t104 => (if t104 < 0 then (some (-1)) else (some t104)))))) = some r := H
 have A3 := am A30
 clear A30
 by_cases c4 : t102 < 0
 ·
  rw [if_pos c4] at H
  have c4b0 : decide (t102 < 0) = true := decide_eq_true c4
  clear c4
  obtain rfl := Option.some.inj H
  go_enter Try.func12, Try.ntmps12
  go_wp2_with (first | ((with_reducible refine qal (N := 2) rfl ?_); refine bxE (N := 2) (cs := #[.slice A0_0 l0_0.length c0_0, .slice A0_1 l0_1.length c0_1, .slice A0_2 l0_2.length c0_2]) (t := 25) ?_; intro gb101 hg w5 hbox hb; have BK101 := am (hbox); have GW101 := am (sgE hg (au3 HB.out) : w.heap.size ≤ gb101); have GE101 := GW101; replace HB := am (qad (au3 HB.out) hb); clear hb hbox hg; have hcz6_0 : _ = some (Value.slice A0_0 l0_0.length c0_0) := bcE BK101.out 0; have hcz6_1 : _ = some (Value.slice A0_1 l0_1.length c0_1) := bcE BK101.out 1; have hcz6_2 : _ = some (Value.slice A0_2 l0_2.length c0_2) := bcE BK101.out 2; have hfz6_0 := qaa BK101.out 0; have hfz6_1 := qaa BK101.out 1; have hfz6_2 := qaa BK101.out 2) | ((with_reducible refine qaj (f := 41) rfl ?_); refine qap (some 8) rfl rfl Try.func41 (by kernel_rfl) rfl #[.slice A0_0 l0_0.length c0_0, .int .i64 a1] rfl au6 ?_; (with_reducible refine (laws_szFileS.calls k _ _ l0_0 a1 t102 _ ?side1 ?side2 A3.out).mono ?_); (case side1 => exact scE (Kd.C_below HR0_0.out HB.out)); (case side2 => exact HC0_0.out); rintro e w7 ⟨rfl, hb⟩; refine ⟨_, rfl, ?_⟩; replace BK101 := am (qab (au1 BK101.out) hb); replace HB := am (qad (au7 HB.out GE101.out) hb); (try clear hb); (try clear hb2); (try clear hk); (try clear hi)))
  go_ret
  exact ⟨by first | rfl | (simp [qag, qah] <;> rfl) | (simp [*, qag, qah] <;> rfl), (au7 HB.out GE101.out)⟩
 ·
  rw [if_neg c4] at H
  have c4b0 : decide (t102 < 0) = false := decide_eq_false c4
  clear c4
  replace H := Option.bind_eq_some_iff.mp H
  obtain ⟨t103, A80, H⟩ := H
  replace H : (if t103 < 0 then (some (-1)) else ((laws_szDOpS.f k l0_2 t103).bind fun t104 => (if t104 < 0 then (some (-1)) else (some t104)))) = some r := H
  have A8 := am A80
  clear A80
  by_cases c9 : t103 < 0
  ·
   rw [if_pos c9] at H
   have c9b0 : decide (t103 < 0) = true := decide_eq_true c9
   clear c9
   obtain rfl := Option.some.inj H
   go_enter Try.func12, Try.ntmps12
   go_wp2_with (first | ((with_reducible refine qal (N := 2) rfl ?_); refine bxE (N := 2) (cs := #[.slice A0_0 l0_0.length c0_0, .slice A0_1 l0_1.length c0_1, .slice A0_2 l0_2.length c0_2]) (t := 25) ?_; intro gb101 hg w10 hbox hb; have BK101 := am (hbox); have GW101 := am (sgE hg (au3 HB.out) : w.heap.size ≤ gb101); have GE101 := GW101; replace HB := am (qad (au3 HB.out) hb); clear hb hbox hg; have hcz11_0 : _ = some (Value.slice A0_0 l0_0.length c0_0) := bcE BK101.out 0; have hcz11_1 : _ = some (Value.slice A0_1 l0_1.length c0_1) := bcE BK101.out 1; have hcz11_2 : _ = some (Value.slice A0_2 l0_2.length c0_2) := bcE BK101.out 2; have hfz11_0 := qaa BK101.out 0; have hfz11_1 := qaa BK101.out 1; have hfz11_2 := qaa BK101.out 2) | ((with_reducible refine qaj (f := 41) rfl ?_); refine qap (some 8) rfl rfl Try.func41 (by kernel_rfl) rfl #[.slice A0_0 l0_0.length c0_0, .int .i64 a1] rfl au6 ?_; (with_reducible refine (laws_szFileS.calls k _ _ l0_0 a1 t102 _ ?side1 ?side2 A3.out).mono ?_); (case side1 => exact scE (Kd.C_below HR0_0.out HB.out)); (case side2 => exact HC0_0.out); rintro e w12 ⟨rfl, hb⟩; refine ⟨_, rfl, ?_⟩; replace BK101 := am (qab (au1 BK101.out) hb); replace HB := am (qad (au7 HB.out GE101.out) hb); (try clear hb); (try clear hb2); (try clear hk); (try clear hi); have hcz13_0 : _ = some (Value.slice A0_0 l0_0.length c0_0) := bcE BK101.out 0; have hcz13_1 : _ = some (Value.slice A0_1 l0_1.length c0_1) := bcE BK101.out 1; have hcz13_2 : _ = some (Value.slice A0_2 l0_2.length c0_2) := bcE BK101.out 2; have hfz13_0 := qaa BK101.out 0; have hfz13_1 := qaa BK101.out 1; have hfz13_2 := qaa BK101.out 2) | ((with_reducible refine qaj (f := 41) rfl ?_); refine qap (some 14) rfl rfl Try.func41 (by kernel_rfl) rfl #[.slice A0_1 l0_1.length c0_1, .int .i64 t102] rfl au6 ?_; (with_reducible refine (laws_szFileS.calls k _ _ l0_1 t102 t103 _ ?side1 ?side2 A8.out).mono ?_); (case side1 => exact scE (Kd.C_below HR0_1.out HB.out)); (case side2 => exact HC0_1.out); rintro e w14 ⟨rfl, hb⟩; refine ⟨_, rfl, ?_⟩; replace BK101 := am (qab (au1 BK101.out) hb); replace HB := am (qad (au7 HB.out GE101.out) hb); (try clear hb); (try clear hb2); (try clear hk); (try clear hi)))
   go_ret
   exact ⟨by first | rfl | (simp [qag, qah] <;> rfl) | (simp [*, qag, qah] <;> rfl), (au7 HB.out GE101.out)⟩
  ·
   rw [if_neg c9] at H
   have c9b0 : decide (t103 < 0) = false := decide_eq_false c9
   clear c9
   replace H := Option.bind_eq_some_iff.mp H
   obtain ⟨t104, A150, H⟩ := H
   replace H : (if t104 < 0 then (some (-1)) else (some t104)) = some r := H
   have A15 := am A150
   clear A150
   by_cases c16 : t104 < 0
   ·
    rw [if_pos c16] at H
    have c16b0 : decide (t104 < 0) = true := decide_eq_true c16
    clear c16
    obtain rfl := Option.some.inj H
    go_enter Try.func12, Try.ntmps12
    go_wp2_with (first | ((with_reducible refine qal (N := 2) rfl ?_); refine bxE (N := 2) (cs := #[.slice A0_0 l0_0.length c0_0, .slice A0_1 l0_1.length c0_1, .slice A0_2 l0_2.length c0_2]) (t := 25) ?_; intro gb101 hg w17 hbox hb; have BK101 := am (hbox); have GW101 := am (sgE hg (au3 HB.out) : w.heap.size ≤ gb101); have GE101 := GW101; replace HB := am (qad (au3 HB.out) hb); clear hb hbox hg; have hcz18_0 : _ = some (Value.slice A0_0 l0_0.length c0_0) := bcE BK101.out 0; have hcz18_1 : _ = some (Value.slice A0_1 l0_1.length c0_1) := bcE BK101.out 1; have hcz18_2 : _ = some (Value.slice A0_2 l0_2.length c0_2) := bcE BK101.out 2; have hfz18_0 := qaa BK101.out 0; have hfz18_1 := qaa BK101.out 1; have hfz18_2 := qaa BK101.out 2) | ((with_reducible refine qaj (f := 41) rfl ?_); refine qap (some 8) rfl rfl Try.func41 (by kernel_rfl) rfl #[.slice A0_0 l0_0.length c0_0, .int .i64 a1] rfl au6 ?_; (with_reducible refine (laws_szFileS.calls k _ _ l0_0 a1 t102 _ ?side1 ?side2 A3.out).mono ?_); (case side1 => exact scE (Kd.C_below HR0_0.out HB.out)); (case side2 => exact HC0_0.out); rintro e w19 ⟨rfl, hb⟩; refine ⟨_, rfl, ?_⟩; replace BK101 := am (qab (au1 BK101.out) hb); replace HB := am (qad (au7 HB.out GE101.out) hb); (try clear hb); (try clear hb2); (try clear hk); (try clear hi); have hcz20_0 : _ = some (Value.slice A0_0 l0_0.length c0_0) := bcE BK101.out 0; have hcz20_1 : _ = some (Value.slice A0_1 l0_1.length c0_1) := bcE BK101.out 1; have hcz20_2 : _ = some (Value.slice A0_2 l0_2.length c0_2) := bcE BK101.out 2; have hfz20_0 := qaa BK101.out 0; have hfz20_1 := qaa BK101.out 1; have hfz20_2 := qaa BK101.out 2) | ((with_reducible refine qaj (f := 41) rfl ?_); refine qap (some 14) rfl rfl Try.func41 (by kernel_rfl) rfl #[.slice A0_1 l0_1.length c0_1, .int .i64 t102] rfl au6 ?_; (with_reducible refine (laws_szFileS.calls k _ _ l0_1 t102 t103 _ ?side1 ?side2 A8.out).mono ?_); (case side1 => exact scE (Kd.C_below HR0_1.out HB.out)); (case side2 => exact HC0_1.out); rintro e w21 ⟨rfl, hb⟩; refine ⟨_, rfl, ?_⟩; replace BK101 := am (qab (au1 BK101.out) hb); replace HB := am (qad (au7 HB.out GE101.out) hb); (try clear hb); (try clear hb2); (try clear hk); (try clear hi); have hcz22_0 : _ = some (Value.slice A0_0 l0_0.length c0_0) := bcE BK101.out 0; have hcz22_1 : _ = some (Value.slice A0_1 l0_1.length c0_1) := bcE BK101.out 1; have hcz22_2 : _ = some (Value.slice A0_2 l0_2.length c0_2) := bcE BK101.out 2; have hfz22_0 := qaa BK101.out 0; have hfz22_1 := qaa BK101.out 1; have hfz22_2 := qaa BK101.out 2) | ((with_reducible refine qaj (f := 42) rfl ?_); refine qap (some 20) rfl rfl Try.func42 (by kernel_rfl) rfl #[.slice A0_2 l0_2.length c0_2, .int .i64 t103] rfl au6 ?_; (with_reducible refine (laws_szDOpS.calls k _ _ l0_2 t103 t104 _ ?side1 ?side2 A15.out).mono ?_); (case side1 => exact scE (Kd.C_below HR0_2.out HB.out)); (case side2 => exact HC0_2.out); rintro e w23 ⟨rfl, hb⟩; refine ⟨_, rfl, ?_⟩; replace BK101 := am (qab (au1 BK101.out) hb); replace HB := am (qad (au7 HB.out GE101.out) hb); (try clear hb); (try clear hb2); (try clear hk); (try clear hi)))
    go_ret
    exact ⟨by first | rfl | (simp [qag, qah] <;> rfl) | (simp [*, qag, qah] <;> rfl), (au7 HB.out GE101.out)⟩
   ·
    rw [if_neg c16] at H
    have c16b0 : decide (t104 < 0) = false := decide_eq_false c16
    clear c16
    obtain rfl := Option.some.inj H
    go_enter Try.func12, Try.ntmps12
    go_wp2_with (first | ((with_reducible refine qal (N := 2) rfl ?_); refine bxE (N := 2) (cs := #[.slice A0_0 l0_0.length c0_0, .slice A0_1 l0_1.length c0_1, .slice A0_2 l0_2.length c0_2]) (t := 25) ?_; intro gb101 hg w24 hbox hb; have BK101 := am (hbox); have GW101 := am (sgE hg (au3 HB.out) : w.heap.size ≤ gb101); have GE101 := GW101; replace HB := am (qad (au3 HB.out) hb); clear hb hbox hg; have hcz25_0 : _ = some (Value.slice A0_0 l0_0.length c0_0) := bcE BK101.out 0; have hcz25_1 : _ = some (Value.slice A0_1 l0_1.length c0_1) := bcE BK101.out 1; have hcz25_2 : _ = some (Value.slice A0_2 l0_2.length c0_2) := bcE BK101.out 2; have hfz25_0 := qaa BK101.out 0; have hfz25_1 := qaa BK101.out 1; have hfz25_2 := qaa BK101.out 2) | ((with_reducible refine qaj (f := 41) rfl ?_); refine qap (some 8) rfl rfl Try.func41 (by kernel_rfl) rfl #[.slice A0_0 l0_0.length c0_0, .int .i64 a1] rfl au6 ?_; (with_reducible refine (laws_szFileS.calls k _ _ l0_0 a1 t102 _ ?side1 ?side2 A3.out).mono ?_); (case side1 => exact scE (Kd.C_below HR0_0.out HB.out)); (case side2 => exact HC0_0.out); rintro e w26 ⟨rfl, hb⟩; refine ⟨_, rfl, ?_⟩; replace BK101 := am (qab (au1 BK101.out) hb); replace HB := am (qad (au7 HB.out GE101.out) hb); (try clear hb); (try clear hb2); (try clear hk); (try clear hi); have hcz27_0 : _ = some (Value.slice A0_0 l0_0.length c0_0) := bcE BK101.out 0; have hcz27_1 : _ = some (Value.slice A0_1 l0_1.length c0_1) := bcE BK101.out 1; have hcz27_2 : _ = some (Value.slice A0_2 l0_2.length c0_2) := bcE BK101.out 2; have hfz27_0 := qaa BK101.out 0; have hfz27_1 := qaa BK101.out 1; have hfz27_2 := qaa BK101.out 2) | ((with_reducible refine qaj (f := 41) rfl ?_); refine qap (some 14) rfl rfl Try.func41 (by kernel_rfl) rfl #[.slice A0_1 l0_1.length c0_1, .int .i64 t102] rfl au6 ?_; (with_reducible refine (laws_szFileS.calls k _ _ l0_1 t102 t103 _ ?side1 ?side2 A8.out).mono ?_); (case side1 => exact scE (Kd.C_below HR0_1.out HB.out)); (case side2 => exact HC0_1.out); rintro e w28 ⟨rfl, hb⟩; refine ⟨_, rfl, ?_⟩; replace BK101 := am (qab (au1 BK101.out) hb); replace HB := am (qad (au7 HB.out GE101.out) hb); (try clear hb); (try clear hb2); (try clear hk); (try clear hi); have hcz29_0 : _ = some (Value.slice A0_0 l0_0.length c0_0) := bcE BK101.out 0; have hcz29_1 : _ = some (Value.slice A0_1 l0_1.length c0_1) := bcE BK101.out 1; have hcz29_2 : _ = some (Value.slice A0_2 l0_2.length c0_2) := bcE BK101.out 2; have hfz29_0 := qaa BK101.out 0; have hfz29_1 := qaa BK101.out 1; have hfz29_2 := qaa BK101.out 2) | ((with_reducible refine qaj (f := 42) rfl ?_); refine qap (some 20) rfl rfl Try.func42 (by kernel_rfl) rfl #[.slice A0_2 l0_2.length c0_2, .int .i64 t103] rfl au6 ?_; (with_reducible refine (laws_szDOpS.calls k _ _ l0_2 t103 t104 _ ?side1 ?side2 A15.out).mono ?_); (case side1 => exact scE (Kd.C_below HR0_2.out HB.out)); (case side2 => exact HC0_2.out); rintro e w30 ⟨rfl, hb⟩; refine ⟨_, rfl, ?_⟩; replace BK101 := am (qab (au1 BK101.out) hb); replace HB := am (qad (au7 HB.out GE101.out) hb); (try clear hb); (try clear hb2); (try clear hk); (try clear hi)))
    go_ret
    exact ⟨by first | rfl | (simp [qag, qah] <;> rfl) | (simp [*, qag, qah] <;> rfl), (au7 HB.out GE101.out)⟩

end

section
def laws_toDOp.f (a0_0 : Int) (a0_1 : ByteArray) (a0_2 : ByteArray) (a0_3 : ByteArray) : Option (Int × ByteArray × ByteArray × ByteArray) := some (a0_0, a0_1, a0_2, a0_3)
set_option maxHeartbeats 8000000 in
set_option maxRecDepth 100000 in
theorem laws_toDOp.calls (a0_0 : Int) (a0_1 : ByteArray) (a0_2 : ByteArray) (a0_3 : ByteArray) (r1 : Int) (r2 : ByteArray) (r3 : ByteArray) (r4 : ByteArray) (w : World) (h : laws_toDOp.f a0_0 a0_1 a0_2 a0_3 = some (r1, r2, r3, r4)) :
 Calls Try.prog 88 #[.agg #[.int .i64 a0_0, .string a0_1, .string a0_2, .string a0_3]] w fun e w' => e = .returned (.agg #[.int .i64 r1, .string r2, .string r3, .string r4]) ∧ Below w.heap.size w w' := by
 have hu108 := Try.underlying108
 have hu73 := Try.underlying73
 have HB := am (Below.refl w.heap.size w)
 have H : (some (a0_0, a0_1, a0_2, a0_3)) = some (r1, r2, r3, r4) := h
 clear h
 simp only [Option.some.injEq, Prod.mk.injEq] at H
 obtain ⟨rfl, rfl, rfl, rfl⟩ := H
 go_enter Try.func88, Try.ntmps88
 go_wp2_with (first | ((with_reducible refine qal (N := 1) rfl ?_); refine bxE (N := 1) (cs := #[.int .i64 a0_0, .string a0_1, .string a0_2, .string a0_3]) (t := 108) ?_; intro gb101 hg w2 hbox hb; have BK101 := am (hbox); have GW101 := am (sgE hg (au3 HB.out) : w.heap.size ≤ gb101); have GE101 := GW101; replace HB := am (qad (au3 HB.out) hb); clear hb hbox hg) | ((with_reducible refine qal (N := 2) rfl ?_); refine bxE (N := 2) (cs := #[.int .i64 0, .string (⟨#[]⟩ : ByteArray), .string (⟨#[]⟩ : ByteArray), .string (⟨#[]⟩ : ByteArray)]) (t := 73) ?_; intro gb102 hg w3 hbox hb; have BK102 := am (hbox); have GW102 := am (sgE hg (au7 HB.out GE101.out) : w.heap.size ≤ gb102); have GE102 := GW102; replace HB := am (qad (au7 HB.out GE101.out) hb); have NB101_102 := am ((sltE hg (qan (au1 BK101.out)))); have NB102_101 := am ((sgtE hg (qan (au1 BK101.out)))); replace BK101 := am (qab (au1 BK101.out) hb); clear hb hbox hg) | ((with_reducible refine qal (N := 3) rfl ?_); refine bxE (N := 3) (cs := #[.int .i64 0, .string (⟨#[]⟩ : ByteArray), .string (⟨#[]⟩ : ByteArray), .string (⟨#[]⟩ : ByteArray)]) (t := 73) ?_; intro gb103 hg w4 hbox hb; have BK103 := am (hbox); have GW103 := am (sgE hg (au4 HB.out GE101.out GE102.out) : w.heap.size ≤ gb103); have GE103 := GW103; replace HB := am (qad (au4 HB.out GE101.out GE102.out) hb); have NB101_103 := am ((sltE hg (qan (au1 BK101.out)))); have NB103_101 := am ((sgtE hg (qan (au1 BK101.out)))); replace BK101 := am (qab (au1 BK101.out) hb); have NB102_103 := am ((sltE hg (qan (au1 BK102.out)))); have NB103_102 := am ((sgtE hg (qan (au1 BK102.out)))); replace BK102 := am (qab (au1 BK102.out) hb); clear hb hbox hg; have hnb5 := NB101_102.out; have hnc5 := NB102_101.out; have hnb6 := NB101_103.out; have hnc6 := NB103_101.out; have hcz7_0 : _ = some (Value.int .i64 a0_0) := bcE BK101.out 0; have hcz7_1 : _ = some (Value.string a0_1) := bcE BK101.out 1; have hcz7_2 : _ = some (Value.string a0_2) := bcE BK101.out 2; have hcz7_3 : _ = some (Value.string a0_3) := bcE BK101.out 3; have hfz7_0 := qaa BK101.out 0; have hfz7_1 := qaa BK101.out 1; have hfz7_2 := qaa BK101.out 2; have hfz7_3 := qaa BK101.out 3; have hnb8 := NB103_102.out; have hnc8 := NB102_103.out; have hcz9_0 : _ = some (Value.int .i64 0) := bcE BK103.out 0; have hcz9_1 : _ = some (Value.string (⟨#[]⟩ : ByteArray)) := bcE BK103.out 1; have hcz9_2 : _ = some (Value.string (⟨#[]⟩ : ByteArray)) := bcE BK103.out 2; have hcz9_3 : _ = some (Value.string (⟨#[]⟩ : ByteArray)) := bcE BK103.out 3; have hfz9_0 := qaa BK103.out 0; have hfz9_1 := qaa BK103.out 1; have hfz9_2 := qaa BK103.out 2; have hfz9_3 := qaa BK103.out 3; have hcz10_0 : _ = some (Value.int .i64 0) := bcE BK102.out 0; have hcz10_1 : _ = some (Value.string (⟨#[]⟩ : ByteArray)) := bcE BK102.out 1; have hcz10_2 : _ = some (Value.string (⟨#[]⟩ : ByteArray)) := bcE BK102.out 2; have hcz10_3 : _ = some (Value.string (⟨#[]⟩ : ByteArray)) := bcE BK102.out 3; have hfz10_0 := qaa BK102.out 0; have hfz10_1 := qaa BK102.out 1; have hfz10_2 := qaa BK102.out 2; have hfz10_3 := qaa BK102.out 3))
 refine bodyPost_ret (results_cell_row rfl _ _ gb102 73 #[.int .i64 a0_0, .string a0_1, .string a0_2, .string a0_3] (0, 0) _ rfl (by refine au1 ?_; refine qam (cs := #[.int .i64 a0_0, .string a0_1, .string a0_2, .string (⟨#[]⟩ : ByteArray)]) ?_ 3 _ rfl; refine au1 ?_; refine qam (cs := #[.int .i64 a0_0, .string a0_1, .string (⟨#[]⟩ : ByteArray), .string (⟨#[]⟩ : ByteArray)]) ?_ 2 _ rfl; refine au1 ?_; refine qam (cs := #[.int .i64 a0_0, .string (⟨#[]⟩ : ByteArray), .string (⟨#[]⟩ : ByteArray), .string (⟨#[]⟩ : ByteArray)]) ?_ 1 _ rfl; refine au1 ?_; refine qam (cs := #[.int .i64 0, .string (⟨#[]⟩ : ByteArray), .string (⟨#[]⟩ : ByteArray), .string (⟨#[]⟩ : ByteArray)]) ?_ 0 _ rfl; refine au1 ?_; refine qas ?_ NB102_103.out _; refine au1 ?_; refine qas ?_ NB102_103.out _; refine au1 ?_; refine qas ?_ NB102_103.out _; refine au1 ?_; refine qas ?_ NB102_103.out _; refine au1 ?_; exact BK102.out) Try.underlying73 rfl (by kernel_rfl)) rfl ?_
 exact ⟨by first | rfl | (simp [qag, qah] <;> rfl) | (simp [*, qag, qah] <;> rfl), (au11 HB.out GE101.out GE102.out GE103.out)⟩

end

section
def laws_toDOpS.l0 : Nat → List (S108) → List (S73) → Int → Option ((List (S73)))
 | 0, _, _, _ => none
 | k + 1, x0, x3, x4 => if x4 < (x0.length : Int) then (if 0 ≤ x4 then ((laws_toDOp.f ((qbc x0 x4).f0) ((qbc x0 x4).f1) ((qbc x0 x4).f2) ((qbc x0 x4).f3)).bind fun bt105 => (if x4 < (x3.length : Int) then (laws_toDOpS.l0 k x0 (x3.set (x4 : Int).toNat (⟨bt105.1, bt105.2.1, bt105.2.2.1, bt105.2.2.2⟩ : S73)) (wrap64 (x4 + 1))) else (none))) else (none)) else (some x3)
def laws_toDOpS.f (k : Nat) (l0 : List (S108)) : Option ((List (S73))) := if 0 ≤ (l0.length : Int) then (if ((l0.length : Int) : Int).toNat ≤ 5026338869833 then (laws_toDOpS.l0 k l0 (List.replicate ((l0.length : Int) : Int).toNat z73) 0) else (none)) else (none)
theorem laws_toDOpS.mono_l : ∀ k, (∀ y0 y1 y2, LeO (laws_toDOpS.l0 k y0 y1 y2) (laws_toDOpS.l0 (k + 1) y0 y1 y2))
 | 0 => fun _ _ _ r h => by simp [laws_toDOpS.l0] at h
 | k + 1 => by
  have ih0 := laws_toDOpS.mono_l k
  ·
   intro y0 y1 y2
   unfold laws_toDOpS.l0
   repeat' first
   | (with_reducible exact ih0 _ _ _)
   | (with_reducible exact LeO.refl _)
   | (with_reducible exact LeO.none _)
   | (with_reducible refine LeO.ite ?_ ?_)
   | (with_reducible refine LeO.bind ?_ (fun _ => ?_))
   | exact ih0 _ _ _
   | exact LeO.none _
   | refine LeO.ite ?_ ?_
   | refine LeO.bind ?_ (fun _ => ?_)
theorem laws_toDOpS.mono : ∀ a0 k, LeO (laws_toDOpS.f k a0) (laws_toDOpS.f (k + 1) a0) := by
 intro a0 k
 have ih0 := laws_toDOpS.mono_l k
 unfold laws_toDOpS.f
 repeat' first
  | (with_reducible exact ih0 _ _ _)
  | (with_reducible exact LeO.refl _)
  | (with_reducible exact LeO.none _)
  | (with_reducible refine LeO.ite ?_ ?_)
  | (with_reducible refine LeO.bind ?_ (fun _ => ?_))
  | exact ih0 _ _ _
  | exact LeO.none _
  | refine LeO.ite ?_ ?_
  | refine LeO.bind ?_ (fun _ => ?_)
set_option maxHeartbeats 8000000 in
set_option maxRecDepth 100000 in
theorem laws_toDOpS.calls (k : Nat) (A0 : Option Addr) (c0 : Nat) (l0 : List (S108)) (r : List (S73)) (w : World) (hr0 : Kd.C k108 w A0 l0.length l0) (hc0 : l0.length ≤ c0) (h : laws_toDOpS.f k l0 = some r) :
 Calls Try.prog 48 #[.slice A0 l0.length c0] w fun e w' => ∃ v0_ : Value, e = .returned (v0_) ∧ Kd.R k73 73 w' w.heap.size (fun _ => True) v0_ r ∧ Below w.heap.size w w' := by
 have hu108 := Try.underlying108
 have hu73 := Try.underlying73
 have HR0 := am hr0
 have HC0 := am hc0
 clear hr0 hc0
 have HB := am (Below.refl w.heap.size w)
 have H : (if 0 ≤ (l0.length : Int) then (if ((l0.length : Int) : Int).toNat ≤ 5026338869833 then (laws_toDOpS.l0 k l0 (List.replicate ((l0.length : Int) : Int).toNat z73) 0) else (none)) else (none)) = some r := h
 clear h
 by_cases c2 : 0 ≤ (l0.length : Int)
 ·
  rw [if_pos c2] at H
  have c2b0 := eq_true c2
  have c2b1 : decide (0 ≤ (l0.length : Int)) = true := decide_eq_true c2
  clear c2
  by_cases c3 : ((l0.length : Int) : Int).toNat ≤ 5026338869833
  ·
   rw [if_pos c3] at H
   have c3b0 := eq_true c3
   have c3b1 : decide (((l0.length : Int) : Int).toNat ≤ 5026338869833) = true := decide_eq_true c3
   clear c3
   obtain ⟨y101, hy101⟩ : ∃ y_ : List (S73), y_ = (List.replicate ((l0.length : Int) : Int).toNat z73) := ⟨_, rfl⟩
   replace H : (laws_toDOpS.l0 k l0 y101 0) = some r := by first | (rw [hy101]; with_reducible exact H) | (have H2_ := (Option.bind_some _ _).symm.trans H; rw [hy101]; with_reducible exact H2_) | (have H2_ := (Option.bind_some _ _).symm.trans H; with_reducible exact H2_) | with_reducible exact H | (rw [hy101]; exact H) | exact H
   have Ny101 := am hy101
   clear hy101
   have H' := am H
   clear H
   go_enter Try.func48, Try.ntmps48
   go_wp2_with (first | ((with_reducible refine qal (N := 7) rfl ?_); refine Kd.R_make k73 _ 73 rfl (N := 7) rfl 29 _ _ rfl (l0.length : Int) rfl rfl Try.underlying29 (.agg #[(.int .i64 0), (.string ⟨#[]⟩), (.string ⟨#[]⟩), (.string ⟨#[]⟩)]) 56 qex rfl (by decide) (by omega) z73 (ok := fun _ => True) (okp := fun _ => True) (qct _ _ _ z73 ) (fun _ hk => hk) trivial (of_decide_eq_true au9) (Nat.le_trans (Nat.mul_le_mul_right _ (of_decide_eq_true au9 : (l0.length : Int).toNat ≤ 5026338869833)) (by omega)) (Below.refl _ _) (Nat.le_refl _) ?_; intro v102 w4 ho5 hb hg_ hnew_; clear hg_ hnew_; (first | rw [← Ny101.out] at ho5 | (simp only [Int.reduceToNat] at ho5; rw [← Ny101.out] at ho5)); have HO103 := am (Kd.R_lower ho5 (qaf (au3 HB.out))); replace HB := am (qad (au3 HB.out) hb); clear hb ho5))
   go_loopg [4] k (fun kq v4 w' => ∃ (x3_1 : List (S73)) (x4_1 : Int), v4 = .int .i64 x4_1 ∧ Aside0 (laws_toDOpS.l0 kq l0 x3_1 x4_1 = some r) ∧ Aside0 (kq ≤ k) ∧ Aside0 (Kd.R k73 73 w' w.heap.size (fun _ => True) v102 x3_1) ∧ Aside0 (Below w.heap.size w w'))
   case atStart => exact ⟨(y101), (0), au10, H', ⟨Nat.le_refl _⟩, ⟨au0 HO103.out⟩, ⟨(au3 HB.out)⟩⟩
   case round =>
    clear H'
    obtain ⟨x3_1, x4_1, rfl, HA, HK1, HO_3, HB⟩ := hrel
    cases gk with
    | zero => exact absurd HA.out (by simp [laws_toDOpS.l0])
    | succ k1 =>
     have H := HA.out
     clear HA
     simp only [laws_toDOpS.l0] at H
     by_cases c6 : x4_1 < (l0.length : Int)
     ·
      rw [if_pos c6] at H
      have c6b0 : decide (x4_1 < (l0.length : Int)) = true := decide_eq_true c6
      clear c6
      by_cases c7 : 0 ≤ x4_1
      ·
       rw [if_pos c7] at H
       have c7b0 : decide (0 ≤ x4_1) = true := decide_eq_true c7
       clear c7
       replace H := Option.bind_eq_some_iff.mp H
       obtain ⟨⟨t105, t106, t107, t108⟩, A80, H⟩ := H
       replace H : (if x4_1 < (x3_1.length : Int) then (laws_toDOpS.l0 k1 l0 (x3_1.set (x4_1 : Int).toNat (⟨t105, t106, t107, t108⟩ : S73)) (wrap64 (x4_1 + 1))) else (none)) = some r := H
       have A8 := am A80
       clear A80
       by_cases c9 : x4_1 < (x3_1.length : Int)
       ·
        rw [if_pos c9] at H
        have c9b0 : decide (x4_1 < (x3_1.length : Int)) = true := decide_eq_true c9
        clear c9
        obtain ⟨y109, hy109⟩ : ∃ y_ : List (S73), y_ = (x3_1.set (x4_1 : Int).toNat (⟨t105, t106, t107, t108⟩ : S73)) := ⟨_, rfl⟩
        replace H : (laws_toDOpS.l0 k1 l0 y109 (wrap64 (x4_1 + 1))) = some r := by first | (rw [hy109]; with_reducible exact H) | (have H2_ := (Option.bind_some _ _).symm.trans H; rw [hy109]; with_reducible exact H2_) | (have H2_ := (Option.bind_some _ _).symm.trans H; with_reducible exact H2_) | with_reducible exact H | (rw [hy109]; exact H) | exact H
        have Ny109 := am hy109
        clear hy109
        have H' := am H
        clear H
        have p104 : 0 ≤ (x4_1 : Int) := of_decide_eq_true au9
        have q104 : x4_1 < (l0.length : Int) := of_decide_eq_true au9
        obtain ⟨ad104, e104, hx104_0, hx104_1, hx104_2, hx104_3⟩ := at_T108 HR0.out x4_1 p104 q104
        cases e104
        replace hx104_0 := qac HB.out hx104_0
        replace hx104_1 := qac HB.out hx104_1
        replace hx104_2 := qac HB.out hx104_2
        replace hx104_3 := qac HB.out hx104_3
        replace p104 := eq_true p104
        replace q104 := eq_true q104
        go_wp2_with (first | ((with_reducible refine qaj (f := 88) rfl ?_); refine qap (some 20) rfl rfl Try.func88 (by kernel_rfl) rfl #[.agg #[.int .i64 ((qbc l0 x4_1).f0), .string ((qbc l0 x4_1).f1), .string ((qbc l0 x4_1).f2), .string ((qbc l0 x4_1).f3)]] rfl au6 ?_; (with_reducible refine (laws_toDOp.calls ((qbc l0 x4_1).f0) ((qbc l0 x4_1).f1) ((qbc l0 x4_1).f2) ((qbc l0 x4_1).f3) t105 t106 t107 t108 _ A8.out).mono ?_); rintro e w11 ⟨rfl, hb⟩; refine ⟨_, rfl, ?_⟩; replace HO_3 := am (Kd.R_below (au0 HO_3.out) hb); replace HB := am (qad (au3 HB.out) hb); (try clear hb); (try clear hb2); (try clear hk); (try clear hi); have p10 : 0 ≤ (x4_1 : Int) := of_decide_eq_true au9; have q10 : (x4_1 : Int) < ((x3_1.length : Int) : Int) := of_decide_eq_true au9; obtain ⟨go10, co10, eo10, gb10, gl10, cl10, HG10⟩ := Kd.R_form HO_3.out (by omega); (first | cases eo10 | (injection eo10 with ea_ en_ ec_; (first | subst ea_ | (injection ea_ with ea_; subst ea_)); subst ec_; clear en_)); have GB10 := am gb10; have GG10 := am HG10; clear gb10 gl10 HG10; obtain ⟨ce10, hcl10, hM10, hcc10, hfr10⟩ := Kd.R_elem HO_3.out z73 (x4_1 : Int) p10 q10; obtain rfl := qbs hM10; have hx10_0 : w11.cell? ⟨go10, (x4_1 : Int).toNat * 4, none⟩ = some (.int .i64 ((qae x3_1 x4_1).f0)) := hcc10 0 _ rfl; have hx10_1 : w11.cell? ⟨go10, (x4_1 : Int).toNat * 4 + 1, none⟩ = some (.string ((qae x3_1 x4_1).f1)) := hcc10 1 _ rfl; have hx10_2 : w11.cell? ⟨go10, (x4_1 : Int).toNat * 4 + 2, none⟩ = some (.string ((qae x3_1 x4_1).f2)) := hcc10 2 _ rfl; have hx10_3 : w11.cell? ⟨go10, (x4_1 : Int).toNat * 4 + 3, none⟩ = some (.string ((qae x3_1 x4_1).f3)) := hcc10 3 _ rfl; have hf10_0 : w11.frozen? ⟨go10, (x4_1 : Int).toNat * 4, none⟩ = false := hfr10 0; have hf10_1 : w11.frozen? ⟨go10, (x4_1 : Int).toNat * 4 + 1, none⟩ = false := hfr10 1; have hf10_2 : w11.frozen? ⟨go10, (x4_1 : Int).toNat * 4 + 2, none⟩ = false := hfr10 2; have hf10_3 : w11.frozen? ⟨go10, (x4_1 : Int).toNat * 4 + 3, none⟩ = false := hfr10 3; clear hcl10 hcc10 hfr10 hM10; replace p10 := eq_true p10; replace q10 := eq_true q10; have HX12 := am (show Kd.R k73 73 w11 w.heap.size (fun _ => True) (.slice (some ⟨go10, 0, none⟩) x3_1.length co10) x3_1 from (au0 HO_3.out)); obtain ⟨ce12, hcl12, hM12, hcc12, hfr12⟩ := Kd.R_elem HX12.out z73 (x4_1 : Int) (of_decide_eq_true au9) (by have h_ : (x4_1 : Int) < ((x3_1.length : Int) : Int) := of_decide_eq_true au9; first | exact h_ | (have e_ := (Kd.R_reads' HO_3.out).1; omega) | simpa using h_); obtain rfl := qbs hM12; have HP12 := Kd.R_seg HX12.out (x4_1 : Int) (of_decide_eq_true au9) (by have h_ : (x4_1 : Int) < ((x3_1.length : Int) : Int) := of_decide_eq_true au9; first | exact h_ | (have e_ := (Kd.R_reads' HO_3.out).1; omega) | simpa using h_) (seg := [.int .i64 t105, .string t106, .string t107, .string t108]) (j := 0) hcl12 hcc12 (show 4 ≤ 4 from by decide) (x' := (⟨t105, t106, t107, t108⟩ : S73)) (qct _ _ _ (⟨t105, t106, t107, t108⟩ : S73) ) (fun _ hk => hk); have hx12_0 := hcc12 0 _ rfl; (try simp only [show (k73).sz = 4 from rfl, Nat.mul_one, Nat.add_zero] at hx12_0); have hf12_0 := hfr12 0; (try simp only [show (k73).sz = 4 from rfl, Nat.mul_one, Nat.add_zero] at hf12_0); have hx12_1 := hcc12 1 _ rfl; (try simp only [show (k73).sz = 4 from rfl, Nat.mul_one, Nat.add_zero] at hx12_1); have hf12_1 := hfr12 1; (try simp only [show (k73).sz = 4 from rfl, Nat.mul_one, Nat.add_zero] at hf12_1); have hx12_2 := hcc12 2 _ rfl; (try simp only [show (k73).sz = 4 from rfl, Nat.mul_one, Nat.add_zero] at hx12_2); have hf12_2 := hfr12 2; (try simp only [show (k73).sz = 4 from rfl, Nat.mul_one, Nat.add_zero] at hf12_2); have hx12_3 := hcc12 3 _ rfl; (try simp only [show (k73).sz = 4 from rfl, Nat.mul_one, Nat.add_zero] at hx12_3); have hf12_3 := hfr12 3; (try simp only [show (k73).sz = 4 from rfl, Nat.mul_one, Nat.add_zero] at hf12_3); clear hcl12 hcc12 hfr12 hM12) | ((with_reducible refine qby (t := 73) (p := 21) rfl ?_); refine qbq (t := 73) (p := 21) (v := ?vo_w13) (w1 := ((((w11.setCell ⟨go10, (x4_1 : Int).toNat * 4, none⟩ (.int .i64 t105)).setCell ⟨go10, (x4_1 : Int).toNat * 4 + 1, none⟩ (.string t106)).setCell ⟨go10, (x4_1 : Int).toNat * 4 + 2, none⟩ (.string t107)).setCell ⟨go10, (x4_1 : Int).toNat * 4 + 3, none⟩ (.string t108))) ?hg ?ho ?hn ?hr ?_; (case ho => rfl); (case hg => rfl); (case hn => rfl); (case hr => first | (go_simp; done) | (go_simp; rfl)); intro w13 hw; have hg : w11.grownBy w13 (some go10) := (by rw [hw]; exact HP12.2); have hp_ : Kd.R k73 73 w13 w.heap.size (fun _ => True) (.slice (some ⟨go10, 0, none⟩) x3_1.length co10) y109 := (by rw [hw, Ny109.out]; exact HP12.1); clear HP12; replace HO_3 := am (hp_); replace HB := am ((by rw [hw]; exact qar (qar (qar (qar (HB.out) GB10.out) GB10.out) GB10.out) GB10.out : Below w.heap.size w w13)); clear hg hw hp_))
        go_roundg k1
        case measure => have := HK1.out; omega
        case rel => exact ⟨(y109), (wrap64 (x4_1 + 1)), au10, H', ⟨by have := HK1.out; omega⟩, ⟨au0 HO_3.out⟩, ⟨(au3 HB.out)⟩⟩
       ·
        rw [if_neg c9] at H
        exact absurd H (by simp)
      ·
       rw [if_neg c7] at H
       exact absurd H (by simp)
     ·
      rw [if_neg c6] at H
      have c6b0 : decide (x4_1 < (l0.length : Int)) = false := decide_eq_false c6
      clear c6
      obtain rfl := Option.some.inj H
      go_wp2
      go_ret
      exact ⟨_, by first | rfl | (simp [qag, qah] <;> rfl) | (simp [*, qag, qah] <;> rfl), au0 HO_3.out, (au3 HB.out)⟩
  ·
   rw [if_neg c3] at H
   exact absurd H (by simp)
 ·
  rw [if_neg c2] at H
  exact absurd H (by simp)

end

section
def laws_toFile.f (a0_0 : ByteArray) (a0_1 : ByteArray) : Option (ByteArray × ByteArray) := some (a0_0, a0_1)
set_option maxHeartbeats 8000000 in
set_option maxRecDepth 100000 in
theorem laws_toFile.calls (a0_0 : ByteArray) (a0_1 : ByteArray) (r1 : ByteArray) (r2 : ByteArray) (w : World) (h : laws_toFile.f a0_0 a0_1 = some (r1, r2)) :
 Calls Try.prog 87 #[.agg #[.string a0_0, .string a0_1]] w fun e w' => e = .returned (.agg #[.string r1, .string r2]) ∧ Below w.heap.size w w' := by
 have hu106 := Try.underlying106
 have hu80 := Try.underlying80
 have HB := am (Below.refl w.heap.size w)
 have H : (some (a0_0, a0_1)) = some (r1, r2) := h
 clear h
 simp only [Option.some.injEq, Prod.mk.injEq] at H
 obtain ⟨rfl, rfl⟩ := H
 go_enter Try.func87, Try.ntmps87
 go_wp2_with (first | ((with_reducible refine qal (N := 1) rfl ?_); refine bxE (N := 1) (cs := #[.string a0_0, .string a0_1]) (t := 106) ?_; intro gb101 hg w2 hbox hb; have BK101 := am (hbox); have GW101 := am (sgE hg (au3 HB.out) : w.heap.size ≤ gb101); have GE101 := GW101; replace HB := am (qad (au3 HB.out) hb); clear hb hbox hg) | ((with_reducible refine qal (N := 2) rfl ?_); refine bxE (N := 2) (cs := #[.string (⟨#[]⟩ : ByteArray), .string (⟨#[]⟩ : ByteArray)]) (t := 80) ?_; intro gb102 hg w3 hbox hb; have BK102 := am (hbox); have GW102 := am (sgE hg (au7 HB.out GE101.out) : w.heap.size ≤ gb102); have GE102 := GW102; replace HB := am (qad (au7 HB.out GE101.out) hb); have NB101_102 := am ((sltE hg (qan (au1 BK101.out)))); have NB102_101 := am ((sgtE hg (qan (au1 BK101.out)))); replace BK101 := am (qab (au1 BK101.out) hb); clear hb hbox hg) | ((with_reducible refine qal (N := 3) rfl ?_); refine bxE (N := 3) (cs := #[.string (⟨#[]⟩ : ByteArray), .string (⟨#[]⟩ : ByteArray)]) (t := 80) ?_; intro gb103 hg w4 hbox hb; have BK103 := am (hbox); have GW103 := am (sgE hg (au4 HB.out GE101.out GE102.out) : w.heap.size ≤ gb103); have GE103 := GW103; replace HB := am (qad (au4 HB.out GE101.out GE102.out) hb); have NB101_103 := am ((sltE hg (qan (au1 BK101.out)))); have NB103_101 := am ((sgtE hg (qan (au1 BK101.out)))); replace BK101 := am (qab (au1 BK101.out) hb); have NB102_103 := am ((sltE hg (qan (au1 BK102.out)))); have NB103_102 := am ((sgtE hg (qan (au1 BK102.out)))); replace BK102 := am (qab (au1 BK102.out) hb); clear hb hbox hg; have hnb5 := NB101_102.out; have hnc5 := NB102_101.out; have hnb6 := NB101_103.out; have hnc6 := NB103_101.out; have hcz7_0 : _ = some (Value.string a0_0) := bcE BK101.out 0; have hcz7_1 : _ = some (Value.string a0_1) := bcE BK101.out 1; have hfz7_0 := qaa BK101.out 0; have hfz7_1 := qaa BK101.out 1; have hnb8 := NB103_102.out; have hnc8 := NB102_103.out; have hcz9_0 : _ = some (Value.string (⟨#[]⟩ : ByteArray)) := bcE BK103.out 0; have hcz9_1 : _ = some (Value.string (⟨#[]⟩ : ByteArray)) := bcE BK103.out 1; have hfz9_0 := qaa BK103.out 0; have hfz9_1 := qaa BK103.out 1; have hcz10_0 : _ = some (Value.string (⟨#[]⟩ : ByteArray)) := bcE BK102.out 0; have hcz10_1 : _ = some (Value.string (⟨#[]⟩ : ByteArray)) := bcE BK102.out 1; have hfz10_0 := qaa BK102.out 0; have hfz10_1 := qaa BK102.out 1))
 refine bodyPost_ret (results_cell_row rfl _ _ gb102 80 #[.string a0_0, .string a0_1] (0, 0) _ rfl (by refine au1 ?_; refine qam (cs := #[.string a0_0, .string (⟨#[]⟩ : ByteArray)]) ?_ 1 _ rfl; refine au1 ?_; refine qam (cs := #[.string (⟨#[]⟩ : ByteArray), .string (⟨#[]⟩ : ByteArray)]) ?_ 0 _ rfl; refine au1 ?_; refine qas ?_ NB102_103.out _; refine au1 ?_; refine qas ?_ NB102_103.out _; refine au1 ?_; exact BK102.out) Try.underlying80 rfl (by kernel_rfl)) rfl ?_
 exact ⟨by first | rfl | (simp [qag, qah] <;> rfl) | (simp [*, qag, qah] <;> rfl), (au11 HB.out GE101.out GE102.out GE103.out)⟩

end

section
def laws_toFileS.l0 : Nat → List (S106) → List (S80) → Int → Option ((List (S80)))
 | 0, _, _, _ => none
 | k + 1, x0, x3, x4 => if x4 < (x0.length : Int) then (if 0 ≤ x4 then ((laws_toFile.f ((qbm x0 x4).f0) ((qbm x0 x4).f1)).bind fun bt105 => (if x4 < (x3.length : Int) then (laws_toFileS.l0 k x0 (x3.set (x4 : Int).toNat (⟨bt105.1, bt105.2⟩ : S80)) (wrap64 (x4 + 1))) else (none))) else (none)) else (some x3)
def laws_toFileS.f (k : Nat) (l0 : List (S106)) : Option ((List (S80))) := if 0 ≤ (l0.length : Int) then (if ((l0.length : Int) : Int).toNat ≤ 8796093022208 then (laws_toFileS.l0 k l0 (List.replicate ((l0.length : Int) : Int).toNat z80) 0) else (none)) else (none)
theorem laws_toFileS.mono_l : ∀ k, (∀ y0 y1 y2, LeO (laws_toFileS.l0 k y0 y1 y2) (laws_toFileS.l0 (k + 1) y0 y1 y2))
 | 0 => fun _ _ _ r h => by simp [laws_toFileS.l0] at h
 | k + 1 => by
  have ih0 := laws_toFileS.mono_l k
  ·
   intro y0 y1 y2
   unfold laws_toFileS.l0
   repeat' first
   | (with_reducible exact ih0 _ _ _)
   | (with_reducible exact LeO.refl _)
   | (with_reducible exact LeO.none _)
   | (with_reducible refine LeO.ite ?_ ?_)
   | (with_reducible refine LeO.bind ?_ (fun _ => ?_))
   | exact ih0 _ _ _
   | exact LeO.none _
   | refine LeO.ite ?_ ?_
   | refine LeO.bind ?_ (fun _ => ?_)
theorem laws_toFileS.mono : ∀ a0 k, LeO (laws_toFileS.f k a0) (laws_toFileS.f (k + 1) a0) := by
 intro a0 k
 have ih0 := laws_toFileS.mono_l k
 unfold laws_toFileS.f
 repeat' first
  | (with_reducible exact ih0 _ _ _)
  | (with_reducible exact LeO.refl _)
  | (with_reducible exact LeO.none _)
  | (with_reducible refine LeO.ite ?_ ?_)
  | (with_reducible refine LeO.bind ?_ (fun _ => ?_))
  | exact ih0 _ _ _
  | exact LeO.none _
  | refine LeO.ite ?_ ?_
  | refine LeO.bind ?_ (fun _ => ?_)
set_option maxHeartbeats 8000000 in
set_option maxRecDepth 100000 in
theorem laws_toFileS.calls (k : Nat) (A0 : Option Addr) (c0 : Nat) (l0 : List (S106)) (r : List (S80)) (w : World) (hr0 : Kd.C k106 w A0 l0.length l0) (hc0 : l0.length ≤ c0) (h : laws_toFileS.f k l0 = some r) :
 Calls Try.prog 47 #[.slice A0 l0.length c0] w fun e w' => ∃ v0_ : Value, e = .returned (v0_) ∧ Kd.R k80 80 w' w.heap.size (fun _ => True) v0_ r ∧ Below w.heap.size w w' := by
 have hu106 := Try.underlying106
 have hu80 := Try.underlying80
 have HR0 := am hr0
 have HC0 := am hc0
 clear hr0 hc0
 have HB := am (Below.refl w.heap.size w)
 have H : (if 0 ≤ (l0.length : Int) then (if ((l0.length : Int) : Int).toNat ≤ 8796093022208 then (laws_toFileS.l0 k l0 (List.replicate ((l0.length : Int) : Int).toNat z80) 0) else (none)) else (none)) = some r := h
 clear h
 by_cases c2 : 0 ≤ (l0.length : Int)
 ·
  rw [if_pos c2] at H
  have c2b0 := eq_true c2
  have c2b1 : decide (0 ≤ (l0.length : Int)) = true := decide_eq_true c2
  clear c2
  by_cases c3 : ((l0.length : Int) : Int).toNat ≤ 8796093022208
  ·
   rw [if_pos c3] at H
   have c3b0 := eq_true c3
   have c3b1 : decide (((l0.length : Int) : Int).toNat ≤ 8796093022208) = true := decide_eq_true c3
   clear c3
   obtain ⟨y101, hy101⟩ : ∃ y_ : List (S80), y_ = (List.replicate ((l0.length : Int) : Int).toNat z80) := ⟨_, rfl⟩
   replace H : (laws_toFileS.l0 k l0 y101 0) = some r := by first | (rw [hy101]; with_reducible exact H) | (have H2_ := (Option.bind_some _ _).symm.trans H; rw [hy101]; with_reducible exact H2_) | (have H2_ := (Option.bind_some _ _).symm.trans H; with_reducible exact H2_) | with_reducible exact H | (rw [hy101]; exact H) | exact H
   have Ny101 := am hy101
   clear hy101
   have H' := am H
   clear H
   go_enter Try.func47, Try.ntmps47
   go_wp2_with (first | ((with_reducible refine qal (N := 7) rfl ?_); refine Kd.R_make k80 _ 80 rfl (N := 7) rfl 28 _ _ rfl (l0.length : Int) rfl rfl Try.underlying28 (.agg #[(.string ⟨#[]⟩), (.string ⟨#[]⟩)]) 32 qch rfl (by decide) (by omega) z80 (ok := fun _ => True) (okp := fun _ => True) (qcs _ _ _ z80 ) (fun _ hk => hk) trivial (of_decide_eq_true au9) (Nat.le_trans (Nat.mul_le_mul_right _ (of_decide_eq_true au9 : (l0.length : Int).toNat ≤ 8796093022208)) (by omega)) (Below.refl _ _) (Nat.le_refl _) ?_; intro v102 w4 ho5 hb hg_ hnew_; clear hg_ hnew_; (first | rw [← Ny101.out] at ho5 | (simp only [Int.reduceToNat] at ho5; rw [← Ny101.out] at ho5)); have HO103 := am (Kd.R_lower ho5 (qaf (au3 HB.out))); replace HB := am (qad (au3 HB.out) hb); clear hb ho5))
   go_loopg [4] k (fun kq v4 w' => ∃ (x3_1 : List (S80)) (x4_1 : Int), v4 = .int .i64 x4_1 ∧ Aside0 (laws_toFileS.l0 kq l0 x3_1 x4_1 = some r) ∧ Aside0 (kq ≤ k) ∧ Aside0 (Kd.R k80 80 w' w.heap.size (fun _ => True) v102 x3_1) ∧ Aside0 (Below w.heap.size w w'))
   case atStart => exact ⟨(y101), (0), au10, H', ⟨Nat.le_refl _⟩, ⟨au0 HO103.out⟩, ⟨(au3 HB.out)⟩⟩
   case round =>
    clear H'
    obtain ⟨x3_1, x4_1, rfl, HA, HK1, HO_3, HB⟩ := hrel
    cases gk with
    | zero => exact absurd HA.out (by simp [laws_toFileS.l0])
    | succ k1 =>
     have H := HA.out
     clear HA
     simp only [laws_toFileS.l0] at H
     by_cases c6 : x4_1 < (l0.length : Int)
     ·
      rw [if_pos c6] at H
      have c6b0 : decide (x4_1 < (l0.length : Int)) = true := decide_eq_true c6
      clear c6
      by_cases c7 : 0 ≤ x4_1
      ·
       rw [if_pos c7] at H
       have c7b0 : decide (0 ≤ x4_1) = true := decide_eq_true c7
       clear c7
       replace H := Option.bind_eq_some_iff.mp H
       obtain ⟨⟨t105, t106⟩, A80, H⟩ := H
       replace H : (if x4_1 < (x3_1.length : Int) then (laws_toFileS.l0 k1 l0 (x3_1.set (x4_1 : Int).toNat (⟨t105, t106⟩ : S80)) (wrap64 (x4_1 + 1))) else (none)) = some r := H
       have A8 := am A80
       clear A80
       by_cases c9 : x4_1 < (x3_1.length : Int)
       ·
        rw [if_pos c9] at H
        have c9b0 : decide (x4_1 < (x3_1.length : Int)) = true := decide_eq_true c9
        clear c9
        obtain ⟨y107, hy107⟩ : ∃ y_ : List (S80), y_ = (x3_1.set (x4_1 : Int).toNat (⟨t105, t106⟩ : S80)) := ⟨_, rfl⟩
        replace H : (laws_toFileS.l0 k1 l0 y107 (wrap64 (x4_1 + 1))) = some r := by first | (rw [hy107]; with_reducible exact H) | (have H2_ := (Option.bind_some _ _).symm.trans H; rw [hy107]; with_reducible exact H2_) | (have H2_ := (Option.bind_some _ _).symm.trans H; with_reducible exact H2_) | with_reducible exact H | (rw [hy107]; exact H) | exact H
        have Ny107 := am hy107
        clear hy107
        have H' := am H
        clear H
        have p104 : 0 ≤ (x4_1 : Int) := of_decide_eq_true au9
        have q104 : x4_1 < (l0.length : Int) := of_decide_eq_true au9
        obtain ⟨ad104, e104, hx104_0, hx104_1⟩ := at_T106 HR0.out x4_1 p104 q104
        cases e104
        replace hx104_0 := qac HB.out hx104_0
        replace hx104_1 := qac HB.out hx104_1
        replace p104 := eq_true p104
        replace q104 := eq_true q104
        go_wp2_with (first | ((with_reducible refine qaj (f := 87) rfl ?_); refine qap (some 20) rfl rfl Try.func87 (by kernel_rfl) rfl #[.agg #[.string ((qbm l0 x4_1).f0), .string ((qbm l0 x4_1).f1)]] rfl au6 ?_; (with_reducible refine (laws_toFile.calls ((qbm l0 x4_1).f0) ((qbm l0 x4_1).f1) t105 t106 _ A8.out).mono ?_); rintro e w11 ⟨rfl, hb⟩; refine ⟨_, rfl, ?_⟩; replace HO_3 := am (Kd.R_below (au0 HO_3.out) hb); replace HB := am (qad (au3 HB.out) hb); (try clear hb); (try clear hb2); (try clear hk); (try clear hi); have p10 : 0 ≤ (x4_1 : Int) := of_decide_eq_true au9; have q10 : (x4_1 : Int) < ((x3_1.length : Int) : Int) := of_decide_eq_true au9; obtain ⟨go10, co10, eo10, gb10, gl10, cl10, HG10⟩ := Kd.R_form HO_3.out (by omega); (first | cases eo10 | (injection eo10 with ea_ en_ ec_; (first | subst ea_ | (injection ea_ with ea_; subst ea_)); subst ec_; clear en_)); have GB10 := am gb10; have GG10 := am HG10; clear gb10 gl10 HG10; obtain ⟨ce10, hcl10, hM10, hcc10, hfr10⟩ := Kd.R_elem HO_3.out z80 (x4_1 : Int) p10 q10; obtain rfl := qcp hM10; have hx10_0 : w11.cell? ⟨go10, (x4_1 : Int).toNat * 2, none⟩ = some (.string ((qai x3_1 x4_1).f0)) := hcc10 0 _ rfl; have hx10_1 : w11.cell? ⟨go10, (x4_1 : Int).toNat * 2 + 1, none⟩ = some (.string ((qai x3_1 x4_1).f1)) := hcc10 1 _ rfl; have hf10_0 : w11.frozen? ⟨go10, (x4_1 : Int).toNat * 2, none⟩ = false := hfr10 0; have hf10_1 : w11.frozen? ⟨go10, (x4_1 : Int).toNat * 2 + 1, none⟩ = false := hfr10 1; clear hcl10 hcc10 hfr10 hM10; replace p10 := eq_true p10; replace q10 := eq_true q10; have HX12 := am (show Kd.R k80 80 w11 w.heap.size (fun _ => True) (.slice (some ⟨go10, 0, none⟩) x3_1.length co10) x3_1 from (au0 HO_3.out)); obtain ⟨ce12, hcl12, hM12, hcc12, hfr12⟩ := Kd.R_elem HX12.out z80 (x4_1 : Int) (of_decide_eq_true au9) (by have h_ : (x4_1 : Int) < ((x3_1.length : Int) : Int) := of_decide_eq_true au9; first | exact h_ | (have e_ := (Kd.R_reads' HO_3.out).1; omega) | simpa using h_); obtain rfl := qcp hM12; have HP12 := Kd.R_seg HX12.out (x4_1 : Int) (of_decide_eq_true au9) (by have h_ : (x4_1 : Int) < ((x3_1.length : Int) : Int) := of_decide_eq_true au9; first | exact h_ | (have e_ := (Kd.R_reads' HO_3.out).1; omega) | simpa using h_) (seg := [.string t105, .string t106]) (j := 0) hcl12 hcc12 (show 2 ≤ 2 from by decide) (x' := (⟨t105, t106⟩ : S80)) (qcs _ _ _ (⟨t105, t106⟩ : S80) ) (fun _ hk => hk); have hx12_0 := hcc12 0 _ rfl; (try simp only [show (k80).sz = 2 from rfl, Nat.mul_one, Nat.add_zero] at hx12_0); have hf12_0 := hfr12 0; (try simp only [show (k80).sz = 2 from rfl, Nat.mul_one, Nat.add_zero] at hf12_0); have hx12_1 := hcc12 1 _ rfl; (try simp only [show (k80).sz = 2 from rfl, Nat.mul_one, Nat.add_zero] at hx12_1); have hf12_1 := hfr12 1; (try simp only [show (k80).sz = 2 from rfl, Nat.mul_one, Nat.add_zero] at hf12_1); clear hcl12 hcc12 hfr12 hM12) | ((with_reducible refine qby (t := 80) (p := 21) rfl ?_); refine qbq (t := 80) (p := 21) (v := ?vo_w13) (w1 := ((w11.setCell ⟨go10, (x4_1 : Int).toNat * 2, none⟩ (.string t105)).setCell ⟨go10, (x4_1 : Int).toNat * 2 + 1, none⟩ (.string t106))) ?hg ?ho ?hn ?hr ?_; (case ho => rfl); (case hg => rfl); (case hn => rfl); (case hr => first | (go_simp; done) | (go_simp; rfl)); intro w13 hw; have hg : w11.grownBy w13 (some go10) := (by rw [hw]; exact HP12.2); have hp_ : Kd.R k80 80 w13 w.heap.size (fun _ => True) (.slice (some ⟨go10, 0, none⟩) x3_1.length co10) y107 := (by rw [hw, Ny107.out]; exact HP12.1); clear HP12; replace HO_3 := am (hp_); replace HB := am ((by rw [hw]; exact qar (qar (HB.out) GB10.out) GB10.out : Below w.heap.size w w13)); clear hg hw hp_))
        go_roundg k1
        case measure => have := HK1.out; omega
        case rel => exact ⟨(y107), (wrap64 (x4_1 + 1)), au10, H', ⟨by have := HK1.out; omega⟩, ⟨au0 HO_3.out⟩, ⟨(au3 HB.out)⟩⟩
       ·
        rw [if_neg c9] at H
        exact absurd H (by simp)
      ·
       rw [if_neg c7] at H
       exact absurd H (by simp)
     ·
      rw [if_neg c6] at H
      have c6b0 : decide (x4_1 < (l0.length : Int)) = false := decide_eq_false c6
      clear c6
      obtain rfl := Option.some.inj H
      go_wp2
      go_ret
      exact ⟨_, by first | rfl | (simp [qag, qah] <;> rfl) | (simp [*, qag, qah] <;> rfl), au0 HO_3.out, (au3 HB.out)⟩
  ·
   rw [if_neg c3] at H
   exact absurd H (by simp)
 ·
  rw [if_neg c2] at H
  exact absurd H (by simp)

end

section
def laws_toDisk.f (k : Nat) (l0_0 : List (S106)) (l0_1 : List (S106)) (l0_2 : List (S108)) : Option ((List (S80)) × (List (S80)) × (List (S73))) := (laws_toFileS.f k l0_0).bind fun t104 => ((laws_toFileS.f k l0_1).bind fun t107 => ((laws_toDOpS.f k l0_2).bind fun t110 => (some (t104, t107, t110))))
theorem laws_toDisk.mono : ∀ a0 a1 a2 k, LeO (laws_toDisk.f k a0 a1 a2) (laws_toDisk.f (k + 1) a0 a1 a2) := by
 intro a0 a1 a2 k
 unfold laws_toDisk.f
 repeat' first
  | (with_reducible exact laws_toDOpS.mono _ _)
  | (with_reducible exact laws_toFileS.mono _ _)
  | (with_reducible exact LeO.refl _)
  | (with_reducible exact LeO.none _)
  | (with_reducible refine LeO.ite ?_ ?_)
  | (with_reducible refine LeO.bind ?_ (fun _ => ?_))
  | exact laws_toDOpS.mono _ _
  | exact laws_toFileS.mono _ _
  | exact LeO.none _
  | refine LeO.ite ?_ ?_
  | refine LeO.bind ?_ (fun _ => ?_)
set_option maxHeartbeats 8000000 in
set_option maxRecDepth 100000 in
theorem laws_toDisk.calls (k : Nat) (A0_0 : Option Addr) (c0_0 : Nat) (l0_0 : List (S106)) (A0_1 : Option Addr) (c0_1 : Nat) (l0_1 : List (S106)) (A0_2 : Option Addr) (c0_2 : Nat) (l0_2 : List (S108)) (r1 : List (S80)) (r2 : List (S80)) (r3 : List (S73)) (w : World) (hr0_0 : Kd.C k106 w A0_0 l0_0.length l0_0) (hc0_0 : l0_0.length ≤ c0_0) (hr0_1 : Kd.C k106 w A0_1 l0_1.length l0_1) (hc0_1 : l0_1.length ≤ c0_1) (hr0_2 : Kd.C k108 w A0_2 l0_2.length l0_2) (hc0_2 : l0_2.length ≤ c0_2) (h : laws_toDisk.f k l0_0 l0_1 l0_2 = some (r1, r2, r3)) :
 Calls Try.prog 14 #[.agg #[.slice A0_0 l0_0.length c0_0, .slice A0_1 l0_1.length c0_1, .slice A0_2 l0_2.length c0_2]] w fun e w' => ∃ v0_ v1_ v2_ : Value, e = .returned (.agg #[v0_, v1_, v2_]) ∧ Kd.R k80 80 w' w.heap.size (fun k_ => some k_ ≠ (v1_ : Value).ownBlock) v0_ r1 ∧ Kd.R k80 80 w' w.heap.size (fun k_ => some k_ ≠ (v0_ : Value).ownBlock) v1_ r2 ∧ Kd.R k73 73 w' w.heap.size (fun _ => True) v2_ r3 ∧ Below w.heap.size w w' := by
 have hu25 := Try.underlying25
 have hu31 := Try.underlying31
 have HR0_0 := am hr0_0
 have HC0_0 := am hc0_0
 clear hr0_0 hc0_0
 have HR0_1 := am hr0_1
 have HC0_1 := am hc0_1
 clear hr0_1 hc0_1
 have HR0_2 := am hr0_2
 have HC0_2 := am hc0_2
 clear hr0_2 hc0_2
 have HB := am (Below.refl w.heap.size w)
 have H : ((laws_toFileS.f k l0_0).bind fun t104 => ((laws_toFileS.f k l0_1).bind fun t107 => ((laws_toDOpS.f k l0_2).bind fun t110 => (some (t104, t107, t110))))) = some (r1, r2, r3) := h
 clear h
 replace H := Option.bind_eq_some_iff.mp H
 obtain ⟨t104, A20, H⟩ := H
 replace H : ((laws_toFileS.f k l0_1).bind fun t107 => ((laws_toDOpS.f k l0_2).bind fun t110 => (some (t104, t107, t110)))) = some (r1, r2, r3) := H
 have A2 := am A20
 clear A20
 replace H := Option.bind_eq_some_iff.mp H
 obtain ⟨t107, A30, H⟩ := H
 replace H : ((laws_toDOpS.f k l0_2).bind fun t110 => (some (t104, t107, t110))) = some (r1, r2, r3) := H
 have A3 := am A30
 clear A30
 replace H := Option.bind_eq_some_iff.mp H
 obtain ⟨t110, A40, H⟩ := H
 replace H : (some (t104, t107, t110)) = some (r1, r2, r3) := H
 have A4 := am A40
 clear A40
 simp only [Option.some.injEq, Prod.mk.injEq] at H
 obtain ⟨rfl, rfl, rfl⟩ := H
 go_enter Try.func14, Try.ntmps14
 go_wp2_with (first | ((with_reducible refine qal (N := 1) rfl ?_); refine bxE (N := 1) (cs := #[.slice A0_0 l0_0.length c0_0, .slice A0_1 l0_1.length c0_1, .slice A0_2 l0_2.length c0_2]) (t := 25) ?_; intro gb101 hg w5 hbox hb; have BK101 := am (hbox); have GW101 := am (sgE hg (au3 HB.out) : w.heap.size ≤ gb101); have GE101 := GW101; replace HB := am (qad (au3 HB.out) hb); clear hb hbox hg) | ((with_reducible refine qal (N := 2) rfl ?_); refine bxE (N := 2) (cs := #[.slice none 0 0, .slice none 0 0, .slice none 0 0]) (t := 31) ?_; intro gb102 hg w6 hbox hb; have BK102 := am (hbox); have GW102 := am (sgE hg (au7 HB.out GE101.out) : w.heap.size ≤ gb102); have GE102 := GW102; replace HB := am (qad (au7 HB.out GE101.out) hb); have NB101_102 := am ((sltE hg (qan (au1 BK101.out)))); have NB102_101 := am ((sgtE hg (qan (au1 BK101.out)))); replace BK101 := am (qab (au1 BK101.out) hb); clear hb hbox hg) | ((with_reducible refine qal (N := 3) rfl ?_); refine bxE (N := 3) (cs := #[.slice none 0 0, .slice none 0 0, .slice none 0 0]) (t := 31) ?_; intro gb103 hg w7 hbox hb; have BK103 := am (hbox); have GW103 := am (sgE hg (au4 HB.out GE101.out GE102.out) : w.heap.size ≤ gb103); have GE103 := GW103; replace HB := am (qad (au4 HB.out GE101.out GE102.out) hb); have NB101_103 := am ((sltE hg (qan (au1 BK101.out)))); have NB103_101 := am ((sgtE hg (qan (au1 BK101.out)))); replace BK101 := am (qab (au1 BK101.out) hb); have NB102_103 := am ((sltE hg (qan (au1 BK102.out)))); have NB103_102 := am ((sgtE hg (qan (au1 BK102.out)))); replace BK102 := am (qab (au1 BK102.out) hb); clear hb hbox hg; have hnb8 := NB101_102.out; have hnc8 := NB102_101.out; have hnb9 := NB101_103.out; have hnc9 := NB103_101.out; have hcz10_0 : _ = some (Value.slice A0_0 l0_0.length c0_0) := bcE BK101.out 0; have hcz10_1 : _ = some (Value.slice A0_1 l0_1.length c0_1) := bcE BK101.out 1; have hcz10_2 : _ = some (Value.slice A0_2 l0_2.length c0_2) := bcE BK101.out 2; have hfz10_0 := qaa BK101.out 0; have hfz10_1 := qaa BK101.out 1; have hfz10_2 := qaa BK101.out 2) | ((with_reducible refine qaj (f := 47) rfl ?_); refine qap (some 6) rfl rfl Try.func47 (by kernel_rfl) rfl #[.slice A0_0 l0_0.length c0_0] rfl au6 ?_; (with_reducible refine (laws_toFileS.calls k _ _ l0_0 t104 _ ?side1 ?side2 A2.out).mono ?_); (case side1 => exact scE (Kd.C_below HR0_0.out HB.out)); (case side2 => exact HC0_0.out); rintro e w11 ⟨v105, rfl, ho0, hb⟩; refine ⟨_, rfl, ?_⟩; have HO106 := am (Kd.R_lower ho0 (qaf (au11 HB.out GE101.out GE102.out GE103.out))); replace BK101 := am (qab (au1 BK101.out) hb); replace BK102 := am (qab (au1 BK102.out) hb); replace BK103 := am (qab (au1 BK103.out) hb); replace HB := am (qad (au11 HB.out GE101.out GE102.out GE103.out) hb); (try clear hb); (try clear hb2); (try clear hk); (try clear hi); (try clear ho0); obtain ⟨Ao12, co12, eo12⟩ := Kd.R_slice HO106.out; subst eo12; have hnb13 := NB103_102.out; have hnc13 := NB102_103.out; have hcz14_0 : _ = some (Value.slice none 0 0) := bcE BK103.out 0; have hcz14_1 : _ = some (Value.slice none 0 0) := bcE BK103.out 1; have hcz14_2 : _ = some (Value.slice none 0 0) := bcE BK103.out 2; have hfz14_0 := qaa BK103.out 0; have hfz14_1 := qaa BK103.out 1; have hfz14_2 := qaa BK103.out 2; have hcz15_0 : _ = some (Value.slice A0_0 l0_0.length c0_0) := bcE BK101.out 0; have hcz15_1 : _ = some (Value.slice A0_1 l0_1.length c0_1) := bcE BK101.out 1; have hcz15_2 : _ = some (Value.slice A0_2 l0_2.length c0_2) := bcE BK101.out 2; have hfz15_0 := qaa BK101.out 0; have hfz15_1 := qaa BK101.out 1; have hfz15_2 := qaa BK101.out 2) | ((with_reducible refine qaj (f := 47) rfl ?_); refine qap (some 10) rfl rfl Try.func47 (by kernel_rfl) rfl #[.slice A0_1 l0_1.length c0_1] rfl au6 ?_; (with_reducible refine (laws_toFileS.calls k _ _ l0_1 t107 _ ?side1 ?side2 A3.out).mono ?_); (case side1 => exact Kd.C_below HR0_1.out (au11 HB.out GE101.out GE102.out GE103.out)); (case side2 => exact HC0_1.out); rintro e w16 ⟨v108, rfl, ho0, hb⟩; refine ⟨_, rfl, ?_⟩; have HO109 := am (Kd.R_lower (Kd.R_new' ho0 (Kd.R_lt (by refine au0 ?_; exact (Kd.R_mono (Kd.R_far (p := ⟨gb103, 0, none⟩) (Kd.R_types HO106.out BK103.out (by decide)) k2E (.slice Ao12 t104.length co12)) k1E)))) (qaf (au11 HB.out GE101.out GE102.out GE103.out))); replace HO106 := am (Kd.R_elder' (by refine au0 ?_; exact (Kd.R_mono (Kd.R_far (p := ⟨gb103, 0, none⟩) (Kd.R_types HO106.out BK103.out (by decide)) k2E (.slice Ao12 t104.length co12)) k1E)) (Kd.R_base ho0) hb); replace BK101 := am (qab (g := gb101) (o := .cells #[.slice A0_0 l0_0.length c0_0, .slice A0_1 l0_1.length c0_1, .slice A0_2 l0_2.length c0_2] 25 (0, 0)) (au13 NB101_103.out BK101.out) hb); replace BK102 := am (qab (g := gb102) (o := .cells #[.slice none 0 0, .slice none 0 0, .slice none 0 0] 31 (0, 0)) (au13 NB102_103.out BK102.out) hb); replace BK103 := am (qab (g := gb103) (o := .cells #[.slice Ao12 t104.length co12, .slice none 0 0, .slice none 0 0] 31 (0, 0)) (by refine au1 ?_; refine qam (cs := #[.slice none 0 0, .slice none 0 0, .slice none 0 0]) ?_ 0 _ rfl; refine au1 ?_; exact BK103.out) hb); replace HB := am (qad (au11 HB.out GE101.out GE102.out GE103.out) hb); (try clear hb); (try clear hb2); (try clear hk); (try clear hi); (try clear ho0); obtain ⟨Ao17, co17, eo17⟩ := Kd.R_slice HO109.out; subst eo17; have hcz18_0 : _ = some (Value.slice Ao12 t104.length co12) := bcE BK103.out 0; have hcz18_1 : _ = some (Value.slice none 0 0) := bcE BK103.out 1; have hcz18_2 : _ = some (Value.slice none 0 0) := bcE BK103.out 2; have hfz18_0 := qaa BK103.out 0; have hfz18_1 := qaa BK103.out 1; have hfz18_2 := qaa BK103.out 2; have hcz19_0 : _ = some (Value.slice A0_0 l0_0.length c0_0) := bcE BK101.out 0; have hcz19_1 : _ = some (Value.slice A0_1 l0_1.length c0_1) := bcE BK101.out 1; have hcz19_2 : _ = some (Value.slice A0_2 l0_2.length c0_2) := bcE BK101.out 2; have hfz19_0 := qaa BK101.out 0; have hfz19_1 := qaa BK101.out 1; have hfz19_2 := qaa BK101.out 2) | ((with_reducible refine qaj (f := 48) rfl ?_); refine qap (some 14) rfl rfl Try.func48 (by kernel_rfl) rfl #[.slice A0_2 l0_2.length c0_2] rfl au6 ?_; (with_reducible refine (laws_toDOpS.calls k _ _ l0_2 t110 _ ?side1 ?side2 A4.out).mono ?_); (case side1 => exact Kd.C_below HR0_2.out (au11 HB.out GE101.out GE102.out GE103.out)); (case side2 => exact HC0_2.out); rintro e w20 ⟨v111, rfl, ho0, hb⟩; refine ⟨_, rfl, ?_⟩; replace HO106 := am (Kd.R_below (by refine au0 ?_; exact (Kd.R_mono (Kd.R_far (p := ⟨gb103, 1, none⟩) (Kd.R_types HO106.out BK103.out (by decide)) k2E (.slice Ao17 t107.length co17)) k1E)) hb); replace HO109 := am (Kd.R_below (by refine au0 ?_; exact (Kd.R_mono (Kd.R_far (p := ⟨gb103, 1, none⟩) (Kd.R_types HO109.out BK103.out (by decide)) k2E (.slice Ao17 t107.length co17)) k1E)) hb); have HO112 := am (Kd.R_lower ho0 (qaf (au11 HB.out GE101.out GE102.out GE103.out))); replace BK101 := am (qab (g := gb101) (o := .cells #[.slice A0_0 l0_0.length c0_0, .slice A0_1 l0_1.length c0_1, .slice A0_2 l0_2.length c0_2] 25 (0, 0)) (au13 NB101_103.out BK101.out) hb); replace BK102 := am (qab (g := gb102) (o := .cells #[.slice none 0 0, .slice none 0 0, .slice none 0 0] 31 (0, 0)) (au13 NB102_103.out BK102.out) hb); replace BK103 := am (qab (g := gb103) (o := .cells #[.slice Ao12 t104.length co12, .slice Ao17 t107.length co17, .slice none 0 0] 31 (0, 0)) (by refine au1 ?_; refine qam (cs := #[.slice Ao12 t104.length co12, .slice none 0 0, .slice none 0 0]) ?_ 1 _ rfl; refine au1 ?_; exact BK103.out) hb); replace HB := am (qad (au11 HB.out GE101.out GE102.out GE103.out) hb); (try clear hb); (try clear hb2); (try clear hk); (try clear hi); (try clear ho0); obtain ⟨Ao21, co21, eo21⟩ := Kd.R_slice HO112.out; subst eo21; have hcz22_0 : _ = some (Value.slice Ao12 t104.length co12) := bcE BK103.out 0; have hcz22_1 : _ = some (Value.slice Ao17 t107.length co17) := bcE BK103.out 1; have hcz22_2 : _ = some (Value.slice none 0 0) := bcE BK103.out 2; have hfz22_0 := qaa BK103.out 0; have hfz22_1 := qaa BK103.out 1; have hfz22_2 := qaa BK103.out 2; have hcz23_0 : _ = some (Value.slice none 0 0) := bcE BK102.out 0; have hcz23_1 : _ = some (Value.slice none 0 0) := bcE BK102.out 1; have hcz23_2 : _ = some (Value.slice none 0 0) := bcE BK102.out 2; have hfz23_0 := qaa BK102.out 0; have hfz23_1 := qaa BK102.out 1; have hfz23_2 := qaa BK102.out 2))
 refine bodyPost_ret (results_cell_row rfl _ _ gb102 31 #[.slice Ao12 t104.length co12, .slice Ao17 t107.length co17, .slice Ao21 t110.length co21] (0, 0) _ rfl (by refine au1 ?_; refine qam (cs := #[.slice Ao12 t104.length co12, .slice Ao17 t107.length co17, .slice none 0 0]) ?_ 2 _ rfl; refine au1 ?_; refine qam (cs := #[.slice Ao12 t104.length co12, .slice none 0 0, .slice none 0 0]) ?_ 1 _ rfl; refine au1 ?_; refine qam (cs := #[.slice none 0 0, .slice none 0 0, .slice none 0 0]) ?_ 0 _ rfl; refine au1 ?_; refine qas ?_ NB102_103.out _; refine au1 ?_; exact BK102.out) Try.underlying31 rfl (by kernel_rfl)) rfl ?_
 exact ⟨_, _, _, by first | rfl | (simp [qag, qah] <;> rfl) | (simp [*, qag, qah] <;> rfl), by refine au0 ?_; exact Kd.R_mono (Kd.R_far (p := ⟨gb102, 2, none⟩) (Kd.R_far (p := ⟨gb102, 1, none⟩) (Kd.R_far (p := ⟨gb102, 0, none⟩) (Kd.R_far (p := ⟨gb103, 2, none⟩) (Kd.R_types (Kd.R_types HO106.out BK103.out (by decide)) BK102.out (by decide)) (fun _ hk => hk.1.2) (.slice Ao21 t110.length co21)) k2E (.slice Ao12 t104.length co12)) k2E (.slice Ao17 t107.length co17)) k2E (.slice Ao21 t110.length co21)) (fun _ hk => hk.1.1.2), by refine au0 ?_; exact Kd.R_mono (Kd.R_far (p := ⟨gb102, 2, none⟩) (Kd.R_far (p := ⟨gb102, 1, none⟩) (Kd.R_far (p := ⟨gb102, 0, none⟩) (Kd.R_far (p := ⟨gb103, 2, none⟩) (Kd.R_types (Kd.R_types HO109.out BK103.out (by decide)) BK102.out (by decide)) (fun _ hk => hk.1.2) (.slice Ao21 t110.length co21)) k2E (.slice Ao12 t104.length co12)) k2E (.slice Ao17 t107.length co17)) k2E (.slice Ao21 t110.length co21)) (fun _ hk => hk.1.1.2), by refine au0 ?_; exact Kd.R_mono (Kd.R_far (p := ⟨gb102, 2, none⟩) (Kd.R_far (p := ⟨gb102, 1, none⟩) (Kd.R_far (p := ⟨gb102, 0, none⟩) (Kd.R_far (p := ⟨gb103, 2, none⟩) (Kd.R_types (Kd.R_types HO112.out BK103.out (by decide)) BK102.out (by decide)) (fun _ hk => hk.1.2) (.slice Ao21 t110.length co21)) k2E (.slice Ao12 t104.length co12)) k2E (.slice Ao17 t107.length co17)) k2E (.slice Ao21 t110.length co21)) (fun _ hk => trivial), (au11 HB.out GE101.out GE102.out GE103.out)⟩

end

section
def spec_l4Do.f (k : Nat) (l0 : List (S80)) (a1_0 : Int) (a1_1 : ByteArray) (a1_2 : ByteArray) (a1_3 : ByteArray) : Option ((List (S80)) × Bool) := (spec_l4At.f k l0 a1_1).bind fun t102 => (if a1_0 = 1 then (if t102 ≥ 0 then (if 0 ≤ t102 then (if t102 < (l0.length : Int) then (if ((qai l0 t102).f1).size + a1_3.size ≤ 9223372036854775807 then ((spec_l4Put.f k l0 a1_1 (((qai l0 t102).f1) ++ a1_3)).bind fun t104 => (some (t104, true))) else (none)) else (none)) else (none)) else ((spec_l4Put.f k l0 a1_1 a1_3).bind fun t107 => (some (t107, true)))) else (if t102 < 0 then ((some (([] : List (S80)) : List (S80))).bind fun y110 => (if y110.length + l0.length < 4398046511104 then (some ((y110 ++ l0), false)) else (none))) else ((spec_l4Cut.f k l0 a1_1).bind fun t116 => (if a1_0 = 2 then (if 0 ≤ t102 then (if t102 < (l0.length : Int) then ((spec_l4Put.f k t116 a1_2 ((qai l0 t102).f1)).bind fun t120 => (some (t120, true))) else (none)) else (none)) else (some (t116, true))))))
theorem spec_l4Do.mono : ∀ a0 a1 a2 a3 a4 k, LeO (spec_l4Do.f k a0 a1 a2 a3 a4) (spec_l4Do.f (k + 1) a0 a1 a2 a3 a4) := by
 intro a0 a1 a2 a3 a4 k
 unfold spec_l4Do.f
 repeat' first
  | (with_reducible exact spec_l4At.mono _ _ _)
  | (with_reducible exact spec_l4Cut.mono _ _ _)
  | (with_reducible exact spec_l4Put.mono _ _ _ _)
  | (with_reducible exact LeO.refl _)
  | (with_reducible exact LeO.none _)
  | (with_reducible refine LeO.ite ?_ ?_)
  | (with_reducible refine LeO.bind ?_ (fun _ => ?_))
  | exact spec_l4At.mono _ _ _
  | exact spec_l4Cut.mono _ _ _
  | exact spec_l4Put.mono _ _ _ _
  | exact LeO.none _
  | refine LeO.ite ?_ ?_
  | refine LeO.bind ?_ (fun _ => ?_)
def spec_l4Do.T11 : Bool × List (List Nat × List Nat) := (true, [([], []), ([], []), ([1], [1]), ([], []), ([], []), ([3, 4], [3, 4]), ([5], [5]), ([6], [6]), ([0, 2, 7], [0, 2, 7]), ([8, 8, 0, 1, 2, 3, 4, 5, 6, 7, 8], [0, 8])])
def spec_l4Do.B11 : List Nat := [0, 0, 2, 0, 0, 24, 56, 120, 255, 511]
theorem spec_l4Do.tab11 : rtab .any (opsOf Try.f44 11) = spec_l4Do.T11 := by kernel_rfl
theorem spec_l4Do.bits11 : qcf spec_l4Do.T11.2 spec_l4Do.B11 = true := by kernel_rfl
set_option maxHeartbeats 8000000 in
set_option maxRecDepth 100000 in
theorem spec_l4Do.calls (k : Nat) (A0 : Option Addr) (c0 : Nat) (l0 : List (S80)) (a1_0 : Int) (a1_1 : ByteArray) (a1_2 : ByteArray) (a1_3 : ByteArray) (r1 : List (S80)) (r2 : Bool) (w : World) (hr0 : Kd.C k80 w A0 l0.length l0) (hc0 : l0.length ≤ c0) (h : spec_l4Do.f k l0 a1_0 a1_1 a1_2 a1_3 = some (r1, r2)) :
 Calls Try.prog 44 #[.slice A0 l0.length c0, .agg #[.int .i64 a1_0, .string a1_1, .string a1_2, .string a1_3]] w fun e w' => ∃ v0_ : Value, e = .returned (.tuple #[v0_, .bool r2]) ∧ Kd.R k80 80 w' w.heap.size (fun _ => True) v0_ r1 ∧ Below w.heap.size w w' := by
 have hu73 := Try.underlying73
 have HR0 := am hr0
 have HC0 := am hc0
 clear hr0 hc0
 have HB := am (Below.refl w.heap.size w)
 have H : ((spec_l4At.f k l0 a1_1).bind fun t102 => (if a1_0 = 1 then (if t102 ≥ 0 then (if 0 ≤ t102 then (if t102 < (l0.length : Int) then (if ((qai l0 t102).f1).size + a1_3.size ≤ 9223372036854775807 then ((spec_l4Put.f k l0 a1_1 (((qai l0 t102).f1) ++ a1_3)).bind fun t104 => (some (t104, true))) else (none)) else (none)) else (none)) else ((spec_l4Put.f k l0 a1_1 a1_3).bind fun t107 => (some (t107, true)))) else (if t102 < 0 then ((some (([] : List (S80)) : List (S80))).bind fun y110 => (if y110.length + l0.length < 4398046511104 then (some ((y110 ++ l0), false)) else (none))) else ((spec_l4Cut.f k l0 a1_1).bind fun t116 => (if a1_0 = 2 then (if 0 ≤ t102 then (if t102 < (l0.length : Int) then ((spec_l4Put.f k t116 a1_2 ((qai l0 t102).f1)).bind fun t120 => (some (t120, true))) else (none)) else (none)) else (some (t116, true))))))) = some (r1, r2) := h
 clear h
 replace H := Option.bind_eq_some_iff.mp H
 obtain ⟨t102, A30, H⟩ := H
 replace H : (if a1_0 = 1 then (if t102 ≥ 0 then (if 0 ≤ t102 then (if t102 < (l0.length : Int) then (if ((qai l0 t102).f1).size + a1_3.size ≤ 9223372036854775807 then ((spec_l4Put.f k l0 a1_1 (((qai l0 t102).f1) ++ a1_3)).bind fun t104 => (some (t104, true))) else (none)) else (none)) else (none)) else ((spec_l4Put.f k l0 a1_1 a1_3).bind fun t107 => (some (t107, true)))) else (if t102 < 0 then ((some (([] : List (S80)) : List (S80))).bind fun y110 => (if y110.length + l0.length < 4398046511104 then (some ((y110 ++ l0), false)) else (none))) else ((spec_l4Cut.f k l0 a1_1).bind fun t116 => (if a1_0 = 2 then (if 0 ≤ t102 then (if t102 < (l0.length : Int) then ((spec_l4Put.f k t116 a1_2 ((qai l0 t102).f1)).bind fun t120 => (some (t120, true))) else (none)) else (none)) else (some (t116, true)))))) = some (r1, r2) := H
 have A3 := am A30
 clear A30
 by_cases c4 : a1_0 = 1
 ·
  rw [if_pos c4] at H
  have c4b0 : (a1_0 == 1) = true := beq_iff_eq.mpr c4
  have c4b1 : (a1_0 != 1) = false := bne_eq_false_iff_eq.mpr c4
  clear c4
  by_cases c5 : t102 ≥ 0
  ·
   rw [if_pos c5] at H
   have c5b0 : decide (0 ≤ t102) = true := decide_eq_true c5
   clear c5
   by_cases c6 : 0 ≤ t102
   ·
    rw [if_pos c6] at H
    have c6b0 : decide (0 ≤ t102) = true := decide_eq_true c6
    clear c6
    by_cases c7 : t102 < (l0.length : Int)
    ·
     rw [if_pos c7] at H
     have c7b0 : decide (t102 < (l0.length : Int)) = true := decide_eq_true c7
     clear c7
     by_cases c8 : ((qai l0 t102).f1).size + a1_3.size ≤ 9223372036854775807
     ·
      rw [if_pos c8] at H
      have c8b0 := eq_true c8
      have c8b1 : decide (((qai l0 t102).f1).size + a1_3.size ≤ 9223372036854775807) = true := decide_eq_true c8
      try have c8b2 : (9223372036854775807 < ((qai l0 t102).f1).size + a1_3.size) = False := eq_false (Nat.not_lt.2 c8)
      replace H := Option.bind_eq_some_iff.mp H
      obtain ⟨t104, A90, H⟩ := H
      replace H : (some (t104, true)) = some (r1, r2) := H
      have A9 := am A90
      clear A90
      simp only [Option.some.injEq, Prod.mk.injEq] at H
      obtain ⟨rfl, rfl⟩ := H
      go_enter Try.func44, Try.ntmps44
      go_wp2_with (first | ((with_reducible refine qal (N := 3) rfl ?_); refine bxE (N := 3) (cs := #[.int .i64 a1_0, .string a1_1, .string a1_2, .string a1_3]) (t := 73) ?_; intro gb101 hg w10 hbox hb; have BK101 := am (hbox); have GW101 := am (sgE hg (au3 HB.out) : w.heap.size ≤ gb101); have GE101 := GW101; replace HB := am (qad (au3 HB.out) hb); clear hb hbox hg; have hcz11_0 : _ = some (Value.int .i64 a1_0) := bcE BK101.out 0; have hcz11_1 : _ = some (Value.string a1_1) := bcE BK101.out 1; have hcz11_2 : _ = some (Value.string a1_2) := bcE BK101.out 2; have hcz11_3 : _ = some (Value.string a1_3) := bcE BK101.out 3; have hfz11_0 := qaa BK101.out 0; have hfz11_1 := qaa BK101.out 1; have hfz11_2 := qaa BK101.out 2; have hfz11_3 := qaa BK101.out 3) | ((with_reducible refine qaj (f := 52) rfl ?_); refine qap (some 12) rfl rfl Try.func52 (by kernel_rfl) rfl #[.slice A0 l0.length c0, .string a1_1] rfl au6 ?_; (with_reducible refine (spec_l4At.calls k _ _ l0 a1_1 t102 _ ?side1 ?side2 A3.out).mono ?_); (case side1 => exact scE (Kd.C_below HR0.out HB.out)); (case side2 => exact HC0.out); rintro e w' ⟨rfl, ⟨nd, rfl⟩⟩; refine ⟨_, rfl, ?_⟩; have p103 : 0 ≤ (t102 : Int) := of_decide_eq_true au9; have q103 : t102 < (l0.length : Int) := of_decide_eq_true au9; obtain ⟨ad103, e103, hx103_0, hx103_1⟩ := qax HR0.out t102 p103 q103; cases e103; replace hx103_0 := qac HB.out hx103_0; replace hx103_1 := qac HB.out hx103_1; replace p103 := eq_true p103; replace q103 := eq_true q103) | ((with_reducible refine qaj (f := 85) rfl ?_); refine qap (some 31) rfl rfl Try.func85 (by kernel_rfl) rfl #[.slice (some ad103) l0.length c0, .string a1_1, .string (((qai l0 t102).f1) ++ a1_3)] rfl au6 ?_; (with_reducible refine (spec_l4Put.calls k _ _ l0 a1_1 (((qai l0 t102).f1) ++ a1_3) t104 _ ?side1 ?side2 A9.out).mono ?_); (case side1 => repeat (first | exact (Kd.C_below HR0.out (au7 HB.out GE101.out)) | (with_reducible refine Kd.C_alloc ?_ _) | (with_reducible refine Kd.C_drewN ?_ _) | (with_reducible refine Kd.C_drew ?_))); (case side2 => exact HC0.out); rintro e w12 ⟨v105, rfl, ho0, hb⟩; refine ⟨_, rfl, ?_⟩; have HO106 := am (Kd.R_lower ho0 (qaf (au7 HB.out GE101.out))); replace BK101 := am (qab (au1 BK101.out) hb); replace HB := am (qad (au7 HB.out GE101.out) hb); (try clear hb); (try clear hb2); (try clear hk); (try clear hi); (try clear ho0)))
      go_ret2
      exact ⟨_, by first | rfl | (simp [qag, qah] <;> rfl) | (simp [*, qag, qah] <;> rfl), au0 HO106.out, (au7 HB.out GE101.out)⟩
     ·
      rw [if_neg c8] at H
      exact absurd H (by simp)
    ·
     rw [if_neg c7] at H
     exact absurd H (by simp)
   ·
    rw [if_neg c6] at H
    exact absurd H (by simp)
  ·
   rw [if_neg c5] at H
   have c5b0 : decide (0 ≤ t102) = false := decide_eq_false c5
   clear c5
   replace H := Option.bind_eq_some_iff.mp H
   obtain ⟨t107, A130, H⟩ := H
   replace H : (some (t107, true)) = some (r1, r2) := H
   have A13 := am A130
   clear A130
   simp only [Option.some.injEq, Prod.mk.injEq] at H
   obtain ⟨rfl, rfl⟩ := H
   go_enter Try.func44, Try.ntmps44
   go_wp2_with (first | ((with_reducible refine qal (N := 3) rfl ?_); refine bxE (N := 3) (cs := #[.int .i64 a1_0, .string a1_1, .string a1_2, .string a1_3]) (t := 73) ?_; intro gb101 hg w14 hbox hb; have BK101 := am (hbox); have GW101 := am (sgE hg (au3 HB.out) : w.heap.size ≤ gb101); have GE101 := GW101; replace HB := am (qad (au3 HB.out) hb); clear hb hbox hg; have hcz15_0 : _ = some (Value.int .i64 a1_0) := bcE BK101.out 0; have hcz15_1 : _ = some (Value.string a1_1) := bcE BK101.out 1; have hcz15_2 : _ = some (Value.string a1_2) := bcE BK101.out 2; have hcz15_3 : _ = some (Value.string a1_3) := bcE BK101.out 3; have hfz15_0 := qaa BK101.out 0; have hfz15_1 := qaa BK101.out 1; have hfz15_2 := qaa BK101.out 2; have hfz15_3 := qaa BK101.out 3) | ((with_reducible refine qaj (f := 52) rfl ?_); refine qap (some 12) rfl rfl Try.func52 (by kernel_rfl) rfl #[.slice A0 l0.length c0, .string a1_1] rfl au6 ?_; (with_reducible refine (spec_l4At.calls k _ _ l0 a1_1 t102 _ ?side1 ?side2 A3.out).mono ?_); (case side1 => exact scE (Kd.C_below HR0.out HB.out)); (case side2 => exact HC0.out); rintro e w' ⟨rfl, ⟨nd, rfl⟩⟩; refine ⟨_, rfl, ?_⟩) | ((with_reducible refine qaj (f := 85) rfl ?_); refine qap (some 31) rfl rfl Try.func85 (by kernel_rfl) rfl #[.slice A0 l0.length c0, .string a1_1, .string a1_3] rfl au6 ?_; (with_reducible refine (spec_l4Put.calls k _ _ l0 a1_1 a1_3 t107 _ ?side1 ?side2 A13.out).mono ?_); (case side1 => repeat (first | exact (Kd.C_below HR0.out (au7 HB.out GE101.out)) | (with_reducible refine Kd.C_alloc ?_ _) | (with_reducible refine Kd.C_drewN ?_ _) | (with_reducible refine Kd.C_drew ?_))); (case side2 => exact HC0.out); rintro e w16 ⟨v108, rfl, ho0, hb⟩; refine ⟨_, rfl, ?_⟩; have HO109 := am (Kd.R_lower ho0 (qaf (au7 HB.out GE101.out))); replace BK101 := am (qab (au1 BK101.out) hb); replace HB := am (qad (au7 HB.out GE101.out) hb); (try clear hb); (try clear hb2); (try clear hk); (try clear hi); (try clear ho0)))
   go_ret2
   exact ⟨_, by first | rfl | (simp [qag, qah] <;> rfl) | (simp [*, qag, qah] <;> rfl), au0 HO109.out, (au7 HB.out GE101.out)⟩
 ·
  rw [if_neg c4] at H
  have c4b0 : (a1_0 == 1) = false := beq_eq_false_iff_ne.mpr c4
  have c4b1 : (a1_0 != 1) = true := bne_iff_ne.mpr c4
  by_cases c17 : t102 < 0
  ·
   rw [if_pos c17] at H
   have c17b0 : decide (t102 < 0) = true := decide_eq_true c17
   clear c17
   obtain ⟨y110, hy110⟩ : ∃ y_ : List (S80), y_ = (([] : List (S80))) := ⟨_, rfl⟩
   replace H : (if y110.length + l0.length < 4398046511104 then (some ((y110 ++ l0), false)) else (none)) = some (r1, r2) := by first | (rw [hy110]; with_reducible exact H) | (have H2_ := (Option.bind_some _ _).symm.trans H; rw [hy110]; with_reducible exact H2_) | (have H2_ := (Option.bind_some _ _).symm.trans H; with_reducible exact H2_) | with_reducible exact H | (rw [hy110]; exact H) | exact H
   have Ny110 := am hy110
   clear hy110
   by_cases c18 : y110.length + l0.length < 4398046511104
   ·
    rw [if_pos c18] at H
    have LMc18 := am c18
    clear c18
    obtain ⟨y113, hy113⟩ : ∃ y_ : List (S80), y_ = (y110 ++ l0) := ⟨_, rfl⟩
    replace H : (some (y113, false)) = some (r1, r2) := by first | (rw [hy113]; with_reducible exact H) | (have H2_ := (Option.bind_some _ _).symm.trans H; rw [hy113]; with_reducible exact H2_) | (have H2_ := (Option.bind_some _ _).symm.trans H; with_reducible exact H2_) | with_reducible exact H | (rw [hy113]; exact H) | exact H
    have Ny113 := am hy113
    clear hy113
    simp only [Option.some.injEq, Prod.mk.injEq] at H
    obtain ⟨rfl, rfl⟩ := H
    go_enter Try.func44, Try.ntmps44
    go_wp2_with (first | ((with_reducible refine qal (N := 3) rfl ?_); refine bxE (N := 3) (cs := #[.int .i64 a1_0, .string a1_1, .string a1_2, .string a1_3]) (t := 73) ?_; intro gb101 hg w19 hbox hb; have BK101 := am (hbox); have GW101 := am (sgE hg (au3 HB.out) : w.heap.size ≤ gb101); have GE101 := GW101; replace HB := am (qad (au3 HB.out) hb); clear hb hbox hg; have hcz20_0 : _ = some (Value.int .i64 a1_0) := bcE BK101.out 0; have hcz20_1 : _ = some (Value.string a1_1) := bcE BK101.out 1; have hcz20_2 : _ = some (Value.string a1_2) := bcE BK101.out 2; have hcz20_3 : _ = some (Value.string a1_3) := bcE BK101.out 3; have hfz20_0 := qaa BK101.out 0; have hfz20_1 := qaa BK101.out 1; have hfz20_2 := qaa BK101.out 2; have hfz20_3 := qaa BK101.out 3) | ((with_reducible refine qaj (f := 52) rfl ?_); refine qap (some 12) rfl rfl Try.func52 (by kernel_rfl) rfl #[.slice A0 l0.length c0, .string a1_1] rfl au6 ?_; (with_reducible refine (spec_l4At.calls k _ _ l0 a1_1 t102 _ ?side1 ?side2 A3.out).mono ?_); (case side1 => exact scE (Kd.C_below HR0.out HB.out)); (case side2 => exact HC0.out); rintro e w' ⟨rfl, ⟨nd, rfl⟩⟩; refine ⟨_, rfl, ?_⟩) | ((with_reducible refine qal (N := 34) rfl ?_); refine Kd.R_lit k80 _ 80 ?hg (N := 34) ?hd (xs := ([] : List (S80))) (inner := []) (ok := fun _ => True) (okp := fun _ => True) ?hr ?hp (fun _ hk => hk) trivial (Below.refl _ _) (Nat.le_refl _) (by simp) ?_; (case hd => rfl); (case hg => rfl); (case hr => first | (go_simp; done) | (go_simp; rfl)); (case hp => exact (Reps.none _ _)); intro v111 w21 ho22 hb hg_ hnew_; clear hg_ hnew_; (first | rw [← Ny110.out] at ho22 | (simp only [Int.reduceToNat] at ho22; rw [← Ny110.out] at ho22)); have HO112 := am (Kd.R_lower ho22 (qaf (au7 HB.out GE101.out))); replace BK101 := am (qab (au1 BK101.out) hb); replace HB := am (qad (au7 HB.out GE101.out) hb); clear hb ho22) | ((with_reducible refine qbf (b := .append) (xs := #[.tmp 34, .tmp 35]) rfl ?_); at_builtin; refine Kd.R_append_rows k80 (w0 := w) w.heap.size rfl (.tmp 34) (.tmp 35) 28 80 (.agg #[(.string ⟨#[]⟩), (.string ⟨#[]⟩)]) 32 rfl Try.underlying28 qch rfl (by decide) (by omega) v111 y110 l0 _ _ _ (fun _ => True) (fun _ => False) rfl rfl ?aO ?aR (fun _ _ h => h) (fun _ h => h.elim) ?aF ?aB ?aS ?aL ?_; (case aR => exact scE (Kd.C_below HR0.out HB.out)); (case aB => exact (au7 HB.out GE101.out)); (case aF => exact (fun _ _ => trivial)); (case aO => exact (au0 HO112.out)); (case aS => exact (qaf (au7 HB.out GE101.out))); (case aL => have := LMc18.out; omega); intro v114 w23 ho hb hg hat; rw [← Ny113.out] at ho; replace BK101 := am (qbb (au1 BK101.out) hg (Kd.R_ne HO112.out BK101.out (by decide))); replace HB := am (hb); have HO115 := am (ho); clear HO112; clear ho hb hg hat))
    go_ret2
    exact ⟨_, by first | rfl | (simp [qag, qah] <;> rfl) | (simp [*, qag, qah] <;> rfl), au0 HO115.out, (au7 HB.out GE101.out)⟩
   ·
    rw [if_neg c18] at H
    exact absurd H (by simp)
  ·
   rw [if_neg c17] at H
   have c17b0 : decide (t102 < 0) = false := decide_eq_false c17
   clear c17
   replace H := Option.bind_eq_some_iff.mp H
   obtain ⟨t116, A240, H⟩ := H
   replace H : (if a1_0 = 2 then (if 0 ≤ t102 then (if t102 < (l0.length : Int) then ((spec_l4Put.f k t116 a1_2 ((qai l0 t102).f1)).bind fun t120 => (some (t120, true))) else (none)) else (none)) else (some (t116, true))) = some (r1, r2) := H
   have A24 := am A240
   clear A240
   by_cases c25 : a1_0 = 2
   ·
    rw [if_pos c25] at H
    have c25b0 : (a1_0 == 2) = true := beq_iff_eq.mpr c25
    have c25b1 : (a1_0 != 2) = false := bne_eq_false_iff_eq.mpr c25
    clear c25
    by_cases c26 : 0 ≤ t102
    ·
     rw [if_pos c26] at H
     have c26b0 : decide (0 ≤ t102) = true := decide_eq_true c26
     clear c26
     by_cases c27 : t102 < (l0.length : Int)
     ·
      rw [if_pos c27] at H
      have c27b0 : decide (t102 < (l0.length : Int)) = true := decide_eq_true c27
      clear c27
      replace H := Option.bind_eq_some_iff.mp H
      obtain ⟨t120, A280, H⟩ := H
      replace H : (some (t120, true)) = some (r1, r2) := H
      have A28 := am A280
      clear A280
      simp only [Option.some.injEq, Prod.mk.injEq] at H
      obtain ⟨rfl, rfl⟩ := H
      go_enter Try.func44, Try.ntmps44
      try go_wp2_with (first | ((with_reducible refine qal (N := 3) rfl ?_); refine bxE (N := 3) (cs := #[.int .i64 a1_0, .string a1_1, .string a1_2, .string a1_3]) (t := 73) ?_; intro gb101 hg w29 hbox hb; have BK101 := am (hbox); have GW101 := am (sgE hg (au3 HB.out) : w.heap.size ≤ gb101); have GE101 := GW101; replace HB := am (qad (au3 HB.out) hb); clear hb hbox hg; have hcz30_0 : _ = some (Value.int .i64 a1_0) := bcE BK101.out 0; have hcz30_1 : _ = some (Value.string a1_1) := bcE BK101.out 1; have hcz30_2 : _ = some (Value.string a1_2) := bcE BK101.out 2; have hcz30_3 : _ = some (Value.string a1_3) := bcE BK101.out 3; have hfz30_0 := qaa BK101.out 0; have hfz30_1 := qaa BK101.out 1; have hfz30_2 := qaa BK101.out 2; have hfz30_3 := qaa BK101.out 3) | ((with_reducible refine qaj (f := 52) rfl ?_); refine qap (some 12) rfl rfl Try.func52 (by kernel_rfl) rfl #[.slice A0 l0.length c0, .string a1_1] rfl au6 ?_; (with_reducible refine (spec_l4At.calls k _ _ l0 a1_1 t102 _ ?side1 ?side2 A3.out).mono ?_); (case side1 => exact scE (Kd.C_below HR0.out HB.out)); (case side2 => exact HC0.out); rintro e w' ⟨rfl, ⟨nd, rfl⟩⟩; refine ⟨_, rfl, ?_⟩) | ((with_reducible refine qaj (f := 86) rfl ?_); refine qap (some 40) rfl rfl Try.func86 (by kernel_rfl) rfl #[.slice A0 l0.length c0, .string a1_1] rfl au6 ?_; (with_reducible refine (spec_l4Cut.calls k _ _ l0 a1_1 t116 _ ?side1 ?side2 A24.out).mono ?_); (case side1 => repeat (first | exact (Kd.C_below HR0.out (au7 HB.out GE101.out)) | (with_reducible refine Kd.C_alloc ?_ _) | (with_reducible refine Kd.C_drewN ?_ _) | (with_reducible refine Kd.C_drew ?_))); (case side2 => exact HC0.out); rintro e w31 ⟨v117, rfl, ho0, hb⟩; refine ⟨_, rfl, ?_⟩; have HO118 := am (Kd.R_lower ho0 (qaf (au7 HB.out GE101.out))); replace BK101 := am (qab (au1 BK101.out) hb); replace HB := am (qad (au7 HB.out GE101.out) hb); (try clear hb); (try clear hb2); (try clear hk); (try clear hi); (try clear ho0); have hcz32_0 : _ = some (Value.int .i64 a1_0) := bcE BK101.out 0; have hcz32_1 : _ = some (Value.string a1_1) := bcE BK101.out 1; have hcz32_2 : _ = some (Value.string a1_2) := bcE BK101.out 2; have hcz32_3 : _ = some (Value.string a1_3) := bcE BK101.out 3; have hfz32_0 := qaa BK101.out 0; have hfz32_1 := qaa BK101.out 1; have hfz32_2 := qaa BK101.out 2; have hfz32_3 := qaa BK101.out 3))
      replace HO118 := am (Kd.R_drew HO118.out)
      replace BK101 := am (qcm BK101.out)
      replace HB := am (qay HB.out)
      have p119 : 0 ≤ (t102 : Int) := of_decide_eq_true au9
      have q119 : t102 < (l0.length : Int) := of_decide_eq_true au9
      obtain ⟨ad119, e119, hx119_0, hx119_1⟩ := qax HR0.out t102 p119 q119
      have hw119_1 := hx119_1
      have hw119_0 := hx119_0
      cases e119
      replace hx119_0 := qac HB.out hx119_0
      replace hx119_1 := qac HB.out hx119_1
      replace p119 := eq_true p119
      replace q119 := eq_true q119
      obtain ⟨Ao34, co34, eo34⟩ := Kd.R_slice HO118.out
      (first | subst eo34 | (injection eo34 with f1_ f2_ f3_; have f4_ := f1_.symm; have f5_ := f3_.symm; clear f1_ f2_ f3_; subst f4_; subst f5_))
      refine qdm (n := 10) (S := fun w' => w'.cell? ⟨gb101, 0, none⟩ = some (.int .i64 a1_0) ∧ w'.cell? ⟨gb101, 1, none⟩ = some (.string a1_1) ∧ w'.cell? ⟨gb101, 2, none⟩ = some (.string a1_2) ∧ w'.cell? ⟨gb101, 3, none⟩ = some (.string a1_3) ∧ w'.cell? (ad119.add ((t102).toNat * 2)) = some (.string ((qai l0 t102).f0)) ∧ w'.cell? ⟨(ad119.add ((t102).toNat * 2)).block, (ad119.add ((t102).toNat * 2)).off + 1, none⟩ = some (.string ((qai l0 t102).f1))) (ds := []) #[false, false, false, false, false, false, false, false, false, false] (by kernel_rfl) rfl rfl ⟨(qak BK101.out 0).trans rfl, (qak BK101.out 1).trans rfl, (qak BK101.out 2).trans rfl, (qak BK101.out 3).trans rfl, (qac HB.out hw119_0), (qac HB.out hw119_1)⟩ (fun hHeld => ?_); refine qbx spec_l4Do.tab11 spec_l4Do.bits11 (fun HT_ HW_ => ?_)
      generalize w31.drew = w33 at HO118 BK101 HB hx119_0 hx119_1 hHeld ⊢
      refine pure_ (i := 0) (N := some 44) (v := ?_) (a' := ?_) #[true, false, false, false, false, false, false, false, false, false] rfl rfl (qaz HT_.out (by kernel_rfl)) (fun _ _ _ h => h) (Or.inl ⟨by rfl, ?_⟩) ?_ ?_
      rotate_left
      ·
       intro w'
       go_simp
       with_reducible rfl
      rotate_left
      ·
       simp only [Act.put, qsA, qsZ, qsS, i64_w, i32_w]
       rfl
      refine pure_ (i := 1) (N := some 45) (v := ?_) (a' := ?_) #[true, true, false, false, false, false, false, false, false, false] rfl rfl (qaz HT_.out (by kernel_rfl)) (fun _ _ _ h => h) (Or.inl ⟨by rfl, ?_⟩) ?_ ?_
      rotate_left
      ·
       intro w'
       go_simp
       with_reducible rfl
      rotate_left
      ·
       simp only [Act.put, qsA, qsZ, qsS, i64_w, i32_w]
       rfl
      refine pure_ (i := 3) (N := some 47) (v := ?_) (a' := ?_) #[true, true, false, true, false, false, false, false, false, false] rfl rfl (qaz HT_.out (by kernel_rfl)) (fun _ _ _ h => h) (Or.inl ⟨by rfl, ?_⟩) ?_ ?_
      rotate_left
      ·
       intro w'
       go_simp
       with_reducible rfl
      rotate_left
      ·
       simp only [Act.put, qsA, qsZ, qsS, i64_w, i32_w]
       rfl
      refine pure_ (i := 4) (N := some 48) (v := ?_) (a' := ?_) #[true, true, false, true, true, false, false, false, false, false] rfl rfl (qaz HT_.out (by kernel_rfl)) (fun _ _ _ h => h) (Or.inl ⟨by rfl, ?_⟩) ?_ ?_
      rotate_left
      ·
       intro w'
       go_simp
       with_reducible rfl
      rotate_left
      ·
       simp only [Act.put, qsA, qsZ, qsS, i64_w, i32_w]
       rfl
      refine pure_ (i := 5) (N := some 49) (v := ?_) (a' := ?_) #[true, true, false, true, true, true, false, false, false, false] rfl rfl (qaz HT_.out (by kernel_rfl)) (fun _ _ _ h => h) (Or.inl ⟨by rfl, ?_⟩) ?_ ?_
      rotate_left
      ·
       intro w'
       go_simp
       with_reducible rfl
      rotate_left
      ·
       simp only [Act.put, qsA, qsZ, qsS, i64_w, i32_w]
       rfl
      refine pure_ (i := 6) (N := some 50) (v := ?_) (a' := ?_) #[true, true, false, true, true, true, true, false, false, false] rfl rfl (qaz HT_.out (by kernel_rfl)) (fun _ _ _ h => h) (Or.inl ⟨by rfl, ?_⟩) ?_ ?_
      rotate_left
      ·
       intro w'
       go_simp
       with_reducible rfl
      rotate_left
      ·
       simp only [Act.put, qsA, qsZ, qsS, i64_w, i32_w]
       rfl
      refine take_ (i := 2) (N := some 46) (v := ?_) (a' := ?_) #[true, true, true, true, true, true, true, false, false, false] rfl rfl (qbj HT_.out HW_.out (by kernel_rfl)) (fun _ _ _ h => h) (Or.inl ⟨by rfl, ?_⟩) hHeld ?_ ?_
      rotate_left
      ·
       rintro w' ⟨s0, s1, s2, s3, s4, s5⟩
       go_simp
       with_reducible rfl
      rotate_left
      ·
       simp only [Act.put, qsA, qsZ, qsS, i64_w, i32_w]
       rfl
      refine take_ (i := 7) (N := some 51) (v := ?_) (a' := ?_) #[true, true, true, true, true, true, true, true, false, false] rfl rfl (qbj HT_.out HW_.out (by kernel_rfl)) (fun _ _ _ h => h) (Or.inl ⟨by rfl, ?_⟩) hHeld ?_ ?_
      rotate_left
      ·
       rintro w' ⟨s0, s1, s2, s3, s4, s5⟩
       go_simp
       with_reducible rfl
      rotate_left
      ·
       simp only [Act.put, qsA, qsZ, qsS, i64_w, i32_w]
       rfl
      refine one_ (i := 8) (N := some 52) #[true, true, true, true, true, true, true, true, true, false] rfl rfl (qbw HT_.out (by kernel_rfl)) (by decide) (fun K hK => ?_)
      refine goes_ Try.func85 (by kernel_rfl) rfl #[.slice Ao34 t116.length co34, .string a1_2, .string ((qai l0 t102).f1)] (by rfl) rfl rfl au6 ?_
      with_reducible refine (spec_l4Put.calls k _ _ t116 a1_2 ((qai l0 t102).f1) t120 _ ?side1 ?side2 A28.out).mono ?_
      (case side1 => repeat (first | exact (Kd.R_reads' HO118.out).2.2 | (with_reducible refine Kd.C_alloc ?_ _) | (with_reducible refine Kd.C_drewN ?_ _) | (with_reducible refine Kd.C_drew ?_)))
      (case side2 => exact (Kd.R_reads' HO118.out).2.1)
      rintro e w35 ⟨v121, rfl, ho0, hb⟩
      refine ⟨_, rfl, ?_⟩
      have HO122 := am (Kd.R_lower (Kd.R_new' ho0 (Kd.R_lt (au0 HO118.out))) (qaf (au7 HB.out GE101.out)))
      replace HO118 := am (Kd.R_elder' (au0 HO118.out) (Kd.R_base ho0) hb)
      replace BK101 := am (qab (au1 BK101.out) hb)
      replace HB := am (qad (au7 HB.out GE101.out) hb)
      (try clear hb)
      (try clear hb2)
      (try clear hk)
      (try clear hi)
      (try clear ho0)
      refine hK.out _ _ ⟨(qak BK101.out 0).trans rfl, (qak BK101.out 1).trans rfl, (qak BK101.out 2).trans rfl, (qak BK101.out 3).trans rfl, (qac HB.out hw119_0), (qac HB.out hw119_1)⟩ (fun hHeld => ?_)
      clear hK K
      refine norm_ (a' := ?_) ?_ ?_
      rotate_left
      ·
       show Act.put _ (some 52) _ = _
       simp only [Act.put, qsA, qsZ, qsS, i64_w, i32_w]
       rfl
      refine pure_ (i := 9) (N := some 8) (v := ?_) (a' := ?_) #[true, true, true, true, true, true, true, true, true, true] rfl rfl (qaz HT_.out (by kernel_rfl)) (fun _ _ _ h => h) (Or.inl ⟨by rfl, ?_⟩) ?_ ?_
      rotate_left
      ·
       intro w'
       go_simp
       with_reducible rfl
      rotate_left
      ·
       simp only [Act.put, qsA, qsZ, qsS, i64_w, i32_w]
       rfl
      refine done_ (qdd HT_.out (by kernel_rfl)) ?_
      try go_wp2
      go_ret2
      exact ⟨_, by first | rfl | (simp [qag, qah] <;> rfl) | (simp [*, qag, qah] <;> rfl), by refine au0 ?_; exact Kd.R_mono HO122.out (fun _ hk => trivial), (au7 HB.out GE101.out)⟩
     ·
      rw [if_neg c27] at H
      exact absurd H (by simp)
    ·
     rw [if_neg c26] at H
     exact absurd H (by simp)
   ·
    rw [if_neg c25] at H
    have c25b0 : (a1_0 == 2) = false := beq_eq_false_iff_ne.mpr c25
    have c25b1 : (a1_0 != 2) = true := bne_iff_ne.mpr c25
    simp only [Option.some.injEq, Prod.mk.injEq] at H
    obtain ⟨rfl, rfl⟩ := H
    go_enter Try.func44, Try.ntmps44
    go_wp2_with (first | ((with_reducible refine qal (N := 3) rfl ?_); refine bxE (N := 3) (cs := #[.int .i64 a1_0, .string a1_1, .string a1_2, .string a1_3]) (t := 73) ?_; intro gb101 hg w36 hbox hb; have BK101 := am (hbox); have GW101 := am (sgE hg (au3 HB.out) : w.heap.size ≤ gb101); have GE101 := GW101; replace HB := am (qad (au3 HB.out) hb); clear hb hbox hg; have hcz37_0 : _ = some (Value.int .i64 a1_0) := bcE BK101.out 0; have hcz37_1 : _ = some (Value.string a1_1) := bcE BK101.out 1; have hcz37_2 : _ = some (Value.string a1_2) := bcE BK101.out 2; have hcz37_3 : _ = some (Value.string a1_3) := bcE BK101.out 3; have hfz37_0 := qaa BK101.out 0; have hfz37_1 := qaa BK101.out 1; have hfz37_2 := qaa BK101.out 2; have hfz37_3 := qaa BK101.out 3) | ((with_reducible refine qaj (f := 52) rfl ?_); refine qap (some 12) rfl rfl Try.func52 (by kernel_rfl) rfl #[.slice A0 l0.length c0, .string a1_1] rfl au6 ?_; (with_reducible refine (spec_l4At.calls k _ _ l0 a1_1 t102 _ ?side1 ?side2 A3.out).mono ?_); (case side1 => exact scE (Kd.C_below HR0.out HB.out)); (case side2 => exact HC0.out); rintro e w' ⟨rfl, ⟨nd, rfl⟩⟩; refine ⟨_, rfl, ?_⟩) | ((with_reducible refine qaj (f := 86) rfl ?_); refine qap (some 40) rfl rfl Try.func86 (by kernel_rfl) rfl #[.slice A0 l0.length c0, .string a1_1] rfl au6 ?_; (with_reducible refine (spec_l4Cut.calls k _ _ l0 a1_1 t116 _ ?side1 ?side2 A24.out).mono ?_); (case side1 => repeat (first | exact (Kd.C_below HR0.out (au7 HB.out GE101.out)) | (with_reducible refine Kd.C_alloc ?_ _) | (with_reducible refine Kd.C_drewN ?_ _) | (with_reducible refine Kd.C_drew ?_))); (case side2 => exact HC0.out); rintro e w38 ⟨v117, rfl, ho0, hb⟩; refine ⟨_, rfl, ?_⟩; have HO118 := am (Kd.R_lower ho0 (qaf (au7 HB.out GE101.out))); replace BK101 := am (qab (au1 BK101.out) hb); replace HB := am (qad (au7 HB.out GE101.out) hb); (try clear hb); (try clear hb2); (try clear hk); (try clear hi); (try clear ho0); have hcz39_0 : _ = some (Value.int .i64 a1_0) := bcE BK101.out 0; have hcz39_1 : _ = some (Value.string a1_1) := bcE BK101.out 1; have hcz39_2 : _ = some (Value.string a1_2) := bcE BK101.out 2; have hcz39_3 : _ = some (Value.string a1_3) := bcE BK101.out 3; have hfz39_0 := qaa BK101.out 0; have hfz39_1 := qaa BK101.out 1; have hfz39_2 := qaa BK101.out 2; have hfz39_3 := qaa BK101.out 3))
    go_ret2
    exact ⟨_, by first | rfl | (simp [qag, qah] <;> rfl) | (simp [*, qag, qah] <;> rfl), au0 HO118.out, (au7 HB.out GE101.out)⟩

end

section
mutual
def spec_DiskOk.j0 : Nat → Bool → List (S80) → List (S80) → List (S73) → Option (Bool)
 | 0, _, _, _, _ => none
 | k + 1, x22, x102000, x102001, x102002 => if x22 = true then (some false) else (spec_DiskOk.l0 k x102001 0 x102000 x102001 x102002)
def spec_DiskOk.l0 : Nat → List (S80) → Int → List (S80) → List (S80) → List (S73) → Option (Bool)
 | 0, _, _, _, _, _ => none
 | k + 1, x3, x4, x102000, x102001, x102002 => if x4 < (x102002.length : Int) then (if 0 ≤ x4 then ((spec_l4Do.f k x3 ((qae x102002 x4).f0) ((qae x102002 x4).f1) ((qae x102002 x4).f2) ((qae x102002 x4).f3)).bind fun bt106 => (if bt106.2 = true then ((spec_l4Form.f k ((qae x102002 x4).f0) ((qae x102002 x4).f1) ((qae x102002 x4).f2) ((qae x102002 x4).f3)).bind fun t111 => (if t111 = true then ((spec_l4Files.f k bt106.1).bind fun t112 => (if t112 = true then (spec_DiskOk.l0 k bt106.1 (wrap64 (x4 + 1)) x102000 x102001 x102002) else (some false))) else (some false))) else (some false))) else (none)) else ((spec_l4Same.f k x3 x102000).bind fun t104 => (some t104))
end
def spec_DiskOk.f (k : Nat) (l0_0 : List (S80)) (l0_1 : List (S80)) (l0_2 : List (S73)) : Option (Bool) := (spec_l4Files.f k l0_0).bind fun t102 => (if t102 = true then ((spec_l4Files.f k l0_1).bind fun t103 => (if t103 = true then (spec_DiskOk.j0 k (decide ((l0_2.length : Int) > 200)) l0_0 l0_1 l0_2) else (spec_DiskOk.j0 k true l0_0 l0_1 l0_2))) else (spec_DiskOk.j0 k true l0_0 l0_1 l0_2))
theorem spec_DiskOk.mono_l : ∀ k, (∀ y0 y1 y2 y3, LeO (spec_DiskOk.j0 k y0 y1 y2 y3) (spec_DiskOk.j0 (k + 1) y0 y1 y2 y3)) ∧ (∀ y0 y1 y2 y3 y4, LeO (spec_DiskOk.l0 k y0 y1 y2 y3 y4) (spec_DiskOk.l0 (k + 1) y0 y1 y2 y3 y4))
 | 0 => ⟨fun _ _ _ _ r h => by simp [spec_DiskOk.j0] at h, fun _ _ _ _ _ r h => by simp [spec_DiskOk.l0] at h⟩
 | k + 1 => by
  obtain ⟨ih0, ih1⟩ := spec_DiskOk.mono_l k
  refine ⟨?_, ?_⟩
  ·
   intro y0 y1 y2 y3
   unfold spec_DiskOk.j0
   repeat' first
   | (with_reducible exact ih0 _ _ _ _)
   | (with_reducible exact ih1 _ _ _ _ _)
   | (with_reducible exact spec_l4Do.mono _ _ _ _ _ _)
   | (with_reducible exact spec_l4Files.mono _ _)
   | (with_reducible exact spec_l4Form.mono _ _ _ _ _)
   | (with_reducible exact spec_l4Same.mono _ _ _)
   | (with_reducible exact LeO.refl _)
   | (with_reducible exact LeO.none _)
   | (with_reducible refine LeO.ite ?_ ?_)
   | (with_reducible refine LeO.bind ?_ (fun _ => ?_))
   | exact ih0 _ _ _ _
   | exact ih1 _ _ _ _ _
   | exact spec_l4Do.mono _ _ _ _ _ _
   | exact spec_l4Files.mono _ _
   | exact spec_l4Form.mono _ _ _ _ _
   | exact spec_l4Same.mono _ _ _
   | exact LeO.none _
   | refine LeO.ite ?_ ?_
   | refine LeO.bind ?_ (fun _ => ?_)
  ·
   intro y0 y1 y2 y3 y4
   unfold spec_DiskOk.l0
   repeat' first
   | (with_reducible exact ih0 _ _ _ _)
   | (with_reducible exact ih1 _ _ _ _ _)
   | (with_reducible exact spec_l4Do.mono _ _ _ _ _ _)
   | (with_reducible exact spec_l4Files.mono _ _)
   | (with_reducible exact spec_l4Form.mono _ _ _ _ _)
   | (with_reducible exact spec_l4Same.mono _ _ _)
   | (with_reducible exact LeO.refl _)
   | (with_reducible exact LeO.none _)
   | (with_reducible refine LeO.ite ?_ ?_)
   | (with_reducible refine LeO.bind ?_ (fun _ => ?_))
   | exact ih0 _ _ _ _
   | exact ih1 _ _ _ _ _
   | exact spec_l4Do.mono _ _ _ _ _ _
   | exact spec_l4Files.mono _ _
   | exact spec_l4Form.mono _ _ _ _ _
   | exact spec_l4Same.mono _ _ _
   | exact LeO.none _
   | refine LeO.ite ?_ ?_
   | refine LeO.bind ?_ (fun _ => ?_)
theorem spec_DiskOk.mono : ∀ a0 a1 a2 k, LeO (spec_DiskOk.f k a0 a1 a2) (spec_DiskOk.f (k + 1) a0 a1 a2) := by
 intro a0 a1 a2 k
 obtain ⟨ih0, ih1⟩ := spec_DiskOk.mono_l k
 unfold spec_DiskOk.f
 repeat' first
  | (with_reducible exact ih0 _ _ _ _)
  | (with_reducible exact ih1 _ _ _ _ _)
  | (with_reducible exact spec_l4Do.mono _ _ _ _ _ _)
  | (with_reducible exact spec_l4Files.mono _ _)
  | (with_reducible exact spec_l4Form.mono _ _ _ _ _)
  | (with_reducible exact spec_l4Same.mono _ _ _)
  | (with_reducible exact LeO.refl _)
  | (with_reducible exact LeO.none _)
  | (with_reducible refine LeO.ite ?_ ?_)
  | (with_reducible refine LeO.bind ?_ (fun _ => ?_))
  | exact ih0 _ _ _ _
  | exact ih1 _ _ _ _ _
  | exact spec_l4Do.mono _ _ _ _ _ _
  | exact spec_l4Files.mono _ _
  | exact spec_l4Form.mono _ _ _ _ _
  | exact spec_l4Same.mono _ _ _
  | exact LeO.none _
  | refine LeO.ite ?_ ?_
  | refine LeO.bind ?_ (fun _ => ?_)
set_option maxHeartbeats 8000000 in
set_option maxRecDepth 100000 in
theorem spec_DiskOk.calls (k : Nat) (A0_0 : Option Addr) (c0_0 : Nat) (l0_0 : List (S80)) (P0_1_ : Nat → Prop) (A0_1 : Option Addr) (c0_1 : Nat) (l0_1 : List (S80)) (A0_2 : Option Addr) (c0_2 : Nat) (l0_2 : List (S73)) (r : Bool) (w : World) (hr0_0 : Kd.C k80 w A0_0 l0_0.length l0_0) (hc0_0 : l0_0.length ≤ c0_0) (hs0_1 : Kd.V k80 80 w w.heap.size (fun k_ => P0_1_ k_) (.slice A0_1 l0_1.length c0_1) l0_1) (hr0_2 : Kd.C k73 w A0_2 l0_2.length l0_2) (hc0_2 : l0_2.length ≤ c0_2) (h : spec_DiskOk.f k l0_0 l0_1 l0_2 = some r) :
 Calls Try.prog 13 #[.agg #[.slice A0_0 l0_0.length c0_0, .slice A0_1 l0_1.length c0_1, .slice A0_2 l0_2.length c0_2]] w fun e w' => e = .returned (.bool r) ∧ Below w.heap.size w w' := by
 have hu31 := Try.underlying31
 have hu73 := Try.underlying73
 have HR0_0 := am hr0_0
 have HC0_0 := am hc0_0
 clear hr0_0 hc0_0
 have HO0_1 := am (show Kd.V k80 80 w w.heap.size (fun k_ => (P0_1_ k_ ∨ w.heap.size ≤ k_)) (.slice A0_1 l0_1.length c0_1) l0_1 from Kd.V_mono hs0_1 (fun k_ hk => .inl hk))
 have HR0_2 := am hr0_2
 have HC0_2 := am hc0_2
 clear hr0_2 hc0_2
 have HB := am (Below.refl w.heap.size w)
 have H : ((spec_l4Files.f k l0_0).bind fun t102 => (if t102 = true then ((spec_l4Files.f k l0_1).bind fun t103 => (if t103 = true then (spec_DiskOk.j0 k (decide ((l0_2.length : Int) > 200)) l0_0 l0_1 l0_2) else (spec_DiskOk.j0 k true l0_0 l0_1 l0_2))) else (spec_DiskOk.j0 k true l0_0 l0_1 l0_2))) = some r := h
 clear h
 have HC2 := am H
 clear H
 go_enter Try.func13, Try.ntmps13
 go_upto_region 1 with (first | ((with_reducible refine qal (N := 1) rfl ?_); (try (refine gate_guard (by rfl) ?_; dsimp only)); refine bxE (N := 1) (cs := #[.slice A0_0 l0_0.length c0_0, .slice A0_1 l0_1.length c0_1, .slice A0_2 l0_2.length c0_2]) (t := 31) ?_; intro gb101 hg w3 hbox hb; replace HO0_1 := am (Kd.V_below (Kd.V_elderB (au2 HO0_1.out) gb101 (Nat.le_of_eq hg.symm)) hb); have BK101 := am (hbox); have GW101 := am (sgE hg (au3 HB.out) : w.heap.size ≤ gb101); have GE101 := GW101; replace HB := am (qad (au3 HB.out) hb); clear hb hbox hg))
 (try simp only [Act.put, qsA, qsZ, qsS])
 go_cut [22] (fun v22 wc => ∃ (kq : Nat) (x22_1 : Bool), v22 = .bool x22_1 ∧ Aside0 (spec_DiskOk.j0 kq x22_1 l0_0 l0_1 l0_2 = some r) ∧ Aside0 (kq ≤ k) ∧ Aside0 (Kd.V k80 80 wc w.heap.size (fun k_ => (P0_1_ k_ ∨ w.heap.size ≤ k_) ∧ k_ ≠ gb101) (.slice A0_1 l0_1.length c0_1) l0_1) ∧ Aside0 (wc.heap[gb101]? = some (.cells #[(.slice A0_0 l0_0.length c0_0), (.slice A0_1 l0_1.length c0_1), (.slice A0_2 l0_2.length c0_2)] 31 (0, 0))) ∧ Aside0 (Below w.heap.size w wc))
 case first =>
  have H := HC2.out
  clear HC2
  replace H := Option.bind_eq_some_iff.mp H
  obtain ⟨t102, A40, H⟩ := H
  replace H : (if t102 = true then ((spec_l4Files.f k l0_1).bind fun t103 => (if t103 = true then (spec_DiskOk.j0 k (decide ((l0_2.length : Int) > 200)) l0_0 l0_1 l0_2) else (spec_DiskOk.j0 k true l0_0 l0_1 l0_2))) else (spec_DiskOk.j0 k true l0_0 l0_1 l0_2)) = some r := H
  have A4 := am A40
  clear A40
  by_cases c5 : t102 = true
  ·
   subst c5
   have H1 : ((spec_l4Files.f k l0_1).bind fun t103 => (if t103 = true then (spec_DiskOk.j0 k (decide ((l0_2.length : Int) > 200)) l0_0 l0_1 l0_2) else (spec_DiskOk.j0 k true l0_0 l0_1 l0_2))) = some r := by rw [if_pos rfl] at H; exact H
   clear H
   have H := H1
   clear H1
   replace H := Option.bind_eq_some_iff.mp H
   obtain ⟨t103, A60, H⟩ := H
   replace H : (if t103 = true then (spec_DiskOk.j0 k (decide ((l0_2.length : Int) > 200)) l0_0 l0_1 l0_2) else (spec_DiskOk.j0 k true l0_0 l0_1 l0_2)) = some r := H
   have A6 := am A60
   clear A60
   by_cases c7 : t103 = true
   ·
    subst c7
    have H1 : (spec_DiskOk.j0 k (decide ((l0_2.length : Int) > 200)) l0_0 l0_1 l0_2) = some r := by rw [if_pos rfl] at H; exact H
    clear H
    have H := H1
    clear H1
    have H' := am H
    clear H
    have hcz8_0 : _ = some (Value.slice A0_0 l0_0.length c0_0) := bcE BK101.out 0
    have hcz8_1 : _ = some (Value.slice A0_1 l0_1.length c0_1) := bcE BK101.out 1
    have hcz8_2 : _ = some (Value.slice A0_2 l0_2.length c0_2) := bcE BK101.out 2
    have hfz8_0 := qaa BK101.out 0
    have hfz8_1 := qaa BK101.out 1
    have hfz8_2 := qaa BK101.out 2
    go_wp2_with (first | ((with_reducible refine qaj (f := 43) rfl ?_); refine qap (some 9) rfl rfl Try.func43 (by kernel_rfl) rfl #[.slice A0_0 l0_0.length c0_0] rfl au6 ?_; (with_reducible refine (spec_l4Files.calls k _ _ l0_0 true _ ?side1 ?side2 A4.out).mono ?_); (case side1 => exact scE (Kd.C_below HR0_0.out HB.out)); (case side2 => exact HC0_0.out); rintro e w' ⟨rfl, ⟨nd, rfl⟩⟩; refine ⟨_, rfl, ?_⟩) | (go_at_call 43; (with_reducible refine (spec_l4Files.calls k _ _ l0_1 true _ ?side1 ?side2 A6.out).mono ?_); (case side1 => repeat (first | exact (Kd.V_reads' HO0_1.out).2.2 | (with_reducible refine Kd.C_alloc ?_ _) | (with_reducible refine Kd.C_drewN ?_ _) | (with_reducible refine Kd.C_drew ?_))); (case side2 => exact (Kd.V_reads' HO0_1.out).2.1); rintro e w' ⟨rfl, ⟨nd, rfl⟩⟩))
    go_meet
    case rel => exact ⟨_, (decide ((l0_2.length : Int) > 200)), au10, H', ⟨by first | omega | exact Nat.le_refl _⟩, ⟨au2 HO0_1.out⟩, ⟨au1 BK101.out⟩, ⟨(au7 HB.out GE101.out)⟩⟩
   ·
    replace c7 := Bool.eq_false_iff.mpr c7
    subst c7
    have H1 : (spec_DiskOk.j0 k true l0_0 l0_1 l0_2) = some r := by rw [if_neg (show ¬ (false = true) by decide)] at H; exact H
    clear H
    have H := H1
    clear H1
    have H' := am H
    clear H
    have hcz9_0 : _ = some (Value.slice A0_0 l0_0.length c0_0) := bcE BK101.out 0
    have hcz9_1 : _ = some (Value.slice A0_1 l0_1.length c0_1) := bcE BK101.out 1
    have hcz9_2 : _ = some (Value.slice A0_2 l0_2.length c0_2) := bcE BK101.out 2
    have hfz9_0 := qaa BK101.out 0
    have hfz9_1 := qaa BK101.out 1
    have hfz9_2 := qaa BK101.out 2
    go_wp2_with (first | ((with_reducible refine qaj (f := 43) rfl ?_); refine qap (some 9) rfl rfl Try.func43 (by kernel_rfl) rfl #[.slice A0_0 l0_0.length c0_0] rfl au6 ?_; (with_reducible refine (spec_l4Files.calls k _ _ l0_0 true _ ?side1 ?side2 A4.out).mono ?_); (case side1 => exact scE (Kd.C_below HR0_0.out HB.out)); (case side2 => exact HC0_0.out); rintro e w' ⟨rfl, ⟨nd, rfl⟩⟩; refine ⟨_, rfl, ?_⟩) | (go_at_call 43; (with_reducible refine (spec_l4Files.calls k _ _ l0_1 false _ ?side1 ?side2 A6.out).mono ?_); (case side1 => repeat (first | exact (Kd.V_reads' HO0_1.out).2.2 | (with_reducible refine Kd.C_alloc ?_ _) | (with_reducible refine Kd.C_drewN ?_ _) | (with_reducible refine Kd.C_drew ?_))); (case side2 => exact (Kd.V_reads' HO0_1.out).2.1); rintro e w' ⟨rfl, ⟨nd, rfl⟩⟩))
    go_meet
    case rel => exact ⟨_, (true), au10, H', ⟨by first | omega | exact Nat.le_refl _⟩, ⟨au2 HO0_1.out⟩, ⟨au1 BK101.out⟩, ⟨(au7 HB.out GE101.out)⟩⟩
  ·
   replace c5 := Bool.eq_false_iff.mpr c5
   subst c5
   have H1 : (spec_DiskOk.j0 k true l0_0 l0_1 l0_2) = some r := by rw [if_neg (show ¬ (false = true) by decide)] at H; exact H
   clear H
   have H := H1
   clear H1
   have H' := am H
   clear H
   have hcz10_0 : _ = some (Value.slice A0_0 l0_0.length c0_0) := bcE BK101.out 0
   have hcz10_1 : _ = some (Value.slice A0_1 l0_1.length c0_1) := bcE BK101.out 1
   have hcz10_2 : _ = some (Value.slice A0_2 l0_2.length c0_2) := bcE BK101.out 2
   have hfz10_0 := qaa BK101.out 0
   have hfz10_1 := qaa BK101.out 1
   have hfz10_2 := qaa BK101.out 2
   go_wp2_with (first | ((with_reducible refine qaj (f := 43) rfl ?_); refine qap (some 9) rfl rfl Try.func43 (by kernel_rfl) rfl #[.slice A0_0 l0_0.length c0_0] rfl au6 ?_; (with_reducible refine (spec_l4Files.calls k _ _ l0_0 false _ ?side1 ?side2 A4.out).mono ?_); (case side1 => exact scE (Kd.C_below HR0_0.out HB.out)); (case side2 => exact HC0_0.out); rintro e w' ⟨rfl, ⟨nd, rfl⟩⟩; refine ⟨_, rfl, ?_⟩))
   go_meet
   case rel => exact ⟨_, (true), au10, H', ⟨by first | omega | exact Nat.le_refl _⟩, ⟨au2 HO0_1.out⟩, ⟨au1 BK101.out⟩, ⟨(au7 HB.out GE101.out)⟩⟩
 case rest =>
  clear HC2
  obtain ⟨kq, x22_1, rfl, HA, HJ1, HO_102001, BK101, HB⟩ := hcut
  cases kq with
  | zero => exact absurd HA.out (by simp [spec_DiskOk.j0])
  | succ kj1 =>
   have H := HA.out
   clear HA
   simp only [spec_DiskOk.j0] at H
   by_cases c11 : x22_1 = true
   ·
    subst c11
    have H1 : (some false) = some r := by rw [if_pos rfl] at H; exact H
    clear H
    have H := H1
    clear H1
    obtain rfl := Option.some.inj H
    go_wp2
    go_ret
    exact ⟨by first | rfl | (simp [qag, qah] <;> rfl) | (simp [*, qag, qah] <;> rfl), (au7 HB.out GE101.out)⟩
   ·
    replace c11 := Bool.eq_false_iff.mpr c11
    subst c11
    have H1 : (spec_DiskOk.l0 kj1 l0_1 0 l0_0 l0_1 l0_2) = some r := by rw [if_neg (show ¬ (false = true) by decide)] at H; exact H
    clear H
    have H := H1
    clear H1
    have H' := am H
    clear H
    have hcz12_0 : _ = some (Value.slice A0_0 l0_0.length c0_0) := bcE BK101.out 0
    have hcz12_1 : _ = some (Value.slice A0_1 l0_1.length c0_1) := bcE BK101.out 1
    have hcz12_2 : _ = some (Value.slice A0_2 l0_2.length c0_2) := bcE BK101.out 2
    have hfz12_0 := qaa BK101.out 0
    have hfz12_1 := qaa BK101.out 1
    have hfz12_2 := qaa BK101.out 2
    go_wp2
    go_loopg [3, 4] kj1 (fun kq v3 v4 w' => ∃ (x3_2 : List (S80)) (x4_2 : Int), v4 = .int .i64 x4_2 ∧ Aside0 (spec_DiskOk.l0 kq x3_2 x4_2 l0_0 l0_1 l0_2 = some r) ∧ Aside0 (kq ≤ kj1) ∧ Aside0 (Kd.V k80 80 w' w.heap.size (fun k_ => (P0_1_ k_ ∨ w.heap.size ≤ k_) ∧ k_ ≠ gb101) v3 x3_2) ∧ Aside0 (Kd.V k80 80 w' w.heap.size (fun k_ => (P0_1_ k_ ∨ w.heap.size ≤ k_) ∧ k_ ≠ gb101) (.slice A0_1 l0_1.length c0_1) l0_1) ∧ Aside0 (w'.heap[gb101]? = some (.cells #[(.slice A0_0 l0_0.length c0_0), (.slice A0_1 l0_1.length c0_1), (.slice A0_2 l0_2.length c0_2)] 31 (0, 0))) ∧ Aside0 (Below w.heap.size w w'))
    case atStart => exact ⟨(l0_1), (0), au10, H', ⟨Nat.le_refl _⟩, ⟨au2 HO_102001.out⟩, ⟨au2 HO_102001.out⟩, ⟨au1 BK101.out⟩, ⟨(au7 HB.out GE101.out)⟩⟩
    case round =>
     clear H'
     obtain ⟨x3_2, x4_2, rfl, HA, HK2, HO_3, HO_102001, BK101, HB⟩ := hrel
     cases gk with
     | zero => exact absurd HA.out (by simp [spec_DiskOk.l0])
     | succ k2 =>
      have H := HA.out
      clear HA
      simp only [spec_DiskOk.l0] at H
      by_cases c13 : x4_2 < (l0_2.length : Int)
      ·
       rw [if_pos c13] at H
       have c13b0 : decide (x4_2 < (l0_2.length : Int)) = true := decide_eq_true c13
       clear c13
       by_cases c14 : 0 ≤ x4_2
       ·
        rw [if_pos c14] at H
        have c14b0 : decide (0 ≤ x4_2) = true := decide_eq_true c14
        clear c14
        replace H := Option.bind_eq_some_iff.mp H
        obtain ⟨⟨t106, t109⟩, A150, H⟩ := H
        replace H : (if t109 = true then ((spec_l4Form.f k2 ((qae l0_2 x4_2).f0) ((qae l0_2 x4_2).f1) ((qae l0_2 x4_2).f2) ((qae l0_2 x4_2).f3)).bind fun t111 => (if t111 = true then ((spec_l4Files.f k2 t106).bind fun t112 => (if t112 = true then (spec_DiskOk.l0 k2 t106 (wrap64 (x4_2 + 1)) l0_0 l0_1 l0_2) else (some false))) else (some false))) else (some false)) = some r := H
        have A15 := am A150
        clear A150
        by_cases c16 : t109 = true
        ·
         subst c16
         have H1 : ((spec_l4Form.f k2 ((qae l0_2 x4_2).f0) ((qae l0_2 x4_2).f1) ((qae l0_2 x4_2).f2) ((qae l0_2 x4_2).f3)).bind fun t111 => (if t111 = true then ((spec_l4Files.f k2 t106).bind fun t112 => (if t112 = true then (spec_DiskOk.l0 k2 t106 (wrap64 (x4_2 + 1)) l0_0 l0_1 l0_2) else (some false))) else (some false))) = some r := by rw [if_pos rfl] at H; exact H
         clear H
         have H := H1
         clear H1
         replace H := Option.bind_eq_some_iff.mp H
         obtain ⟨t111, A170, H⟩ := H
         replace H : (if t111 = true then ((spec_l4Files.f k2 t106).bind fun t112 => (if t112 = true then (spec_DiskOk.l0 k2 t106 (wrap64 (x4_2 + 1)) l0_0 l0_1 l0_2) else (some false))) else (some false)) = some r := H
         have A17 := am A170
         clear A170
         by_cases c18 : t111 = true
         ·
          subst c18
          have H1 : ((spec_l4Files.f k2 t106).bind fun t112 => (if t112 = true then (spec_DiskOk.l0 k2 t106 (wrap64 (x4_2 + 1)) l0_0 l0_1 l0_2) else (some false))) = some r := by rw [if_pos rfl] at H; exact H
          clear H
          have H := H1
          clear H1
          replace H := Option.bind_eq_some_iff.mp H
          obtain ⟨t112, A190, H⟩ := H
          replace H : (if t112 = true then (spec_DiskOk.l0 k2 t106 (wrap64 (x4_2 + 1)) l0_0 l0_1 l0_2) else (some false)) = some r := H
          have A19 := am A190
          clear A190
          by_cases c20 : t112 = true
          ·
           subst c20
           have H1 : (spec_DiskOk.l0 k2 t106 (wrap64 (x4_2 + 1)) l0_0 l0_1 l0_2) = some r := by rw [if_pos rfl] at H; exact H
           clear H
           have H := H1
           clear H1
           have H' := am H
           clear H
           have hcz21_0 : _ = some (Value.slice A0_0 l0_0.length c0_0) := bcE BK101.out 0
           have hcz21_1 : _ = some (Value.slice A0_1 l0_1.length c0_1) := bcE BK101.out 1
           have hcz21_2 : _ = some (Value.slice A0_2 l0_2.length c0_2) := bcE BK101.out 2
           have hfz21_0 := qaa BK101.out 0
           have hfz21_1 := qaa BK101.out 1
           have hfz21_2 := qaa BK101.out 2
           have p105 : 0 ≤ (x4_2 : Int) := of_decide_eq_true au9
           have q105 : x4_2 < (l0_2.length : Int) := of_decide_eq_true au9
           obtain ⟨ad105, e105, hx105_0, hx105_1, hx105_2, hx105_3⟩ := qcu HR0_2.out x4_2 p105 q105
           cases e105
           replace hx105_0 := qac HB.out hx105_0
           replace hx105_1 := qac HB.out hx105_1
           replace hx105_2 := qac HB.out hx105_2
           replace hx105_3 := qac HB.out hx105_3
           replace p105 := eq_true p105
           replace q105 := eq_true q105
           obtain ⟨Ao22, co22, eo22⟩ := Kd.V_slice HO_3.out
           subst eo22
           go_wp2_with (first | ((with_reducible refine qaj (f := 44) rfl ?_); refine qap (some 39) rfl rfl Try.func44 (by kernel_rfl) rfl #[.slice Ao22 x3_2.length co22, .agg #[.int .i64 ((qae l0_2 x4_2).f0), .string ((qae l0_2 x4_2).f1), .string ((qae l0_2 x4_2).f2), .string ((qae l0_2 x4_2).f3)]] rfl au6 ?_; (with_reducible refine (spec_l4Do.calls k2 _ _ x3_2 ((qae l0_2 x4_2).f0) ((qae l0_2 x4_2).f1) ((qae l0_2 x4_2).f2) ((qae l0_2 x4_2).f3) t106 true _ ?side1 ?side2 A15.out).mono ?_); (case side1 => repeat (first | exact (Kd.V_reads' HO_3.out).2.2 | (with_reducible refine Kd.C_alloc ?_ _) | (with_reducible refine Kd.C_drewN ?_ _) | (with_reducible refine Kd.C_drew ?_))); (case side2 => exact (Kd.V_reads' HO_3.out).2.1); rintro e w23 ⟨v107, rfl, ho0, hb⟩; refine ⟨_, rfl, ?_⟩; replace HO_3 := am (Kd.V_elder' (au2 HO_3.out) (Kd.R_base ho0) hb); replace HO_102001 := am (Kd.V_elder' (au2 HO_102001.out) (Kd.R_base ho0) hb); have HO108 := am (Kd.R_lower (Kd.R_newM (M := fun k_ => (w.heap.size ≤ k_)) ho0 (qaf (au7 HB.out GE101.out)) (fun k_ h_ => h_)) (qaf (au7 HB.out GE101.out))); replace BK101 := am (qab (au1 BK101.out) hb); replace HB := am (qad (au7 HB.out GE101.out) hb); (try clear hb); (try clear hb2); (try clear hk); (try clear hi); (try clear ho0); have hcz24_0 : _ = some (Value.slice A0_0 l0_0.length c0_0) := bcE BK101.out 0; have hcz24_1 : _ = some (Value.slice A0_1 l0_1.length c0_1) := bcE BK101.out 1; have hcz24_2 : _ = some (Value.slice (some ad105) l0_2.length c0_2) := bcE BK101.out 2; have hfz24_0 := qaa BK101.out 0; have hfz24_1 := qaa BK101.out 1; have hfz24_2 := qaa BK101.out 2; have p110 : 0 ≤ (x4_2 : Int) := of_decide_eq_true au9; have q110 : x4_2 < (l0_2.length : Int) := of_decide_eq_true au9; obtain ⟨ad110, e110, hx110_0, hx110_1, hx110_2, hx110_3⟩ := qcu HR0_2.out x4_2 p110 q110; obtain rfl : ad105 = ad110 := (by injection e110); replace hx110_0 := qac HB.out hx110_0; replace hx110_1 := qac HB.out hx110_1; replace hx110_2 := qac HB.out hx110_2; replace hx110_3 := qac HB.out hx110_3; replace p110 := eq_true p110; replace q110 := eq_true q110) | (go_at_call 45; (with_reducible refine (spec_l4Form.calls k2 ((qae l0_2 x4_2).f0) ((qae l0_2 x4_2).f1) ((qae l0_2 x4_2).f2) ((qae l0_2 x4_2).f3) true _ A17.out).mono ?_); rintro e w25 ⟨rfl, hb⟩; have n0_ := am (Kd.V_below (au2 HO_3.out) hb); have n1_ := am (Kd.V_below (au2 HO_102001.out) hb); have n2_ := am (Kd.R_below (au0 HO108.out) hb); have n3_ := am (qab (au1 BK101.out) hb); have n4_ := am (qad (au7 HB.out GE101.out) hb); clear HO_3; clear HO_102001; clear HO108; clear BK101; clear HB; have HO_3 := n0_; have HO_102001 := n1_; have HO108 := n2_; have BK101 := n3_; have HB := n4_; clear n0_ n1_ n2_ n3_ n4_; (try clear hb); (try clear hb2); (try clear hk); (try clear hi); obtain ⟨Ao26, co26, eo26⟩ := Kd.R_slice HO108.out; subst eo26) | (go_at_call 43; (with_reducible refine (spec_l4Files.calls k2 _ _ t106 true _ ?side1 ?side2 A19.out).mono ?_); (case side1 => repeat (first | exact (Kd.R_reads' HO108.out).2.2 | (with_reducible refine Kd.C_alloc ?_ _) | (with_reducible refine Kd.C_drewN ?_ _) | (with_reducible refine Kd.C_drew ?_))); (case side2 => exact (Kd.R_reads' HO108.out).2.1); rintro e w' ⟨rfl, ⟨nd, rfl⟩⟩))
           go_roundg k2
           case measure => have := HJ1.out; have := HK2.out; omega
           case rel => exact ⟨(t106), (wrap64 (x4_2 + 1)), au10, H', ⟨by have := HJ1.out; have := HK2.out; omega⟩, ⟨Kd.V_mono (Kd.R_V (by refine au0 ?_; exact Kd.R_mono (ok' := fun k_ => w.heap.size ≤ k_ ∧ k_ ≠ gb101) (Kd.R_types HO108.out BK101.out (by decide)) (fun _ hk => ⟨hk.1.1, hk.2⟩))) (fun k_ hk => by first | exact ⟨(.inr (hk.1)), hk.2⟩ | exact (.inr (hk)))⟩, ⟨by refine au2 ?_; exact Kd.V_mono HO_102001.out (fun _ hk => ⟨hk.1.1, hk.1.2⟩)⟩, ⟨au1 BK101.out⟩, ⟨(au7 HB.out GE101.out)⟩⟩
          ·
           replace c20 := Bool.eq_false_iff.mpr c20
           subst c20
           have H1 : (some false) = some r := by rw [if_neg (show ¬ (false = true) by decide)] at H; exact H
           clear H
           have H := H1
           clear H1
           obtain rfl := Option.some.inj H
           have hcz27_0 : _ = some (Value.slice A0_0 l0_0.length c0_0) := bcE BK101.out 0
           have hcz27_1 : _ = some (Value.slice A0_1 l0_1.length c0_1) := bcE BK101.out 1
           have hcz27_2 : _ = some (Value.slice A0_2 l0_2.length c0_2) := bcE BK101.out 2
           have hfz27_0 := qaa BK101.out 0
           have hfz27_1 := qaa BK101.out 1
           have hfz27_2 := qaa BK101.out 2
           have p105 : 0 ≤ (x4_2 : Int) := of_decide_eq_true au9
           have q105 : x4_2 < (l0_2.length : Int) := of_decide_eq_true au9
           obtain ⟨ad105, e105, hx105_0, hx105_1, hx105_2, hx105_3⟩ := qcu HR0_2.out x4_2 p105 q105
           cases e105
           replace hx105_0 := qac HB.out hx105_0
           replace hx105_1 := qac HB.out hx105_1
           replace hx105_2 := qac HB.out hx105_2
           replace hx105_3 := qac HB.out hx105_3
           replace p105 := eq_true p105
           replace q105 := eq_true q105
           obtain ⟨Ao28, co28, eo28⟩ := Kd.V_slice HO_3.out
           subst eo28
           go_wp2_with (first | ((with_reducible refine qaj (f := 44) rfl ?_); refine qap (some 39) rfl rfl Try.func44 (by kernel_rfl) rfl #[.slice Ao28 x3_2.length co28, .agg #[.int .i64 ((qae l0_2 x4_2).f0), .string ((qae l0_2 x4_2).f1), .string ((qae l0_2 x4_2).f2), .string ((qae l0_2 x4_2).f3)]] rfl au6 ?_; (with_reducible refine (spec_l4Do.calls k2 _ _ x3_2 ((qae l0_2 x4_2).f0) ((qae l0_2 x4_2).f1) ((qae l0_2 x4_2).f2) ((qae l0_2 x4_2).f3) t106 true _ ?side1 ?side2 A15.out).mono ?_); (case side1 => repeat (first | exact (Kd.V_reads' HO_3.out).2.2 | (with_reducible refine Kd.C_alloc ?_ _) | (with_reducible refine Kd.C_drewN ?_ _) | (with_reducible refine Kd.C_drew ?_))); (case side2 => exact (Kd.V_reads' HO_3.out).2.1); rintro e w29 ⟨v107, rfl, ho0, hb⟩; refine ⟨_, rfl, ?_⟩; replace HO_3 := am (Kd.V_elder' (au2 HO_3.out) (Kd.R_base ho0) hb); replace HO_102001 := am (Kd.V_elder' (au2 HO_102001.out) (Kd.R_base ho0) hb); have HO108 := am (Kd.R_lower (Kd.R_newM (M := fun k_ => (w.heap.size ≤ k_)) ho0 (qaf (au7 HB.out GE101.out)) (fun k_ h_ => h_)) (qaf (au7 HB.out GE101.out))); replace BK101 := am (qab (au1 BK101.out) hb); replace HB := am (qad (au7 HB.out GE101.out) hb); (try clear hb); (try clear hb2); (try clear hk); (try clear hi); (try clear ho0); have hcz30_0 : _ = some (Value.slice A0_0 l0_0.length c0_0) := bcE BK101.out 0; have hcz30_1 : _ = some (Value.slice A0_1 l0_1.length c0_1) := bcE BK101.out 1; have hcz30_2 : _ = some (Value.slice (some ad105) l0_2.length c0_2) := bcE BK101.out 2; have hfz30_0 := qaa BK101.out 0; have hfz30_1 := qaa BK101.out 1; have hfz30_2 := qaa BK101.out 2; have p110 : 0 ≤ (x4_2 : Int) := of_decide_eq_true au9; have q110 : x4_2 < (l0_2.length : Int) := of_decide_eq_true au9; obtain ⟨ad110, e110, hx110_0, hx110_1, hx110_2, hx110_3⟩ := qcu HR0_2.out x4_2 p110 q110; obtain rfl : ad105 = ad110 := (by injection e110); replace hx110_0 := qac HB.out hx110_0; replace hx110_1 := qac HB.out hx110_1; replace hx110_2 := qac HB.out hx110_2; replace hx110_3 := qac HB.out hx110_3; replace p110 := eq_true p110; replace q110 := eq_true q110) | (go_at_call 45; (with_reducible refine (spec_l4Form.calls k2 ((qae l0_2 x4_2).f0) ((qae l0_2 x4_2).f1) ((qae l0_2 x4_2).f2) ((qae l0_2 x4_2).f3) true _ A17.out).mono ?_); rintro e w31 ⟨rfl, hb⟩; have n0_ := am (Kd.V_below (au2 HO_3.out) hb); have n1_ := am (Kd.V_below (au2 HO_102001.out) hb); have n2_ := am (Kd.R_below (au0 HO108.out) hb); have n3_ := am (qab (au1 BK101.out) hb); have n4_ := am (qad (au7 HB.out GE101.out) hb); clear HO_3; clear HO_102001; clear HO108; clear BK101; clear HB; have HO_3 := n0_; have HO_102001 := n1_; have HO108 := n2_; have BK101 := n3_; have HB := n4_; clear n0_ n1_ n2_ n3_ n4_; (try clear hb); (try clear hb2); (try clear hk); (try clear hi); obtain ⟨Ao32, co32, eo32⟩ := Kd.R_slice HO108.out; subst eo32) | (go_at_call 43; (with_reducible refine (spec_l4Files.calls k2 _ _ t106 false _ ?side1 ?side2 A19.out).mono ?_); (case side1 => repeat (first | exact (Kd.R_reads' HO108.out).2.2 | (with_reducible refine Kd.C_alloc ?_ _) | (with_reducible refine Kd.C_drewN ?_ _) | (with_reducible refine Kd.C_drew ?_))); (case side2 => exact (Kd.R_reads' HO108.out).2.1); rintro e w' ⟨rfl, ⟨nd, rfl⟩⟩))
           go_ret
           exact ⟨by first | rfl | (simp [qag, qah] <;> rfl) | (simp [*, qag, qah] <;> rfl), (au7 HB.out GE101.out)⟩
         ·
          replace c18 := Bool.eq_false_iff.mpr c18
          subst c18
          have H1 : (some false) = some r := by rw [if_neg (show ¬ (false = true) by decide)] at H; exact H
          clear H
          have H := H1
          clear H1
          obtain rfl := Option.some.inj H
          have hcz33_0 : _ = some (Value.slice A0_0 l0_0.length c0_0) := bcE BK101.out 0
          have hcz33_1 : _ = some (Value.slice A0_1 l0_1.length c0_1) := bcE BK101.out 1
          have hcz33_2 : _ = some (Value.slice A0_2 l0_2.length c0_2) := bcE BK101.out 2
          have hfz33_0 := qaa BK101.out 0
          have hfz33_1 := qaa BK101.out 1
          have hfz33_2 := qaa BK101.out 2
          have p105 : 0 ≤ (x4_2 : Int) := of_decide_eq_true au9
          have q105 : x4_2 < (l0_2.length : Int) := of_decide_eq_true au9
          obtain ⟨ad105, e105, hx105_0, hx105_1, hx105_2, hx105_3⟩ := qcu HR0_2.out x4_2 p105 q105
          cases e105
          replace hx105_0 := qac HB.out hx105_0
          replace hx105_1 := qac HB.out hx105_1
          replace hx105_2 := qac HB.out hx105_2
          replace hx105_3 := qac HB.out hx105_3
          replace p105 := eq_true p105
          replace q105 := eq_true q105
          obtain ⟨Ao34, co34, eo34⟩ := Kd.V_slice HO_3.out
          subst eo34
          go_wp2_with (first | ((with_reducible refine qaj (f := 44) rfl ?_); refine qap (some 39) rfl rfl Try.func44 (by kernel_rfl) rfl #[.slice Ao34 x3_2.length co34, .agg #[.int .i64 ((qae l0_2 x4_2).f0), .string ((qae l0_2 x4_2).f1), .string ((qae l0_2 x4_2).f2), .string ((qae l0_2 x4_2).f3)]] rfl au6 ?_; (with_reducible refine (spec_l4Do.calls k2 _ _ x3_2 ((qae l0_2 x4_2).f0) ((qae l0_2 x4_2).f1) ((qae l0_2 x4_2).f2) ((qae l0_2 x4_2).f3) t106 true _ ?side1 ?side2 A15.out).mono ?_); (case side1 => repeat (first | exact (Kd.V_reads' HO_3.out).2.2 | (with_reducible refine Kd.C_alloc ?_ _) | (with_reducible refine Kd.C_drewN ?_ _) | (with_reducible refine Kd.C_drew ?_))); (case side2 => exact (Kd.V_reads' HO_3.out).2.1); rintro e w35 ⟨v107, rfl, ho0, hb⟩; refine ⟨_, rfl, ?_⟩; replace HO_3 := am (Kd.V_elder' (au2 HO_3.out) (Kd.R_base ho0) hb); replace HO_102001 := am (Kd.V_elder' (au2 HO_102001.out) (Kd.R_base ho0) hb); have HO108 := am (Kd.R_lower (Kd.R_newM (M := fun k_ => (w.heap.size ≤ k_)) ho0 (qaf (au7 HB.out GE101.out)) (fun k_ h_ => h_)) (qaf (au7 HB.out GE101.out))); replace BK101 := am (qab (au1 BK101.out) hb); replace HB := am (qad (au7 HB.out GE101.out) hb); (try clear hb); (try clear hb2); (try clear hk); (try clear hi); (try clear ho0); have hcz36_0 : _ = some (Value.slice A0_0 l0_0.length c0_0) := bcE BK101.out 0; have hcz36_1 : _ = some (Value.slice A0_1 l0_1.length c0_1) := bcE BK101.out 1; have hcz36_2 : _ = some (Value.slice (some ad105) l0_2.length c0_2) := bcE BK101.out 2; have hfz36_0 := qaa BK101.out 0; have hfz36_1 := qaa BK101.out 1; have hfz36_2 := qaa BK101.out 2; have p110 : 0 ≤ (x4_2 : Int) := of_decide_eq_true au9; have q110 : x4_2 < (l0_2.length : Int) := of_decide_eq_true au9; obtain ⟨ad110, e110, hx110_0, hx110_1, hx110_2, hx110_3⟩ := qcu HR0_2.out x4_2 p110 q110; obtain rfl : ad105 = ad110 := (by injection e110); replace hx110_0 := qac HB.out hx110_0; replace hx110_1 := qac HB.out hx110_1; replace hx110_2 := qac HB.out hx110_2; replace hx110_3 := qac HB.out hx110_3; replace p110 := eq_true p110; replace q110 := eq_true q110) | (go_at_call 45; (with_reducible refine (spec_l4Form.calls k2 ((qae l0_2 x4_2).f0) ((qae l0_2 x4_2).f1) ((qae l0_2 x4_2).f2) ((qae l0_2 x4_2).f3) false _ A17.out).mono ?_); rintro e w37 ⟨rfl, hb⟩; have n0_ := am (Kd.V_below (au2 HO_3.out) hb); have n1_ := am (Kd.V_below (au2 HO_102001.out) hb); have n2_ := am (Kd.R_below (au0 HO108.out) hb); have n3_ := am (qab (au1 BK101.out) hb); have n4_ := am (qad (au7 HB.out GE101.out) hb); clear HO_3; clear HO_102001; clear HO108; clear BK101; clear HB; have HO_3 := n0_; have HO_102001 := n1_; have HO108 := n2_; have BK101 := n3_; have HB := n4_; clear n0_ n1_ n2_ n3_ n4_; (try clear hb); (try clear hb2); (try clear hk); (try clear hi)))
          go_ret
          exact ⟨by first | rfl | (simp [qag, qah] <;> rfl) | (simp [*, qag, qah] <;> rfl), (au7 HB.out GE101.out)⟩
        ·
         replace c16 := Bool.eq_false_iff.mpr c16
         subst c16
         have H1 : (some false) = some r := by rw [if_neg (show ¬ (false = true) by decide)] at H; exact H
         clear H
         have H := H1
         clear H1
         obtain rfl := Option.some.inj H
         have hcz38_0 : _ = some (Value.slice A0_0 l0_0.length c0_0) := bcE BK101.out 0
         have hcz38_1 : _ = some (Value.slice A0_1 l0_1.length c0_1) := bcE BK101.out 1
         have hcz38_2 : _ = some (Value.slice A0_2 l0_2.length c0_2) := bcE BK101.out 2
         have hfz38_0 := qaa BK101.out 0
         have hfz38_1 := qaa BK101.out 1
         have hfz38_2 := qaa BK101.out 2
         have p105 : 0 ≤ (x4_2 : Int) := of_decide_eq_true au9
         have q105 : x4_2 < (l0_2.length : Int) := of_decide_eq_true au9
         obtain ⟨ad105, e105, hx105_0, hx105_1, hx105_2, hx105_3⟩ := qcu HR0_2.out x4_2 p105 q105
         cases e105
         replace hx105_0 := qac HB.out hx105_0
         replace hx105_1 := qac HB.out hx105_1
         replace hx105_2 := qac HB.out hx105_2
         replace hx105_3 := qac HB.out hx105_3
         replace p105 := eq_true p105
         replace q105 := eq_true q105
         obtain ⟨Ao39, co39, eo39⟩ := Kd.V_slice HO_3.out
         subst eo39
         go_wp2_with (first | ((with_reducible refine qaj (f := 44) rfl ?_); refine qap (some 39) rfl rfl Try.func44 (by kernel_rfl) rfl #[.slice Ao39 x3_2.length co39, .agg #[.int .i64 ((qae l0_2 x4_2).f0), .string ((qae l0_2 x4_2).f1), .string ((qae l0_2 x4_2).f2), .string ((qae l0_2 x4_2).f3)]] rfl au6 ?_; (with_reducible refine (spec_l4Do.calls k2 _ _ x3_2 ((qae l0_2 x4_2).f0) ((qae l0_2 x4_2).f1) ((qae l0_2 x4_2).f2) ((qae l0_2 x4_2).f3) t106 false _ ?side1 ?side2 A15.out).mono ?_); (case side1 => repeat (first | exact (Kd.V_reads' HO_3.out).2.2 | (with_reducible refine Kd.C_alloc ?_ _) | (with_reducible refine Kd.C_drewN ?_ _) | (with_reducible refine Kd.C_drew ?_))); (case side2 => exact (Kd.V_reads' HO_3.out).2.1); rintro e w40 ⟨v107, rfl, ho0, hb⟩; refine ⟨_, rfl, ?_⟩; replace HO_3 := am (Kd.V_elder' (au2 HO_3.out) (Kd.R_base ho0) hb); replace HO_102001 := am (Kd.V_elder' (au2 HO_102001.out) (Kd.R_base ho0) hb); have HO108 := am (Kd.R_lower (Kd.R_newM (M := fun k_ => (w.heap.size ≤ k_)) ho0 (qaf (au7 HB.out GE101.out)) (fun k_ h_ => h_)) (qaf (au7 HB.out GE101.out))); replace BK101 := am (qab (au1 BK101.out) hb); replace HB := am (qad (au7 HB.out GE101.out) hb); (try clear hb); (try clear hb2); (try clear hk); (try clear hi); (try clear ho0)))
         go_ret
         exact ⟨by first | rfl | (simp [qag, qah] <;> rfl) | (simp [*, qag, qah] <;> rfl), (au7 HB.out GE101.out)⟩
       ·
        rw [if_neg c14] at H
        exact absurd H (by simp)
      ·
       rw [if_neg c13] at H
       have c13b0 : decide (x4_2 < (l0_2.length : Int)) = false := decide_eq_false c13
       clear c13
       replace H := Option.bind_eq_some_iff.mp H
       obtain ⟨t104, A410, H⟩ := H
       replace H : (some t104) = some r := H
       have A41 := am A410
       clear A410
       obtain rfl := Option.some.inj H
       have hcz42_0 : _ = some (Value.slice A0_0 l0_0.length c0_0) := bcE BK101.out 0
       have hcz42_1 : _ = some (Value.slice A0_1 l0_1.length c0_1) := bcE BK101.out 1
       have hcz42_2 : _ = some (Value.slice A0_2 l0_2.length c0_2) := bcE BK101.out 2
       have hfz42_0 := qaa BK101.out 0
       have hfz42_1 := qaa BK101.out 1
       have hfz42_2 := qaa BK101.out 2
       obtain ⟨Ao43, co43, eo43⟩ := Kd.V_slice HO_3.out
       subst eo43
       go_wp2_with (first | ((with_reducible refine qaj (f := 46) rfl ?_); refine qap (some 62) rfl rfl Try.func46 (by kernel_rfl) rfl #[.slice Ao43 x3_2.length co43, .slice A0_0 l0_0.length c0_0] rfl au6 ?_; (with_reducible refine (spec_l4Same.calls k2 _ _ x3_2 _ _ l0_0 t104 _ ?side1 ?side2 ?side3 ?side4 A41.out).mono ?_); (case side1 => repeat (first | exact (Kd.V_reads' HO_3.out).2.2 | (with_reducible refine Kd.C_alloc ?_ _) | (with_reducible refine Kd.C_drewN ?_ _) | (with_reducible refine Kd.C_drew ?_))); (case side2 => exact (Kd.V_reads' HO_3.out).2.1); (case side3 => exact scE (Kd.C_below HR0_0.out HB.out)); (case side4 => exact HC0_0.out); rintro e w' ⟨rfl, ⟨nd, rfl⟩⟩; refine ⟨_, rfl, ?_⟩))
       go_ret
       exact ⟨by first | rfl | (simp [qag, qah] <;> rfl) | (simp [*, qag, qah] <;> rfl), (au7 HB.out GE101.out)⟩

end

end Go.Proofs.Ytfjoamlgbegpgaa.Q
