/- Part 1 of what the row of FnExactReplace needs: functions of the program as plain Lean functions, their contracts, and lemmas; made by a program of this session out of its texts. -/
import Derived.Test.YtfjoamlgbegpgaaCFnExactReplace0
namespace Go.Proofs.Ytfjoamlgbegpgaa.Q
open Go.RowKit Go.Proofs.YtfjoamlgbegpgaaW.PrintWords Go.Proofs.YtfjoamlgbegpgaaW.PrintLast Go.Proofs.YtfjoamlgbegpgaaW.PrintMore
attribute [local go_sem] max2_int min2_int max_two min_two max_three min_three max_four min_four   -- for this text's walks alone
set_option linter.unusedVariables false
set_option linter.unusedSimpArgs false
section
attribute [local go_sem high] eqA80
def impl_File_90.l0 : Nat → List (S80) → List (S80) → Int → Int → Option (Bool)
 | 0, _, _, _, _ => none
 | k + 1, x0, x1, x12, x13 => if x13 < x12 then (if 0 ≤ x13 then (if x13 < (x0.length : Int) then (if x13 < (x1.length : Int) then (if (!((((qai x0 x13).f0).toList) == (((qai x1 x13).f0).toList)) || (!((((qai x0 x13).f1).toList) == (((qai x1 x13).f1).toList)))) = true then (some false) else (impl_File_90.l0 k x0 x1 x12 (wrap64 (x13 + 1)))) else (none)) else (none)) else (none)) else (some true)
def impl_File_90.f (k : Nat) (l0 : List (S80)) (l1 : List (S80)) : Option (Bool) := if (l0.length : Int) = (l1.length : Int) then (impl_File_90.l0 k l0 l1 (l0.length : Int) 0) else (some false)
theorem impl_File_90.mono_l : ∀ k, (∀ y0 y1 y2 y3, LeO (impl_File_90.l0 k y0 y1 y2 y3) (impl_File_90.l0 (k + 1) y0 y1 y2 y3))
 | 0 => fun _ _ _ _ r h => by simp [impl_File_90.l0] at h
 | k + 1 => by
  have ih0 := impl_File_90.mono_l k
  ·
   intro y0 y1 y2 y3
   unfold impl_File_90.l0
   repeat' first
   | (with_reducible exact ih0 _ _ _ _)
   | (with_reducible exact LeO.refl _)
   | (with_reducible exact LeO.none _)
   | (with_reducible refine LeO.ite ?_ ?_)
   | (with_reducible refine LeO.bind ?_ (fun _ => ?_))
   | exact ih0 _ _ _ _
   | exact LeO.none _
   | refine LeO.ite ?_ ?_
   | refine LeO.bind ?_ (fun _ => ?_)
theorem impl_File_90.mono : ∀ a0 a1 k, LeO (impl_File_90.f k a0 a1) (impl_File_90.f (k + 1) a0 a1) := by
 intro a0 a1 k
 have ih0 := impl_File_90.mono_l k
 unfold impl_File_90.f
 repeat' first
  | (with_reducible exact ih0 _ _ _ _)
  | (with_reducible exact LeO.refl _)
  | (with_reducible exact LeO.none _)
  | (with_reducible refine LeO.ite ?_ ?_)
  | (with_reducible refine LeO.bind ?_ (fun _ => ?_))
  | exact ih0 _ _ _ _
  | exact LeO.none _
  | refine LeO.ite ?_ ?_
  | refine LeO.bind ?_ (fun _ => ?_)
set_option maxHeartbeats 8000000 in
set_option maxRecDepth 100000 in
theorem impl_File_90.calls (k : Nat) (A0 : Option Addr) (c0 : Nat) (l0 : List (S80)) (A1 : Option Addr) (c1 : Nat) (l1 : List (S80)) (r : Bool) (w : World) (hr0 : Kd.C k80 w A0 l0.length l0) (hc0 : l0.length ≤ c0) (hr1 : Kd.C k80 w A1 l1.length l1) (hc1 : l1.length ≤ c1) (h : impl_File_90.f k l0 l1 = some r) :
 Calls Try.prog 90 #[.slice A0 l0.length c0, .slice A1 l1.length c1] w fun e w' => e = .returned (.bool r) ∧ Drawn0 w w' := by
 have hu80 := Try.underlying80
 have HR0 := am hr0
 have HC0 := am hc0
 clear hr0 hc0
 have HR1 := am hr1
 have HC1 := am hc1
 clear hr1 hc1
 have H : (if (l0.length : Int) = (l1.length : Int) then (impl_File_90.l0 k l0 l1 (l0.length : Int) 0) else (some false)) = some r := h
 clear h
 by_cases c3 : (l0.length : Int) = (l1.length : Int)
 ·
  rw [if_pos c3] at H
  have c3b0 : ((l0.length : Int) == (l1.length : Int)) = true := beq_iff_eq.mpr c3
  have c3b1 : ((l0.length : Int) != (l1.length : Int)) = false := bne_eq_false_iff_eq.mpr c3
  have c3b2 : (l0.length == l1.length) = true := by first | simpa using c3 | (simp at c3 ⊢; omega)
  clear c3
  have H' := am H
  clear H
  go_enter Try.func90, Try.ntmps90
  go_wp2
  repeat (go_quiet (fail); try go_wp2)
  go_loopg [13] k (fun kq v13 w' => ∃ (x13_1 : Int), v13 = .int .i64 x13_1 ∧ Aside0 (impl_File_90.l0 kq l0 l1 (l0.length : Int) x13_1 = some r) ∧ Aside0 (kq ≤ k) ∧ Drawn0 w w')
  case atStart => exact ⟨(0), au10, H', ⟨Nat.le_refl _⟩, au8⟩
  case round =>
   clear H'
   obtain ⟨x13_1, rfl, HA, HK1, ⟨m1, rfl⟩⟩ := hrel
   cases gk with
   | zero => exact absurd HA.out (by simp [impl_File_90.l0])
   | succ k1 =>
    have H := HA.out
    clear HA
    simp only [impl_File_90.l0] at H
    by_cases c4 : x13_1 < (l0.length : Int)
    ·
     rw [if_pos c4] at H
     have c4b0 : decide (x13_1 < (l0.length : Int)) = true := decide_eq_true c4
     clear c4
     by_cases c5 : 0 ≤ x13_1
     ·
      rw [if_pos c5] at H
      have c5b0 : decide (0 ≤ x13_1) = true := decide_eq_true c5
      clear c5
      by_cases c6 : x13_1 < (l0.length : Int)
      ·
       rw [if_pos c6] at H
       have c6b0 : decide (x13_1 < (l0.length : Int)) = true := decide_eq_true c6
       clear c6
       by_cases c7 : x13_1 < (l1.length : Int)
       ·
        rw [if_pos c7] at H
        have c7b0 : decide (x13_1 < (l1.length : Int)) = true := decide_eq_true c7
        clear c7
        by_cases c8 : (!((((qai l0 x13_1).f0).toList) == (((qai l1 x13_1).f0).toList)) || (!((((qai l0 x13_1).f1).toList) == (((qai l1 x13_1).f1).toList)))) = true
        ·
         rw [if_pos c8] at H
         have c8b0 : (!((((qai l0 x13_1).f0).toList) == (((qai l1 x13_1).f0).toList)) || (!((((qai l0 x13_1).f1).toList) == (((qai l1 x13_1).f1).toList)))) = true := c8
         clear c8
         obtain rfl := Option.some.inj H
         have p101 : 0 ≤ (x13_1 : Int) := of_decide_eq_true au9
         have q101 : x13_1 < (l0.length : Int) := of_decide_eq_true au9
         obtain ⟨ad101, e101, hx101_0, hx101_1⟩ := qax HR0.out x13_1 p101 q101
         cases e101
         replace p101 := eq_true p101
         replace q101 := eq_true q101
         have p102 : 0 ≤ (x13_1 : Int) := of_decide_eq_true au9
         have q102 : x13_1 < (l1.length : Int) := of_decide_eq_true au9
         obtain ⟨ad102, e102, hx102_0, hx102_1⟩ := qax HR1.out x13_1 p102 q102
         cases e102
         replace p102 := eq_true p102
         replace q102 := eq_true q102
         go_wp2
         repeat (go_quiet (fail); try go_wp2)
         go_ret
         exact ⟨by first | rfl | (simp; done) | (simp [*]; done), au8⟩
        ·
         rw [if_neg c8] at H
         have c8b0 : (!((((qai l0 x13_1).f0).toList) == (((qai l1 x13_1).f0).toList)) || (!((((qai l0 x13_1).f1).toList) == (((qai l1 x13_1).f1).toList)))) = false := by simpa using c8
         clear c8
         have H' := am H
         clear H
         have p101 : 0 ≤ (x13_1 : Int) := of_decide_eq_true au9
         have q101 : x13_1 < (l0.length : Int) := of_decide_eq_true au9
         obtain ⟨ad101, e101, hx101_0, hx101_1⟩ := qax HR0.out x13_1 p101 q101
         cases e101
         replace p101 := eq_true p101
         replace q101 := eq_true q101
         have p102 : 0 ≤ (x13_1 : Int) := of_decide_eq_true au9
         have q102 : x13_1 < (l1.length : Int) := of_decide_eq_true au9
         obtain ⟨ad102, e102, hx102_0, hx102_1⟩ := qax HR1.out x13_1 p102 q102
         cases e102
         replace p102 := eq_true p102
         replace q102 := eq_true q102
         go_wp2
         repeat (go_quiet (fail); try go_wp2)
         go_roundg k1
         case measure => have := HK1.out; omega
         case rel => exact ⟨(wrap64 (x13_1 + 1)), au10, H', ⟨by have := HK1.out; omega⟩, au8⟩
       ·
        rw [if_neg c7] at H
        exact absurd H (by simp)
      ·
       rw [if_neg c6] at H
       exact absurd H (by simp)
     ·
      rw [if_neg c5] at H
      exact absurd H (by simp)
    ·
     rw [if_neg c4] at H
     have c4b0 : decide (x13_1 < (l0.length : Int)) = false := decide_eq_false c4
     clear c4
     obtain rfl := Option.some.inj H
     go_wp2
     repeat (go_quiet (fail); try go_wp2)
     go_ret
     exact ⟨by first | rfl | (simp; done) | (simp [*]; done), au8⟩
 ·
  rw [if_neg c3] at H
  have c3b0 : ((l0.length : Int) == (l1.length : Int)) = false := beq_eq_false_iff_ne.mpr c3
  have c3b1 : ((l0.length : Int) != (l1.length : Int)) = true := bne_iff_ne.mpr c3
  have c3b2 : (l0.length == l1.length) = false := by first | simpa using c3 | (simp at c3 ⊢; omega)
  obtain rfl := Option.some.inj H
  go_enter Try.func90, Try.ntmps90
  go_wp2
  repeat (go_quiet (fail); try go_wp2)
  go_ret
  exact ⟨by first | rfl | (simp; done) | (simp [*]; done), au8⟩

end

section
theorem Ev.ret {α : Type} (r : α) : Ev (fun _ => some r) r := ⟨0, fun _ _ => rfl⟩
theorem Ev.ret' {α : Type} {r r' : α} (h : r' = r) : Ev (fun _ => some r') r := by
 rw [h]
 exact Ev.ret r
theorem Ev.pos {α : Type} {c : Prop} [Decidable c] {g f : Nat → Option α} {r : α} (h : c) (e : Ev g r) : Ev (fun k => if c then g k else f k) r := by
 obtain ⟨K, e⟩ := e
 exact ⟨K, fun k hk => by simp only [if_pos h]; exact e k hk⟩
theorem Ev.neg {α : Type} {c : Prop} [Decidable c] {g f : Nat → Option α} {r : α} (h : ¬ c) (e : Ev f r) : Ev (fun k => if c then g k else f k) r := by
 obtain ⟨K, e⟩ := e
 exact ⟨K, fun k hk => by simp only [if_neg h]; exact e k hk⟩
theorem Ev.ite {α : Type} {c : Prop} [Decidable c] {g f : Nat → Option α} {r : α} (h1 : c → Ev g r) (h2 : ¬ c → Ev f r) : Ev (fun k => if c then g k else f k) r := by
 by_cases h : c
 · exact Ev.pos h (h1 h)
 · exact Ev.neg h (h2 h)
theorem Ev.bindS {α β : Type} {x : Option α} {f : Nat → α → Option β} {a : α} {r : β} (h : x = some a) (k : Ev (fun n => f n a) r) : Ev (fun n => x.bind (f n)) r := by
 obtain ⟨K, k⟩ := k
 exact ⟨K, fun n hn => by rw [h]; exact k n hn⟩
theorem Ev.eq {α : Type} {g : Nat → Option α} {r r' : α} (e : Ev g r') (h : r' = r) : Ev g r := by
 rw [← h]
 exact e
theorem Ev.val {α : Type} {g : Nat → Option α} {r : α} (e : Ev g r) : ∃ k, g k = some r := Ev.rounds e
theorem qba {x : Int} (h1 : -9223372036854775808 ≤ x) (h2 : x ≤ 9223372036854775807) : wrap64 x = x := by
 unfold wrap64
 omega

end

section
def spec_l4At.l0 : Nat → List (S80) → ByteArray → Int → Option (Int)
 | 0, _, _, _ => none
 | k + 1, x0, x1, x5 => if x5 < (x0.length : Int) then (if 0 ≤ x5 then (if ((qai x0 x5).f0).toList = x1.toList then (some x5) else (spec_l4At.l0 k x0 x1 (wrap64 (x5 + 1)))) else (none)) else (some (-1))
def spec_l4At.f (k : Nat) (l0 : List (S80)) (a1 : ByteArray) : Option (Int) := spec_l4At.l0 k l0 a1 0
theorem spec_l4At.mono_l : ∀ k, (∀ y0 y1 y2, LeO (spec_l4At.l0 k y0 y1 y2) (spec_l4At.l0 (k + 1) y0 y1 y2))
 | 0 => fun _ _ _ r h => by simp [spec_l4At.l0] at h
 | k + 1 => by
  have ih0 := spec_l4At.mono_l k
  ·
   intro y0 y1 y2
   unfold spec_l4At.l0
   repeat' first
   | (with_reducible exact ih0 _ _ _)
   | (with_reducible exact LeO.refl _)
   | (with_reducible exact LeO.none _)
   | (with_reducible refine LeO.ite ?_ ?_)
   | (with_reducible refine LeO.bind ?_ (fun _ => ?_))
   | exact ih0 _ _ _
   | exact LeO.none _
   | refine LeO.ite ?_ ?_
   | refine LeO.bind ?_ (fun _ => ?_)
theorem spec_l4At.mono : ∀ a0 a1 k, LeO (spec_l4At.f k a0 a1) (spec_l4At.f (k + 1) a0 a1) := by
 intro a0 a1 k
 have ih0 := spec_l4At.mono_l k
 unfold spec_l4At.f
 repeat' first
  | (with_reducible exact ih0 _ _ _)
  | (with_reducible exact LeO.refl _)
  | (with_reducible exact LeO.none _)
  | (with_reducible refine LeO.ite ?_ ?_)
  | (with_reducible refine LeO.bind ?_ (fun _ => ?_))
  | exact ih0 _ _ _
  | exact LeO.none _
  | refine LeO.ite ?_ ?_
  | refine LeO.bind ?_ (fun _ => ?_)
set_option maxHeartbeats 8000000 in
set_option maxRecDepth 100000 in
theorem spec_l4At.calls (k : Nat) (A0 : Option Addr) (c0 : Nat) (l0 : List (S80)) (a1 : ByteArray) (r : Int) (w : World) (hr0 : Kd.C k80 w A0 l0.length l0) (hc0 : l0.length ≤ c0) (h : spec_l4At.f k l0 a1 = some r) :
 Calls Try.prog 52 #[.slice A0 l0.length c0, .string a1] w fun e w' => e = .returned (.int .i64 r) ∧ Drawn0 w w' := by
 have HR0 := am hr0
 have HC0 := am hc0
 clear hr0 hc0
 have H : (spec_l4At.l0 k l0 a1 0) = some r := h
 clear h
 have H' := am H
 clear H
 go_enter Try.func52, Try.ntmps52
 go_wp2
 go_loopg [5] k (fun kq v5 w' => ∃ (x5_1 : Int), v5 = .int .i64 x5_1 ∧ Aside0 (spec_l4At.l0 kq l0 a1 x5_1 = some r) ∧ Aside0 (kq ≤ k) ∧ Drawn0 w w')
 case atStart => exact ⟨(0), au10, H', ⟨Nat.le_refl _⟩, au8⟩
 case round =>
  clear H'
  obtain ⟨x5_1, rfl, HA, HK1, ⟨m1, rfl⟩⟩ := hrel
  cases gk with
  | zero => exact absurd HA.out (by simp [spec_l4At.l0])
  | succ k1 =>
   have H := HA.out
   clear HA
   simp only [spec_l4At.l0] at H
   by_cases c3 : x5_1 < (l0.length : Int)
   ·
    rw [if_pos c3] at H
    have c3b0 : decide (x5_1 < (l0.length : Int)) = true := decide_eq_true c3
    clear c3
    by_cases c4 : 0 ≤ x5_1
    ·
     rw [if_pos c4] at H
     have c4b0 : decide (0 ≤ x5_1) = true := decide_eq_true c4
     clear c4
     by_cases c5 : ((qai l0 x5_1).f0).toList = a1.toList
     ·
      rw [if_pos c5] at H
      have c5b0 : (((qai l0 x5_1).f0).toList == a1.toList) = true := beq_iff_eq.mpr c5
      have c5b1 : (((qai l0 x5_1).f0).toList != a1.toList) = false := bne_eq_false_iff_eq.mpr c5
      clear c5
      obtain rfl := Option.some.inj H
      have p101 : 0 ≤ (x5_1 : Int) := of_decide_eq_true au9
      have q101 : x5_1 < (l0.length : Int) := of_decide_eq_true au9
      obtain ⟨ad101, e101, hx101_0, hx101_1⟩ := qax HR0.out x5_1 p101 q101
      cases e101
      replace p101 := eq_true p101
      replace q101 := eq_true q101
      go_wp2
      go_ret
      exact ⟨by first | rfl | (simp; done) | (simp [*]; done), au8⟩
     ·
      rw [if_neg c5] at H
      have c5b0 : (((qai l0 x5_1).f0).toList == a1.toList) = false := beq_eq_false_iff_ne.mpr c5
      have c5b1 : (((qai l0 x5_1).f0).toList != a1.toList) = true := bne_iff_ne.mpr c5
      have H' := am H
      clear H
      have p101 : 0 ≤ (x5_1 : Int) := of_decide_eq_true au9
      have q101 : x5_1 < (l0.length : Int) := of_decide_eq_true au9
      obtain ⟨ad101, e101, hx101_0, hx101_1⟩ := qax HR0.out x5_1 p101 q101
      cases e101
      replace p101 := eq_true p101
      replace q101 := eq_true q101
      go_wp2
      go_roundg k1
      case measure => have := HK1.out; omega
      case rel => exact ⟨(wrap64 (x5_1 + 1)), au10, H', ⟨by have := HK1.out; omega⟩, au8⟩
    ·
     rw [if_neg c4] at H
     exact absurd H (by simp)
   ·
    rw [if_neg c3] at H
    have c3b0 : decide (x5_1 < (l0.length : Int)) = false := decide_eq_false c3
    clear c3
    obtain rfl := Option.some.inj H
    go_wp2
    go_ret
    exact ⟨by first | rfl | (simp; done) | (simp [*]; done), au8⟩

end

section
def spec_l4Cut.l0 : Nat → List (S80) → ByteArray → List (S80) → Int → Option ((List (S80)))
 | 0, _, _, _, _ => none
 | k + 1, x0, x1, x5, x6 => if x6 < (x0.length : Int) then (if 0 ≤ x6 then (if ((qai x0 x6).f0).toList = x1.toList then (spec_l4Cut.l0 k x0 x1 x5 (wrap64 (x6 + 1))) else (if x5.length < 4398046511104 then (spec_l4Cut.l0 k x0 x1 (x5 ++ [(⟨(qai x0 x6).f0, (qai x0 x6).f1⟩ : S80)]) (wrap64 (x6 + 1))) else (none))) else (none)) else (some x5)
def spec_l4Cut.f (k : Nat) (l0 : List (S80)) (a1 : ByteArray) : Option ((List (S80))) := spec_l4Cut.l0 k l0 a1 (([] : List (S80))) 0
theorem spec_l4Cut.mono_l : ∀ k, (∀ y0 y1 y2 y3, LeO (spec_l4Cut.l0 k y0 y1 y2 y3) (spec_l4Cut.l0 (k + 1) y0 y1 y2 y3))
 | 0 => fun _ _ _ _ r h => by simp [spec_l4Cut.l0] at h
 | k + 1 => by
  have ih0 := spec_l4Cut.mono_l k
  ·
   intro y0 y1 y2 y3
   unfold spec_l4Cut.l0
   repeat' first
   | (with_reducible exact ih0 _ _ _ _)
   | (with_reducible exact LeO.refl _)
   | (with_reducible exact LeO.none _)
   | (with_reducible refine LeO.ite ?_ ?_)
   | (with_reducible refine LeO.bind ?_ (fun _ => ?_))
   | exact ih0 _ _ _ _
   | exact LeO.none _
   | refine LeO.ite ?_ ?_
   | refine LeO.bind ?_ (fun _ => ?_)
theorem spec_l4Cut.mono : ∀ a0 a1 k, LeO (spec_l4Cut.f k a0 a1) (spec_l4Cut.f (k + 1) a0 a1) := by
 intro a0 a1 k
 have ih0 := spec_l4Cut.mono_l k
 unfold spec_l4Cut.f
 repeat' first
  | (with_reducible exact ih0 _ _ _ _)
  | (with_reducible exact LeO.refl _)
  | (with_reducible exact LeO.none _)
  | (with_reducible refine LeO.ite ?_ ?_)
  | (with_reducible refine LeO.bind ?_ (fun _ => ?_))
  | exact ih0 _ _ _ _
  | exact LeO.none _
  | refine LeO.ite ?_ ?_
  | refine LeO.bind ?_ (fun _ => ?_)
set_option maxHeartbeats 8000000 in
set_option maxRecDepth 100000 in
theorem spec_l4Cut.calls (k : Nat) (A0 : Option Addr) (c0 : Nat) (l0 : List (S80)) (a1 : ByteArray) (r : List (S80)) (w : World) (hr0 : Kd.C k80 w A0 l0.length l0) (hc0 : l0.length ≤ c0) (h : spec_l4Cut.f k l0 a1 = some r) :
 Calls Try.prog 86 #[.slice A0 l0.length c0, .string a1] w fun e w' => ∃ v0_ : Value, e = .returned (v0_) ∧ Kd.R k80 80 w' w.heap.size (fun _ => True) v0_ r ∧ Below w.heap.size w w' := by
 have hu80 := Try.underlying80
 have HR0 := am hr0
 have HC0 := am hc0
 clear hr0 hc0
 have HB := am (Below.refl w.heap.size w)
 have H : (spec_l4Cut.l0 k l0 a1 (([] : List (S80))) 0) = some r := h
 clear h
 obtain ⟨y101, hy101⟩ : ∃ y_ : List (S80), y_ = (([] : List (S80))) := ⟨_, rfl⟩
 replace H : (spec_l4Cut.l0 k l0 a1 y101 0) = some r := by first | (rw [hy101]; with_reducible exact H) | (have H2_ := (Option.bind_some _ _).symm.trans H; rw [hy101]; with_reducible exact H2_) | (have H2_ := (Option.bind_some _ _).symm.trans H; with_reducible exact H2_) | with_reducible exact H | (rw [hy101]; exact H) | exact H
 have Ny101 := am hy101
 clear hy101
 have H' := am H
 clear H
 go_enter Try.func86, Try.ntmps86
 go_wp2_with (first | ((with_reducible refine qal (N := 7) rfl ?_); refine Kd.R_lit k80 _ 80 ?hg (N := 7) ?hd (xs := ([] : List (S80))) (inner := []) (ok := fun _ => True) (okp := fun _ => True) ?hr ?hp (fun _ hk => hk) trivial (Below.refl _ _) (Nat.le_refl _) (by simp) ?_; (case hd => rfl); (case hg => rfl); (case hr => first | (go_simp; done) | (go_simp; rfl)); (case hp => exact (Reps.none _ _)); intro v102 w3 ho4 hb hg_ hnew_; clear hg_ hnew_; (first | rw [← Ny101.out] at ho4 | (simp only [Int.reduceToNat] at ho4; rw [← Ny101.out] at ho4)); have HO103 := am (Kd.R_lower ho4 (qaf (au3 HB.out))); replace HB := am (qad (au3 HB.out) hb); clear hb ho4))
 go_loopg [5, 6] k (fun kq v5 v6 w' => ∃ (x5_1 : List (S80)) (x6_1 : Int), v6 = .int .i64 x6_1 ∧ Aside0 (spec_l4Cut.l0 kq l0 a1 x5_1 x6_1 = some r) ∧ Aside0 (kq ≤ k) ∧ Aside0 (Kd.R k80 80 w' w.heap.size (fun _ => True) v5 x5_1) ∧ Aside0 (Below w.heap.size w w'))
 case atStart => exact ⟨(y101), (0), au10, H', ⟨Nat.le_refl _⟩, ⟨au0 HO103.out⟩, ⟨(au3 HB.out)⟩⟩
 case round =>
  clear H'
  obtain ⟨x5_1, x6_1, rfl, HA, HK1, HO_5, HB⟩ := hrel
  cases gk with
  | zero => exact absurd HA.out (by simp [spec_l4Cut.l0])
  | succ k1 =>
   have H := HA.out
   clear HA
   simp only [spec_l4Cut.l0] at H
   by_cases c5 : x6_1 < (l0.length : Int)
   ·
    rw [if_pos c5] at H
    have c5b0 : decide (x6_1 < (l0.length : Int)) = true := decide_eq_true c5
    clear c5
    by_cases c6 : 0 ≤ x6_1
    ·
     rw [if_pos c6] at H
     have c6b0 : decide (0 ≤ x6_1) = true := decide_eq_true c6
     clear c6
     by_cases c7 : ((qai l0 x6_1).f0).toList = a1.toList
     ·
      rw [if_pos c7] at H
      have c7b0 : (((qai l0 x6_1).f0).toList == a1.toList) = true := beq_iff_eq.mpr c7
      have c7b1 : (((qai l0 x6_1).f0).toList != a1.toList) = false := bne_eq_false_iff_eq.mpr c7
      clear c7
      have H' := am H
      clear H
      have p104 : 0 ≤ (x6_1 : Int) := of_decide_eq_true au9
      have q104 : x6_1 < (l0.length : Int) := of_decide_eq_true au9
      obtain ⟨ad104, e104, hx104_0, hx104_1⟩ := qax HR0.out x6_1 p104 q104
      cases e104
      replace hx104_0 := qac HB.out hx104_0
      replace hx104_1 := qac HB.out hx104_1
      replace p104 := eq_true p104
      replace q104 := eq_true q104
      go_wp2
      go_roundg k1
      case measure => have := HK1.out; omega
      case rel => exact ⟨(x5_1), (wrap64 (x6_1 + 1)), au10, H', ⟨by have := HK1.out; omega⟩, ⟨au0 HO_5.out⟩, ⟨(au3 HB.out)⟩⟩
     ·
      rw [if_neg c7] at H
      have c7b0 : (((qai l0 x6_1).f0).toList == a1.toList) = false := beq_eq_false_iff_ne.mpr c7
      have c7b1 : (((qai l0 x6_1).f0).toList != a1.toList) = true := bne_iff_ne.mpr c7
      by_cases c8 : x5_1.length < 4398046511104
      ·
       rw [if_pos c8] at H
       have LMc8 := am c8
       clear c8
       obtain ⟨y106, hy106⟩ : ∃ y_ : List (S80), y_ = (x5_1 ++ [(⟨(qai l0 x6_1).f0, (qai l0 x6_1).f1⟩ : S80)]) := ⟨_, rfl⟩
       replace H : (spec_l4Cut.l0 k1 l0 a1 y106 (wrap64 (x6_1 + 1))) = some r := by first | (rw [hy106]; with_reducible exact H) | (have H2_ := (Option.bind_some _ _).symm.trans H; rw [hy106]; with_reducible exact H2_) | (have H2_ := (Option.bind_some _ _).symm.trans H; with_reducible exact H2_) | with_reducible exact H | (rw [hy106]; exact H) | exact H
       have Ny106 := am hy106
       clear hy106
       have H' := am H
       clear H
       have p104 : 0 ≤ (x6_1 : Int) := of_decide_eq_true au9
       have q104 : x6_1 < (l0.length : Int) := of_decide_eq_true au9
       obtain ⟨ad104, e104, hx104_0, hx104_1⟩ := qax HR0.out x6_1 p104 q104
       cases e104
       replace hx104_0 := qac HB.out hx104_0
       replace hx104_1 := qac HB.out hx104_1
       replace p104 := eq_true p104
       replace q104 := eq_true q104
       have p105 : 0 ≤ (x6_1 : Int) := of_decide_eq_true au9
       have q105 : x6_1 < (l0.length : Int) := of_decide_eq_true au9
       obtain ⟨ad105, e105, hx105_0, hx105_1⟩ := qax HR0.out x6_1 p105 q105
       obtain rfl : ad104 = ad105 := (by injection e105)
       replace hx105_0 := qac HB.out hx105_0
       replace hx105_1 := qac HB.out hx105_1
       replace p105 := eq_true p105
       replace q105 := eq_true q105
       go_wp2_with (first | ((with_reducible refine qbf (b := .append) (xs := #[.tmp 21, .tmp 26]) rfl ?_); at_builtin; refine Kd.R_append k80 (w0 := w) w.heap.size rfl (.tmp 21) (.tmp 26) 28 80 (.agg #[(.string ⟨#[]⟩), (.string ⟨#[]⟩)]) 32 rfl Try.underlying28 qch rfl (by decide) (by omega) u5 x5_1 (⟨(qai l0 x6_1).f0, (qai l0 x6_1).f1⟩ : S80) [.string ((qai l0 x6_1).f0), .string ((qai l0 x6_1).f1)] (fun _ => True) (fun _ => False) rfl rfl ?aP (fun _ hk => hk.elim) ?aF ?aO ?aB ?aS ?aL ?_; (case aP => exact qcs _ _ _ (⟨(qai l0 x6_1).f0, (qai l0 x6_1).f1⟩ : S80)); (case aB => exact (au3 HB.out)); (case aF => exact (fun _ _ => trivial)); (case aO => exact (au0 HO_5.out)); (case aS => exact (qaf (au3 HB.out))); (case aL => have := LMc8.out; omega); intro v107 w9 ho hb hg hat; rw [← Ny106.out] at ho; replace HB := am (hb); have HO108 := am (ho); clear HO_5; clear ho hb hg hat))
       go_roundg k1
       case measure => have := HK1.out; omega
       case rel => exact ⟨(y106), (wrap64 (x6_1 + 1)), au10, H', ⟨by have := HK1.out; omega⟩, ⟨au0 HO108.out⟩, ⟨(au3 HB.out)⟩⟩
      ·
       rw [if_neg c8] at H
       exact absurd H (by simp)
    ·
     rw [if_neg c6] at H
     exact absurd H (by simp)
   ·
    rw [if_neg c5] at H
    have c5b0 : decide (x6_1 < (l0.length : Int)) = false := decide_eq_false c5
    clear c5
    obtain rfl := Option.some.inj H
    go_wp2
    go_ret
    exact ⟨_, by first | rfl | (simp [qag, qah] <;> rfl) | (simp [*, qag, qah] <;> rfl), au0 HO_5.out, (au3 HB.out)⟩

end

section
def spec_l1In.f (a0 : Int) (a1 : Int) (a2 : Int) : Option (Bool) := if a0 ≥ a1 then (some (decide (a0 ≤ a2))) else (some false)
set_option maxHeartbeats 8000000 in
set_option maxRecDepth 100000 in
theorem spec_l1In.calls (a0 : Int) (a1 : Int) (a2 : Int) (r : Bool) (w : World) (h : spec_l1In.f a0 a1 a2 = some r) :
 Calls Try.prog 58 #[.int .i64 a0, .int .i64 a1, .int .i64 a2] w fun e w' => e = .returned (.bool r) ∧ Drawn0 w w' := by
 have H : (if a0 ≥ a1 then (some (decide (a0 ≤ a2))) else (some false)) = some r := h
 clear h
 by_cases c4 : a0 ≥ a1
 ·
  rw [if_pos c4] at H
  have c4b0 : decide (a1 ≤ a0) = true := decide_eq_true c4
  clear c4
  obtain rfl := Option.some.inj H
  go_enter Try.func58, Try.ntmps58
  go_wp2
  go_ret
  exact ⟨by first | rfl | (simp; done) | (simp [*]; done), au8⟩
 ·
  rw [if_neg c4] at H
  have c4b0 : decide (a1 ≤ a0) = false := decide_eq_false c4
  clear c4
  obtain rfl := Option.some.inj H
  go_enter Try.func58, Try.ntmps58
  go_wp2
  go_ret
  exact ⟨by first | rfl | (simp; done) | (simp [*]; done), au8⟩

end

section
def spec_l4Name.f (a0 : ByteArray) : Option (Bool) := if (a0.size : Int) ≥ 1 then (some (decide ((a0.size : Int) ≤ 100))) else (some false)
set_option maxHeartbeats 8000000 in
set_option maxRecDepth 100000 in
theorem spec_l4Name.calls (a0 : ByteArray) (r : Bool) (w : World) (h : spec_l4Name.f a0 = some r) :
 Calls Try.prog 84 #[.string a0] w fun e w' => e = .returned (.bool r) ∧ Drawn0 w w' := by
 have H : (if (a0.size : Int) ≥ 1 then (some (decide ((a0.size : Int) ≤ 100))) else (some false)) = some r := h
 clear h
 by_cases c2 : (a0.size : Int) ≥ 1
 ·
  rw [if_pos c2] at H
  have c2b0 : decide (1 ≤ (a0.size : Int)) = true := decide_eq_true c2
  have c2b1 : decide (1 ≤ a0.size) = true := decide_eq_true (by omega)
  clear c2
  obtain rfl := Option.some.inj H
  go_enter Try.func84, Try.ntmps84
  go_wp2
  go_ret
  exact ⟨by first | rfl | (simp; done) | (simp [*]; done), au8⟩
 ·
  rw [if_neg c2] at H
  have c2b0 : decide (1 ≤ (a0.size : Int)) = false := decide_eq_false c2
  have c2b1 : decide (1 ≤ a0.size) = false := decide_eq_false (by omega)
  clear c2
  obtain rfl := Option.some.inj H
  go_enter Try.func84, Try.ntmps84
  go_wp2
  go_ret
  exact ⟨by first | rfl | (simp; done) | (simp [*]; done), au8⟩

end

section
def spec_l4Form.j0 : Nat → Bool → Int → ByteArray → ByteArray → ByteArray → Option (Bool)
 | 0, _, _, _, _, _ => none
 | k + 1, x12, x102000, x102001, x102002, x102003 => if x12 = true then (some false) else (if x102000 = 2 then ((spec_l4Name.f x102002).bind fun t104 => (if t104 = true then (some (x102003.toList == ([] : List UInt8))) else (some false))) else (if x102002.toList = ([] : List UInt8) then (if x102000 = 1 then (some true) else (some (x102003.toList == ([] : List UInt8)))) else (some false)))
def spec_l4Form.f (k : Nat) (a0_0 : Int) (a0_1 : ByteArray) (a0_2 : ByteArray) (a0_3 : ByteArray) : Option (Bool) := (spec_l1In.f a0_0 1 3).bind fun t102 => (if t102 = true then ((spec_l4Name.f a0_1).bind fun t103 => (spec_l4Form.j0 k (!t103) a0_0 a0_1 a0_2 a0_3)) else (spec_l4Form.j0 k true a0_0 a0_1 a0_2 a0_3))
theorem spec_l4Form.mono_l : ∀ k, (∀ y0 y1 y2 y3 y4, LeO (spec_l4Form.j0 k y0 y1 y2 y3 y4) (spec_l4Form.j0 (k + 1) y0 y1 y2 y3 y4))
 | 0 => fun _ _ _ _ _ r h => by simp [spec_l4Form.j0] at h
 | k + 1 => by
  have ih0 := spec_l4Form.mono_l k
  ·
   intro y0 y1 y2 y3 y4
   unfold spec_l4Form.j0
   repeat' first
   | (with_reducible exact ih0 _ _ _ _ _)
   | (with_reducible exact LeO.refl _)
   | (with_reducible exact LeO.none _)
   | (with_reducible refine LeO.ite ?_ ?_)
   | (with_reducible refine LeO.bind ?_ (fun _ => ?_))
   | exact ih0 _ _ _ _ _
   | exact LeO.none _
   | refine LeO.ite ?_ ?_
   | refine LeO.bind ?_ (fun _ => ?_)
theorem spec_l4Form.mono : ∀ a0 a1 a2 a3 k, LeO (spec_l4Form.f k a0 a1 a2 a3) (spec_l4Form.f (k + 1) a0 a1 a2 a3) := by
 intro a0 a1 a2 a3 k
 have ih0 := spec_l4Form.mono_l k
 unfold spec_l4Form.f
 repeat' first
  | (with_reducible exact ih0 _ _ _ _ _)
  | (with_reducible exact LeO.refl _)
  | (with_reducible exact LeO.none _)
  | (with_reducible refine LeO.ite ?_ ?_)
  | (with_reducible refine LeO.bind ?_ (fun _ => ?_))
  | exact ih0 _ _ _ _ _
  | exact LeO.none _
  | refine LeO.ite ?_ ?_
  | refine LeO.bind ?_ (fun _ => ?_)
set_option maxHeartbeats 8000000 in
set_option maxRecDepth 100000 in
theorem spec_l4Form.calls (k : Nat) (a0_0 : Int) (a0_1 : ByteArray) (a0_2 : ByteArray) (a0_3 : ByteArray) (r : Bool) (w : World) (h : spec_l4Form.f k a0_0 a0_1 a0_2 a0_3 = some r) :
 Calls Try.prog 45 #[.agg #[.int .i64 a0_0, .string a0_1, .string a0_2, .string a0_3]] w fun e w' => e = .returned (.bool r) ∧ Below w.heap.size w w' := by
 have hu73 := Try.underlying73
 have HB := am (Below.refl w.heap.size w)
 have H : ((spec_l1In.f a0_0 1 3).bind fun t102 => (if t102 = true then ((spec_l4Name.f a0_1).bind fun t103 => (spec_l4Form.j0 k (!t103) a0_0 a0_1 a0_2 a0_3)) else (spec_l4Form.j0 k true a0_0 a0_1 a0_2 a0_3))) = some r := h
 clear h
 have HC2 := am H
 clear H
 go_enter Try.func45, Try.ntmps45
 go_upto_region 1 with (first | ((with_reducible refine qal (N := 1) rfl ?_); refine bxE (N := 1) (cs := #[.int .i64 a0_0, .string a0_1, .string a0_2, .string a0_3]) (t := 73) ?_; intro gb101 hg w3 hbox hb; have BK101 := am (hbox); have GW101 := am (sgE hg (au3 HB.out) : w.heap.size ≤ gb101); have GE101 := GW101; replace HB := am (qad (au3 HB.out) hb); clear hb hbox hg))
 (try simp only [Act.put, qsA, qsZ, qsS])
 go_cut [12] (fun v12 wc => ∃ (kq : Nat) (x12_1 : Bool), v12 = .bool x12_1 ∧ Aside0 (spec_l4Form.j0 kq x12_1 a0_0 a0_1 a0_2 a0_3 = some r) ∧ Aside0 (kq ≤ k) ∧ Aside0 (wc.heap[gb101]? = some (.cells #[.int .i64 a0_0, .string a0_1, .string a0_2, .string a0_3] 73 (0, 0))) ∧ Aside0 (Below w.heap.size w wc))
 case first =>
  have H := HC2.out
  clear HC2
  replace H := Option.bind_eq_some_iff.mp H
  obtain ⟨t102, A40, H⟩ := H
  replace H : (if t102 = true then ((spec_l4Name.f a0_1).bind fun t103 => (spec_l4Form.j0 k (!t103) a0_0 a0_1 a0_2 a0_3)) else (spec_l4Form.j0 k true a0_0 a0_1 a0_2 a0_3)) = some r := H
  have A4 := am A40
  clear A40
  by_cases c5 : t102 = true
  ·
   subst c5
   have H1 : ((spec_l4Name.f a0_1).bind fun t103 => (spec_l4Form.j0 k (!t103) a0_0 a0_1 a0_2 a0_3)) = some r := by rw [if_pos rfl] at H; exact H
   clear H
   have H := H1
   clear H1
   replace H := Option.bind_eq_some_iff.mp H
   obtain ⟨t103, A60, H⟩ := H
   replace H : (spec_l4Form.j0 k (!t103) a0_0 a0_1 a0_2 a0_3) = some r := H
   have A6 := am A60
   clear A60
   have H' := am H
   clear H
   have hcz7_0 : _ = some (Value.int .i64 a0_0) := bcE BK101.out 0
   have hcz7_1 : _ = some (Value.string a0_1) := bcE BK101.out 1
   have hcz7_2 : _ = some (Value.string a0_2) := bcE BK101.out 2
   have hcz7_3 : _ = some (Value.string a0_3) := bcE BK101.out 3
   have hfz7_0 := qaa BK101.out 0
   have hfz7_1 := qaa BK101.out 1
   have hfz7_2 := qaa BK101.out 2
   have hfz7_3 := qaa BK101.out 3
   go_wp2_with (first | ((with_reducible refine qaj (f := 58) rfl ?_); refine qap (some 5) rfl rfl Try.func58 (by kernel_rfl) rfl #[.int .i64 a0_0, .int .i64 1, .int .i64 3] rfl au6 ?_; (with_reducible refine (spec_l1In.calls a0_0 1 3 true _ A4.out).mono ?_); rintro e w' ⟨rfl, ⟨nd, rfl⟩⟩; refine ⟨_, rfl, ?_⟩) | (go_at_call 84; (with_reducible refine (spec_l4Name.calls a0_1 t103 _ A6.out).mono ?_); rintro e w' ⟨rfl, ⟨nd, rfl⟩⟩))
   go_meet
   case rel => exact ⟨_, (!t103), au10, H', ⟨by first | omega | exact Nat.le_refl _⟩, ⟨au1 BK101.out⟩, ⟨(au7 HB.out GE101.out)⟩⟩
  ·
   replace c5 := Bool.eq_false_iff.mpr c5
   subst c5
   have H1 : (spec_l4Form.j0 k true a0_0 a0_1 a0_2 a0_3) = some r := by rw [if_neg (show ¬ (false = true) by decide)] at H; exact H
   clear H
   have H := H1
   clear H1
   have H' := am H
   clear H
   have hcz8_0 : _ = some (Value.int .i64 a0_0) := bcE BK101.out 0
   have hcz8_1 : _ = some (Value.string a0_1) := bcE BK101.out 1
   have hcz8_2 : _ = some (Value.string a0_2) := bcE BK101.out 2
   have hcz8_3 : _ = some (Value.string a0_3) := bcE BK101.out 3
   have hfz8_0 := qaa BK101.out 0
   have hfz8_1 := qaa BK101.out 1
   have hfz8_2 := qaa BK101.out 2
   have hfz8_3 := qaa BK101.out 3
   go_wp2_with (first | ((with_reducible refine qaj (f := 58) rfl ?_); refine qap (some 5) rfl rfl Try.func58 (by kernel_rfl) rfl #[.int .i64 a0_0, .int .i64 1, .int .i64 3] rfl au6 ?_; (with_reducible refine (spec_l1In.calls a0_0 1 3 false _ A4.out).mono ?_); rintro e w' ⟨rfl, ⟨nd, rfl⟩⟩; refine ⟨_, rfl, ?_⟩))
   go_meet
   case rel => exact ⟨_, (true), au10, H', ⟨by first | omega | exact Nat.le_refl _⟩, ⟨au1 BK101.out⟩, ⟨(au7 HB.out GE101.out)⟩⟩
 case rest =>
  clear HC2
  obtain ⟨kq, x12_1, rfl, HA, HJ1, BK101, HB⟩ := hcut
  cases kq with
  | zero => exact absurd HA.out (by simp [spec_l4Form.j0])
  | succ kj1 =>
   have H := HA.out
   clear HA
   simp only [spec_l4Form.j0] at H
   by_cases c9 : x12_1 = true
   ·
    subst c9
    have H1 : (some false) = some r := by rw [if_pos rfl] at H; exact H
    clear H
    have H := H1
    clear H1
    obtain rfl := Option.some.inj H
    go_wp2
    go_ret
    exact ⟨by first | rfl | (simp [qag, qah] <;> rfl) | (simp [*, qag, qah] <;> rfl), (au7 HB.out GE101.out)⟩
   ·
    replace c9 := Bool.eq_false_iff.mpr c9
    subst c9
    have H1 : (if a0_0 = 2 then ((spec_l4Name.f a0_2).bind fun t104 => (if t104 = true then (some (a0_3.toList == ([] : List UInt8))) else (some false))) else (if a0_2.toList = ([] : List UInt8) then (if a0_0 = 1 then (some true) else (some (a0_3.toList == ([] : List UInt8)))) else (some false))) = some r := by rw [if_neg (show ¬ (false = true) by decide)] at H; exact H
    clear H
    have H := H1
    clear H1
    by_cases c10 : a0_0 = 2
    ·
     rw [if_pos c10] at H
     have c10b0 : (a0_0 == 2) = true := beq_iff_eq.mpr c10
     have c10b1 : (a0_0 != 2) = false := bne_eq_false_iff_eq.mpr c10
     clear c10
     replace H := Option.bind_eq_some_iff.mp H
     obtain ⟨t104, A110, H⟩ := H
     replace H : (if t104 = true then (some (a0_3.toList == ([] : List UInt8))) else (some false)) = some r := H
     have A11 := am A110
     clear A110
     by_cases c12 : t104 = true
     ·
      subst c12
      have H1 : (some (a0_3.toList == ([] : List UInt8))) = some r := by rw [if_pos rfl] at H; exact H
      clear H
      have H := H1
      clear H1
      obtain rfl := Option.some.inj H
      have hcz13_0 : _ = some (Value.int .i64 a0_0) := bcE BK101.out 0
      have hcz13_1 : _ = some (Value.string a0_1) := bcE BK101.out 1
      have hcz13_2 : _ = some (Value.string a0_2) := bcE BK101.out 2
      have hcz13_3 : _ = some (Value.string a0_3) := bcE BK101.out 3
      have hfz13_0 := qaa BK101.out 0
      have hfz13_1 := qaa BK101.out 1
      have hfz13_2 := qaa BK101.out 2
      have hfz13_3 := qaa BK101.out 3
      go_wp2_with (first | ((with_reducible refine qaj (f := 84) rfl ?_); refine qap (some 18) rfl rfl Try.func84 (by kernel_rfl) rfl #[.string a0_2] rfl au6 ?_; (with_reducible refine (spec_l4Name.calls a0_2 true _ A11.out).mono ?_); rintro e w' ⟨rfl, ⟨nd, rfl⟩⟩; refine ⟨_, rfl, ?_⟩))
      go_ret
      exact ⟨by first | rfl | (simp [qag, qah] <;> rfl) | (simp [*, qag, qah] <;> rfl), (au7 HB.out GE101.out)⟩
     ·
      replace c12 := Bool.eq_false_iff.mpr c12
      subst c12
      have H1 : (some false) = some r := by rw [if_neg (show ¬ (false = true) by decide)] at H; exact H
      clear H
      have H := H1
      clear H1
      obtain rfl := Option.some.inj H
      have hcz14_0 : _ = some (Value.int .i64 a0_0) := bcE BK101.out 0
      have hcz14_1 : _ = some (Value.string a0_1) := bcE BK101.out 1
      have hcz14_2 : _ = some (Value.string a0_2) := bcE BK101.out 2
      have hcz14_3 : _ = some (Value.string a0_3) := bcE BK101.out 3
      have hfz14_0 := qaa BK101.out 0
      have hfz14_1 := qaa BK101.out 1
      have hfz14_2 := qaa BK101.out 2
      have hfz14_3 := qaa BK101.out 3
      go_wp2_with (first | ((with_reducible refine qaj (f := 84) rfl ?_); refine qap (some 18) rfl rfl Try.func84 (by kernel_rfl) rfl #[.string a0_2] rfl au6 ?_; (with_reducible refine (spec_l4Name.calls a0_2 false _ A11.out).mono ?_); rintro e w' ⟨rfl, ⟨nd, rfl⟩⟩; refine ⟨_, rfl, ?_⟩))
      go_ret
      exact ⟨by first | rfl | (simp [qag, qah] <;> rfl) | (simp [*, qag, qah] <;> rfl), (au7 HB.out GE101.out)⟩
    ·
     rw [if_neg c10] at H
     have c10b0 : (a0_0 == 2) = false := beq_eq_false_iff_ne.mpr c10
     have c10b1 : (a0_0 != 2) = true := bne_iff_ne.mpr c10
     by_cases c15 : a0_2.toList = ([] : List UInt8)
     ·
      rw [if_pos c15] at H
      have c15b0 : (a0_2.toList == ([] : List UInt8)) = true := beq_iff_eq.mpr c15
      have c15b1 : (a0_2.toList != ([] : List UInt8)) = false := bne_eq_false_iff_eq.mpr c15
      clear c15
      by_cases c16 : a0_0 = 1
      ·
       rw [if_pos c16] at H
       have c16b0 : (a0_0 == 1) = true := beq_iff_eq.mpr c16
       have c16b1 : (a0_0 != 1) = false := bne_eq_false_iff_eq.mpr c16
       clear c16
       obtain rfl := Option.some.inj H
       have hcz17_0 : _ = some (Value.int .i64 a0_0) := bcE BK101.out 0
       have hcz17_1 : _ = some (Value.string a0_1) := bcE BK101.out 1
       have hcz17_2 : _ = some (Value.string a0_2) := bcE BK101.out 2
       have hcz17_3 : _ = some (Value.string a0_3) := bcE BK101.out 3
       have hfz17_0 := qaa BK101.out 0
       have hfz17_1 := qaa BK101.out 1
       have hfz17_2 := qaa BK101.out 2
       have hfz17_3 := qaa BK101.out 3
       go_wp2
       go_ret
       exact ⟨by first | rfl | (simp [qag, qah] <;> rfl) | (simp [*, qag, qah] <;> rfl), (au7 HB.out GE101.out)⟩
      ·
       rw [if_neg c16] at H
       have c16b0 : (a0_0 == 1) = false := beq_eq_false_iff_ne.mpr c16
       have c16b1 : (a0_0 != 1) = true := bne_iff_ne.mpr c16
       obtain rfl := Option.some.inj H
       have hcz18_0 : _ = some (Value.int .i64 a0_0) := bcE BK101.out 0
       have hcz18_1 : _ = some (Value.string a0_1) := bcE BK101.out 1
       have hcz18_2 : _ = some (Value.string a0_2) := bcE BK101.out 2
       have hcz18_3 : _ = some (Value.string a0_3) := bcE BK101.out 3
       have hfz18_0 := qaa BK101.out 0
       have hfz18_1 := qaa BK101.out 1
       have hfz18_2 := qaa BK101.out 2
       have hfz18_3 := qaa BK101.out 3
       go_wp2
       go_ret
       exact ⟨by first | rfl | (simp [qag, qah] <;> rfl) | (simp [*, qag, qah] <;> rfl), (au7 HB.out GE101.out)⟩
     ·
      rw [if_neg c15] at H
      have c15b0 : (a0_2.toList == ([] : List UInt8)) = false := beq_eq_false_iff_ne.mpr c15
      have c15b1 : (a0_2.toList != ([] : List UInt8)) = true := bne_iff_ne.mpr c15
      obtain rfl := Option.some.inj H
      have hcz19_0 : _ = some (Value.int .i64 a0_0) := bcE BK101.out 0
      have hcz19_1 : _ = some (Value.string a0_1) := bcE BK101.out 1
      have hcz19_2 : _ = some (Value.string a0_2) := bcE BK101.out 2
      have hcz19_3 : _ = some (Value.string a0_3) := bcE BK101.out 3
      have hfz19_0 := qaa BK101.out 0
      have hfz19_1 := qaa BK101.out 1
      have hfz19_2 := qaa BK101.out 2
      have hfz19_3 := qaa BK101.out 3
      go_wp2
      go_ret
      exact ⟨by first | rfl | (simp [qag, qah] <;> rfl) | (simp [*, qag, qah] <;> rfl), (au7 HB.out GE101.out)⟩

end

section
attribute [local go_sem] str_geq str_leq str_gtr
mutual
def spec_l4Put.l0 : Nat → List (S80) → ByteArray → ByteArray → List (S80) → Bool → Int → Option ((List (S80)))
 | 0, _, _, _, _, _, _ => none
 | k + 1, x0, x1, x2, x7, x8, x9 => if x9 < (x0.length : Int) then (if x8 = true then (spec_l4Put.j1 k x0 x1 x2 x7 x8 x9 false) else (if 0 ≤ x9 then (spec_l4Put.j1 k x0 x1 x2 x7 x8 x9 (!(Op.bytesLess (((qai x0 x9).f0).toList) x1.toList))) else (none))) else (if x8 = true then (some x7) else (if x7.length < 4398046511104 then (some (x7 ++ [(⟨x1, x2⟩ : S80)])) else (none)))
def spec_l4Put.j1 : Nat → List (S80) → ByteArray → ByteArray → List (S80) → Bool → Int → Bool → Option ((List (S80)))
 | 0, _, _, _, _, _, _, _ => none
 | k + 1, x0, x1, x2, x7, x8, x9, x27 => if x27 = true then (if x7.length < 4398046511104 then ((some (x7 ++ [(⟨x1, x2⟩ : S80)] : List (S80))).bind fun y108 => (if 0 ≤ x9 then (if x9 < (x0.length : Int) then (if ((qai x0 x9).f0).toList = x1.toList then (spec_l4Put.l0 k x0 x1 x2 y108 true (wrap64 (x9 + 1))) else (if y108.length < 4398046511104 then (spec_l4Put.l0 k x0 x1 x2 (y108 ++ [(⟨(qai x0 x9).f0, (qai x0 x9).f1⟩ : S80)]) true (wrap64 (x9 + 1))) else (none))) else (none)) else (none))) else (none)) else (if 0 ≤ x9 then (if x9 < (x0.length : Int) then (if ((qai x0 x9).f0).toList = x1.toList then (spec_l4Put.l0 k x0 x1 x2 x7 x8 (wrap64 (x9 + 1))) else (if x7.length < 4398046511104 then (spec_l4Put.l0 k x0 x1 x2 (x7 ++ [(⟨(qai x0 x9).f0, (qai x0 x9).f1⟩ : S80)]) x8 (wrap64 (x9 + 1))) else (none))) else (none)) else (none))
end
def spec_l4Put.f (k : Nat) (l0 : List (S80)) (a1 : ByteArray) (a2 : ByteArray) : Option ((List (S80))) := spec_l4Put.l0 k l0 a1 a2 (([] : List (S80))) false 0
theorem spec_l4Put.mono_l : ∀ k, (∀ y0 y1 y2 y3 y4 y5, LeO (spec_l4Put.l0 k y0 y1 y2 y3 y4 y5) (spec_l4Put.l0 (k + 1) y0 y1 y2 y3 y4 y5)) ∧ (∀ y0 y1 y2 y3 y4 y5 y6, LeO (spec_l4Put.j1 k y0 y1 y2 y3 y4 y5 y6) (spec_l4Put.j1 (k + 1) y0 y1 y2 y3 y4 y5 y6))
 | 0 => ⟨fun _ _ _ _ _ _ r h => by simp [spec_l4Put.l0] at h, fun _ _ _ _ _ _ _ r h => by simp [spec_l4Put.j1] at h⟩
 | k + 1 => by
  obtain ⟨ih0, ih1⟩ := spec_l4Put.mono_l k
  refine ⟨?_, ?_⟩
  ·
   intro y0 y1 y2 y3 y4 y5
   unfold spec_l4Put.l0
   repeat' first
   | (with_reducible exact ih0 _ _ _ _ _ _)
   | (with_reducible exact ih1 _ _ _ _ _ _ _)
   | (with_reducible exact LeO.refl _)
   | (with_reducible exact LeO.none _)
   | (with_reducible refine LeO.ite ?_ ?_)
   | (with_reducible refine LeO.bind ?_ (fun _ => ?_))
   | exact ih0 _ _ _ _ _ _
   | exact ih1 _ _ _ _ _ _ _
   | exact LeO.none _
   | refine LeO.ite ?_ ?_
   | refine LeO.bind ?_ (fun _ => ?_)
  ·
   intro y0 y1 y2 y3 y4 y5 y6
   unfold spec_l4Put.j1
   repeat' first
   | (with_reducible exact ih0 _ _ _ _ _ _)
   | (with_reducible exact ih1 _ _ _ _ _ _ _)
   | (with_reducible exact LeO.refl _)
   | (with_reducible exact LeO.none _)
   | (with_reducible refine LeO.ite ?_ ?_)
   | (with_reducible refine LeO.bind ?_ (fun _ => ?_))
   | exact ih0 _ _ _ _ _ _
   | exact ih1 _ _ _ _ _ _ _
   | exact LeO.none _
   | refine LeO.ite ?_ ?_
   | refine LeO.bind ?_ (fun _ => ?_)
theorem spec_l4Put.mono : ∀ a0 a1 a2 k, LeO (spec_l4Put.f k a0 a1 a2) (spec_l4Put.f (k + 1) a0 a1 a2) := by
 intro a0 a1 a2 k
 obtain ⟨ih0, ih1⟩ := spec_l4Put.mono_l k
 unfold spec_l4Put.f
 repeat' first
  | (with_reducible exact ih0 _ _ _ _ _ _)
  | (with_reducible exact ih1 _ _ _ _ _ _ _)
  | (with_reducible exact LeO.refl _)
  | (with_reducible exact LeO.none _)
  | (with_reducible refine LeO.ite ?_ ?_)
  | (with_reducible refine LeO.bind ?_ (fun _ => ?_))
  | exact ih0 _ _ _ _ _ _
  | exact ih1 _ _ _ _ _ _ _
  | exact LeO.none _
  | refine LeO.ite ?_ ?_
  | refine LeO.bind ?_ (fun _ => ?_)
set_option maxHeartbeats 8000000 in
set_option maxRecDepth 100000 in
theorem spec_l4Put.calls (k : Nat) (A0 : Option Addr) (c0 : Nat) (l0 : List (S80)) (a1 : ByteArray) (a2 : ByteArray) (r : List (S80)) (w : World) (hr0 : Kd.C k80 w A0 l0.length l0) (hc0 : l0.length ≤ c0) (h : spec_l4Put.f k l0 a1 a2 = some r) :
 Calls Try.prog 85 #[.slice A0 l0.length c0, .string a1, .string a2] w fun e w' => ∃ v0_ : Value, e = .returned (v0_) ∧ Kd.R k80 80 w' w.heap.size (fun _ => True) v0_ r ∧ Below w.heap.size w w' := by
 have hu80 := Try.underlying80
 have HR0 := am hr0
 have HC0 := am hc0
 clear hr0 hc0
 have HB := am (Below.refl w.heap.size w)
 have H : (spec_l4Put.l0 k l0 a1 a2 (([] : List (S80))) false 0) = some r := h
 clear h
 obtain ⟨y101, hy101⟩ : ∃ y_ : List (S80), y_ = (([] : List (S80))) := ⟨_, rfl⟩
 replace H : (spec_l4Put.l0 k l0 a1 a2 y101 false 0) = some r := by first | (rw [hy101]; with_reducible exact H) | (have H2_ := (Option.bind_some _ _).symm.trans H; rw [hy101]; with_reducible exact H2_) | (have H2_ := (Option.bind_some _ _).symm.trans H; with_reducible exact H2_) | with_reducible exact H | (rw [hy101]; exact H) | exact H
 have Ny101 := am hy101
 clear hy101
 have H' := am H
 clear H
 go_enter Try.func85, Try.ntmps85
 go_wp2_with (first | ((with_reducible refine qal (N := 10) rfl ?_); refine Kd.R_lit k80 _ 80 ?hg (N := 10) ?hd (xs := ([] : List (S80))) (inner := []) (ok := fun _ => True) (okp := fun _ => True) ?hr ?hp (fun _ hk => hk) trivial (Below.refl _ _) (Nat.le_refl _) (by simp) ?_; (case hd => rfl); (case hg => rfl); (case hr => first | (go_simp; done) | (go_simp; rfl)); (case hp => exact (Reps.none _ _)); intro v102 w4 ho5 hb hg_ hnew_; clear hg_ hnew_; (first | rw [← Ny101.out] at ho5 | (simp only [Int.reduceToNat] at ho5; rw [← Ny101.out] at ho5)); have HO103 := am (Kd.R_lower ho5 (qaf (au3 HB.out))); replace HB := am (qad (au3 HB.out) hb); clear hb ho5))
 go_loopg [7, 8, 9] k (fun kq v7 v8 v9 w' => ∃ (x7_1 : List (S80)) (x8_1 : Bool) (x9_1 : Int), v8 = .bool x8_1 ∧ v9 = .int .i64 x9_1 ∧ Aside0 (spec_l4Put.l0 kq l0 a1 a2 x7_1 x8_1 x9_1 = some r) ∧ Aside0 (kq ≤ k) ∧ Aside0 (Kd.R k80 80 w' w.heap.size (fun _ => True) v7 x7_1) ∧ Aside0 (Below w.heap.size w w'))
 case atStart => exact ⟨(y101), (false), (0), au10, au10, H', ⟨Nat.le_refl _⟩, ⟨au0 HO103.out⟩, ⟨(au3 HB.out)⟩⟩
 case round =>
  clear H'
  obtain ⟨x7_1, x8_1, x9_1, rfl, rfl, HA, HK1, HO_7, HB⟩ := hrel
  cases gk with
  | zero => exact absurd HA.out (by simp [spec_l4Put.l0])
  | succ k1 =>
   have H := HA.out
   clear HA
   simp only [spec_l4Put.l0] at H
   by_cases c6 : x9_1 < (l0.length : Int)
   ·
    rw [if_pos c6] at H
    have c6b0 : decide (x9_1 < (l0.length : Int)) = true := decide_eq_true c6
    clear c6
    have HC7 := am H
    clear H
    go_upto_region 6 with (fail)
    go_cut [27] (fun v27 wc => ∃ (kq : Nat) (x27_6 : Bool), v27 = .bool x27_6 ∧ Aside0 (spec_l4Put.j1 kq l0 a1 a2 x7_1 x8_1 x9_1 x27_6 = some r) ∧ Aside0 (kq ≤ k1) ∧ Aside0 (Kd.R k80 80 wc w.heap.size (fun _ => True) u7 x7_1) ∧ Aside0 (Below w.heap.size w wc))
    case first =>
     have H := HC7.out
     clear HC7
     by_cases c8 : x8_1 = true
     ·
      subst c8
      have H1 : (spec_l4Put.j1 k1 l0 a1 a2 x7_1 true x9_1 false) = some r := by rw [if_pos rfl] at H; exact H
      clear H
      have H := H1
      clear H1
      have H' := am H
      clear H
      go_wp2
      go_meet
      case rel => exact ⟨_, (false), au10, H', ⟨by have := HK1.out; first | omega | exact Nat.le_refl _⟩, ⟨au0 HO_7.out⟩, ⟨(au3 HB.out)⟩⟩
     ·
      replace c8 := Bool.eq_false_iff.mpr c8
      subst c8
      have H1 : (if 0 ≤ x9_1 then (spec_l4Put.j1 k1 l0 a1 a2 x7_1 false x9_1 (!(Op.bytesLess (((qai l0 x9_1).f0).toList) a1.toList))) else (none)) = some r := by rw [if_neg (show ¬ (false = true) by decide)] at H; exact H
      clear H
      have H := H1
      clear H1
      by_cases c9 : 0 ≤ x9_1
      ·
       rw [if_pos c9] at H
       have c9b0 : decide (0 ≤ x9_1) = true := decide_eq_true c9
       clear c9
       (first | rw [c9b0] | (simp only [i64_w, i32_w]; rw [c9b0]) | skip)
       have H' := am H
       clear H
       have p107 : 0 ≤ (x9_1 : Int) := of_decide_eq_true au9
       have q107 : x9_1 < (l0.length : Int) := of_decide_eq_true au9
       obtain ⟨ad107, e107, hx107_0, hx107_1⟩ := qax HR0.out x9_1 p107 q107
       cases e107
       replace hx107_0 := qac HB.out hx107_0
       replace hx107_1 := qac HB.out hx107_1
       replace p107 := eq_true p107
       replace q107 := eq_true q107
       go_wp2
       go_meet
       case rel => exact ⟨_, (!(Op.bytesLess (((qai l0 x9_1).f0).toList) a1.toList)), au10, H', ⟨by have := HK1.out; first | omega | exact Nat.le_refl _⟩, ⟨au0 HO_7.out⟩, ⟨(au3 HB.out)⟩⟩
      ·
       rw [if_neg c9] at H
       exact absurd H (by simp)
    case rest =>
     clear HC7
     obtain ⟨kq, x27_6, rfl, HA, HJ6, HO_7, HB⟩ := hcut
     cases kq with
     | zero => exact absurd HA.out (by simp [spec_l4Put.j1])
     | succ kj6 =>
      have H := HA.out
      clear HA
      simp only [spec_l4Put.j1] at H
      by_cases c10 : x27_6 = true
      ·
       subst c10
       have H1 : (if x7_1.length < 4398046511104 then ((some (x7_1 ++ [(⟨a1, a2⟩ : S80)] : List (S80))).bind fun y108 => (if 0 ≤ x9_1 then (if x9_1 < (l0.length : Int) then (if ((qai l0 x9_1).f0).toList = a1.toList then (spec_l4Put.l0 kj6 l0 a1 a2 y108 true (wrap64 (x9_1 + 1))) else (if y108.length < 4398046511104 then (spec_l4Put.l0 kj6 l0 a1 a2 (y108 ++ [(⟨(qai l0 x9_1).f0, (qai l0 x9_1).f1⟩ : S80)]) true (wrap64 (x9_1 + 1))) else (none))) else (none)) else (none))) else (none)) = some r := by rw [if_pos rfl] at H; exact H
       clear H
       have H := H1
       clear H1
       by_cases c11 : x7_1.length < 4398046511104
       ·
        rw [if_pos c11] at H
        have LMc11 := am c11
        clear c11
        obtain ⟨y108, hy108⟩ : ∃ y_ : List (S80), y_ = (x7_1 ++ [(⟨a1, a2⟩ : S80)]) := ⟨_, rfl⟩
        replace H : (if 0 ≤ x9_1 then (if x9_1 < (l0.length : Int) then (if ((qai l0 x9_1).f0).toList = a1.toList then (spec_l4Put.l0 kj6 l0 a1 a2 y108 true (wrap64 (x9_1 + 1))) else (if y108.length < 4398046511104 then (spec_l4Put.l0 kj6 l0 a1 a2 (y108 ++ [(⟨(qai l0 x9_1).f0, (qai l0 x9_1).f1⟩ : S80)]) true (wrap64 (x9_1 + 1))) else (none))) else (none)) else (none)) = some r := by first | (rw [hy108]; with_reducible exact H) | (have H2_ := (Option.bind_some _ _).symm.trans H; rw [hy108]; with_reducible exact H2_) | (have H2_ := (Option.bind_some _ _).symm.trans H; with_reducible exact H2_) | with_reducible exact H | (rw [hy108]; exact H) | exact H
        have Ny108 := am hy108
        clear hy108
        by_cases c12 : 0 ≤ x9_1
        ·
         rw [if_pos c12] at H
         have c12b0 : decide (0 ≤ x9_1) = true := decide_eq_true c12
         clear c12
         by_cases c13 : x9_1 < (l0.length : Int)
         ·
          rw [if_pos c13] at H
          have c13b0 : decide (x9_1 < (l0.length : Int)) = true := decide_eq_true c13
          clear c13
          by_cases c14 : ((qai l0 x9_1).f0).toList = a1.toList
          ·
           rw [if_pos c14] at H
           have c14b0 : (((qai l0 x9_1).f0).toList == a1.toList) = true := beq_iff_eq.mpr c14
           have c14b1 : (((qai l0 x9_1).f0).toList != a1.toList) = false := bne_eq_false_iff_eq.mpr c14
           clear c14
           have H' := am H
           clear H
           go_wp2_with (first | ((with_reducible refine qbf (b := .append) (xs := #[.tmp 28, .tmp 32]) rfl ?_); at_builtin; refine Kd.R_append k80 (w0 := w) w.heap.size rfl (.tmp 28) (.tmp 32) 28 80 (.agg #[(.string ⟨#[]⟩), (.string ⟨#[]⟩)]) 32 rfl Try.underlying28 qch rfl (by decide) (by omega) u7 x7_1 (⟨a1, a2⟩ : S80) [.string a1, .string a2] (fun _ => True) (fun _ => False) rfl rfl ?aP (fun _ hk => hk.elim) ?aF ?aO ?aB ?aS ?aL ?_; (case aP => exact qcs _ _ _ (⟨a1, a2⟩ : S80)); (case aB => exact (au3 HB.out)); (case aF => exact (fun _ _ => trivial)); (case aO => exact (au0 HO_7.out)); (case aS => exact (qaf (au3 HB.out))); (case aL => have := LMc11.out; omega); intro v109 w15 ho hb hg hat; rw [← Ny108.out] at ho; replace HB := am (hb); have HO110 := am (ho); clear HO_7; clear ho hb hg hat; have p111 : 0 ≤ (x9_1 : Int) := of_decide_eq_true au9; have q111 : x9_1 < (l0.length : Int) := of_decide_eq_true au9; obtain ⟨ad111, e111, hx111_0, hx111_1⟩ := qax HR0.out x9_1 p111 q111; cases e111; replace hx111_0 := qac HB.out hx111_0; replace hx111_1 := qac HB.out hx111_1; replace p111 := eq_true p111; replace q111 := eq_true q111))
           go_roundg kj6
           case measure => have := HK1.out; have := HJ6.out; omega
           case rel => exact ⟨(y108), (true), (wrap64 (x9_1 + 1)), au10, au10, H', ⟨by have := HK1.out; have := HJ6.out; omega⟩, ⟨au0 HO110.out⟩, ⟨(au3 HB.out)⟩⟩
          ·
           rw [if_neg c14] at H
           have c14b0 : (((qai l0 x9_1).f0).toList == a1.toList) = false := beq_eq_false_iff_ne.mpr c14
           have c14b1 : (((qai l0 x9_1).f0).toList != a1.toList) = true := bne_iff_ne.mpr c14
           by_cases c16 : y108.length < 4398046511104
           ·
            rw [if_pos c16] at H
            have LMc16 := am c16
            clear c16
            obtain ⟨y113, hy113⟩ : ∃ y_ : List (S80), y_ = (y108 ++ [(⟨(qai l0 x9_1).f0, (qai l0 x9_1).f1⟩ : S80)]) := ⟨_, rfl⟩
            replace H : (spec_l4Put.l0 kj6 l0 a1 a2 y113 true (wrap64 (x9_1 + 1))) = some r := by first | (rw [hy113]; with_reducible exact H) | (have H2_ := (Option.bind_some _ _).symm.trans H; rw [hy113]; with_reducible exact H2_) | (have H2_ := (Option.bind_some _ _).symm.trans H; with_reducible exact H2_) | with_reducible exact H | (rw [hy113]; exact H) | exact H
            have Ny113 := am hy113
            clear hy113
            have H' := am H
            clear H
            go_wp2_with (first | ((with_reducible refine qbf (b := .append) (xs := #[.tmp 28, .tmp 32]) rfl ?_); at_builtin; refine Kd.R_append k80 (w0 := w) w.heap.size rfl (.tmp 28) (.tmp 32) 28 80 (.agg #[(.string ⟨#[]⟩), (.string ⟨#[]⟩)]) 32 rfl Try.underlying28 qch rfl (by decide) (by omega) u7 x7_1 (⟨a1, a2⟩ : S80) [.string a1, .string a2] (fun _ => True) (fun _ => False) rfl rfl ?aP (fun _ hk => hk.elim) ?aF ?aO ?aB ?aS ?aL ?_; (case aP => exact qcs _ _ _ (⟨a1, a2⟩ : S80)); (case aB => exact (au3 HB.out)); (case aF => exact (fun _ _ => trivial)); (case aO => exact (au0 HO_7.out)); (case aS => exact (qaf (au3 HB.out))); (case aL => have := LMc11.out; omega); intro v109 w17 ho hb hg hat; rw [← Ny108.out] at ho; replace HB := am (hb); have HO110 := am (ho); clear HO_7; clear ho hb hg hat; have p111 : 0 ≤ (x9_1 : Int) := of_decide_eq_true au9; have q111 : x9_1 < (l0.length : Int) := of_decide_eq_true au9; obtain ⟨ad111, e111, hx111_0, hx111_1⟩ := qax HR0.out x9_1 p111 q111; cases e111; replace hx111_0 := qac HB.out hx111_0; replace hx111_1 := qac HB.out hx111_1; replace p111 := eq_true p111; replace q111 := eq_true q111; have p112 : 0 ≤ (x9_1 : Int) := of_decide_eq_true au9; have q112 : x9_1 < (l0.length : Int) := of_decide_eq_true au9; obtain ⟨ad112, e112, hx112_0, hx112_1⟩ := qax HR0.out x9_1 p112 q112; obtain rfl : ad111 = ad112 := (by injection e112); replace hx112_0 := qac HB.out hx112_0; replace hx112_1 := qac HB.out hx112_1; replace p112 := eq_true p112; replace q112 := eq_true q112) | ((with_reducible refine qbf (b := .append) (xs := #[.tmp 41, .tmp 46]) rfl ?_); at_builtin; refine Kd.R_append k80 (w0 := w) w.heap.size rfl (.tmp 41) (.tmp 46) 28 80 (.agg #[(.string ⟨#[]⟩), (.string ⟨#[]⟩)]) 32 rfl Try.underlying28 qch rfl (by decide) (by omega) v109 y108 (⟨(qai l0 x9_1).f0, (qai l0 x9_1).f1⟩ : S80) [.string ((qai l0 x9_1).f0), .string ((qai l0 x9_1).f1)] (fun _ => True) (fun _ => False) rfl rfl ?aP (fun _ hk => hk.elim) ?aF ?aO ?aB ?aS ?aL ?_; (case aP => exact qcs _ _ _ (⟨(qai l0 x9_1).f0, (qai l0 x9_1).f1⟩ : S80)); (case aB => exact (au3 HB.out)); (case aF => exact (fun _ _ => trivial)); (case aO => exact (au0 HO110.out)); (case aS => exact (qaf (au3 HB.out))); (case aL => have := LMc16.out; omega); intro v114 w18 ho hb hg hat; rw [← Ny113.out] at ho; replace HB := am (hb); have HO115 := am (ho); clear HO110; clear ho hb hg hat))
            go_roundg kj6
            case measure => have := HK1.out; have := HJ6.out; omega
            case rel => exact ⟨(y113), (true), (wrap64 (x9_1 + 1)), au10, au10, H', ⟨by have := HK1.out; have := HJ6.out; omega⟩, ⟨au0 HO115.out⟩, ⟨(au3 HB.out)⟩⟩
           ·
            rw [if_neg c16] at H
            exact absurd H (by simp)
         ·
          rw [if_neg c13] at H
          exact absurd H (by simp)
        ·
         rw [if_neg c12] at H
         exact absurd H (by simp)
       ·
        rw [if_neg c11] at H
        exact absurd H (by simp)
      ·
       replace c10 := Bool.eq_false_iff.mpr c10
       subst c10
       have H1 : (if 0 ≤ x9_1 then (if x9_1 < (l0.length : Int) then (if ((qai l0 x9_1).f0).toList = a1.toList then (spec_l4Put.l0 kj6 l0 a1 a2 x7_1 x8_1 (wrap64 (x9_1 + 1))) else (if x7_1.length < 4398046511104 then (spec_l4Put.l0 kj6 l0 a1 a2 (x7_1 ++ [(⟨(qai l0 x9_1).f0, (qai l0 x9_1).f1⟩ : S80)]) x8_1 (wrap64 (x9_1 + 1))) else (none))) else (none)) else (none)) = some r := by rw [if_neg (show ¬ (false = true) by decide)] at H; exact H
       clear H
       have H := H1
       clear H1
       by_cases c19 : 0 ≤ x9_1
       ·
        rw [if_pos c19] at H
        have c19b0 : decide (0 ≤ x9_1) = true := decide_eq_true c19
        clear c19
        by_cases c20 : x9_1 < (l0.length : Int)
        ·
         rw [if_pos c20] at H
         have c20b0 : decide (x9_1 < (l0.length : Int)) = true := decide_eq_true c20
         clear c20
         by_cases c21 : ((qai l0 x9_1).f0).toList = a1.toList
         ·
          rw [if_pos c21] at H
          have c21b0 : (((qai l0 x9_1).f0).toList == a1.toList) = true := beq_iff_eq.mpr c21
          have c21b1 : (((qai l0 x9_1).f0).toList != a1.toList) = false := bne_eq_false_iff_eq.mpr c21
          clear c21
          have H' := am H
          clear H
          have p116 : 0 ≤ (x9_1 : Int) := of_decide_eq_true au9
          have q116 : x9_1 < (l0.length : Int) := of_decide_eq_true au9
          obtain ⟨ad116, e116, hx116_0, hx116_1⟩ := qax HR0.out x9_1 p116 q116
          cases e116
          replace hx116_0 := qac HB.out hx116_0
          replace hx116_1 := qac HB.out hx116_1
          replace p116 := eq_true p116
          replace q116 := eq_true q116
          go_wp2
          go_roundg kj6
          case measure => have := HK1.out; have := HJ6.out; omega
          case rel => exact ⟨(x7_1), (x8_1), (wrap64 (x9_1 + 1)), au10, au10, H', ⟨by have := HK1.out; have := HJ6.out; omega⟩, ⟨au0 HO_7.out⟩, ⟨(au3 HB.out)⟩⟩
         ·
          rw [if_neg c21] at H
          have c21b0 : (((qai l0 x9_1).f0).toList == a1.toList) = false := beq_eq_false_iff_ne.mpr c21
          have c21b1 : (((qai l0 x9_1).f0).toList != a1.toList) = true := bne_iff_ne.mpr c21
          by_cases c22 : x7_1.length < 4398046511104
          ·
           rw [if_pos c22] at H
           have LMc22 := am c22
           clear c22
           obtain ⟨y118, hy118⟩ : ∃ y_ : List (S80), y_ = (x7_1 ++ [(⟨(qai l0 x9_1).f0, (qai l0 x9_1).f1⟩ : S80)]) := ⟨_, rfl⟩
           replace H : (spec_l4Put.l0 kj6 l0 a1 a2 y118 x8_1 (wrap64 (x9_1 + 1))) = some r := by first | (rw [hy118]; with_reducible exact H) | (have H2_ := (Option.bind_some _ _).symm.trans H; rw [hy118]; with_reducible exact H2_) | (have H2_ := (Option.bind_some _ _).symm.trans H; with_reducible exact H2_) | with_reducible exact H | (rw [hy118]; exact H) | exact H
           have Ny118 := am hy118
           clear hy118
           have H' := am H
           clear H
           have p116 : 0 ≤ (x9_1 : Int) := of_decide_eq_true au9
           have q116 : x9_1 < (l0.length : Int) := of_decide_eq_true au9
           obtain ⟨ad116, e116, hx116_0, hx116_1⟩ := qax HR0.out x9_1 p116 q116
           cases e116
           replace hx116_0 := qac HB.out hx116_0
           replace hx116_1 := qac HB.out hx116_1
           replace p116 := eq_true p116
           replace q116 := eq_true q116
           have p117 : 0 ≤ (x9_1 : Int) := of_decide_eq_true au9
           have q117 : x9_1 < (l0.length : Int) := of_decide_eq_true au9
           obtain ⟨ad117, e117, hx117_0, hx117_1⟩ := qax HR0.out x9_1 p117 q117
           obtain rfl : ad116 = ad117 := (by injection e117)
           replace hx117_0 := qac HB.out hx117_0
           replace hx117_1 := qac HB.out hx117_1
           replace p117 := eq_true p117
           replace q117 := eq_true q117
           go_wp2_with (first | ((with_reducible refine qbf (b := .append) (xs := #[.tmp 41, .tmp 46]) rfl ?_); at_builtin; refine Kd.R_append k80 (w0 := w) w.heap.size rfl (.tmp 41) (.tmp 46) 28 80 (.agg #[(.string ⟨#[]⟩), (.string ⟨#[]⟩)]) 32 rfl Try.underlying28 qch rfl (by decide) (by omega) u7 x7_1 (⟨(qai l0 x9_1).f0, (qai l0 x9_1).f1⟩ : S80) [.string ((qai l0 x9_1).f0), .string ((qai l0 x9_1).f1)] (fun _ => True) (fun _ => False) rfl rfl ?aP (fun _ hk => hk.elim) ?aF ?aO ?aB ?aS ?aL ?_; (case aP => exact qcs _ _ _ (⟨(qai l0 x9_1).f0, (qai l0 x9_1).f1⟩ : S80)); (case aB => exact (au3 HB.out)); (case aF => exact (fun _ _ => trivial)); (case aO => exact (au0 HO_7.out)); (case aS => exact (qaf (au3 HB.out))); (case aL => have := LMc22.out; omega); intro v119 w23 ho hb hg hat; rw [← Ny118.out] at ho; replace HB := am (hb); have HO120 := am (ho); clear HO_7; clear ho hb hg hat))
           go_roundg kj6
           case measure => have := HK1.out; have := HJ6.out; omega
           case rel => exact ⟨(y118), (x8_1), (wrap64 (x9_1 + 1)), au10, au10, H', ⟨by have := HK1.out; have := HJ6.out; omega⟩, ⟨au0 HO120.out⟩, ⟨(au3 HB.out)⟩⟩
          ·
           rw [if_neg c22] at H
           exact absurd H (by simp)
        ·
         rw [if_neg c20] at H
         exact absurd H (by simp)
       ·
        rw [if_neg c19] at H
        exact absurd H (by simp)
   ·
    rw [if_neg c6] at H
    have c6b0 : decide (x9_1 < (l0.length : Int)) = false := decide_eq_false c6
    clear c6
    by_cases c24 : x8_1 = true
    ·
     subst c24
     have H1 : (some x7_1) = some r := by rw [if_pos rfl] at H; exact H
     clear H
     have H := H1
     clear H1
     obtain rfl := Option.some.inj H
     go_wp2
     go_ret
     exact ⟨_, by first | rfl | (simp [qag, qah] <;> rfl) | (simp [*, qag, qah] <;> rfl), au0 HO_7.out, (au3 HB.out)⟩
    ·
     replace c24 := Bool.eq_false_iff.mpr c24
     subst c24
     have H1 : (if x7_1.length < 4398046511104 then (some (x7_1 ++ [(⟨a1, a2⟩ : S80)])) else (none)) = some r := by rw [if_neg (show ¬ (false = true) by decide)] at H; exact H
     clear H
     have H := H1
     clear H1
     by_cases c25 : x7_1.length < 4398046511104
     ·
      rw [if_pos c25] at H
      have LMc25 := am c25
      clear c25
      obtain ⟨y104, hy104⟩ : ∃ y_ : List (S80), y_ = (x7_1 ++ [(⟨a1, a2⟩ : S80)]) := ⟨_, rfl⟩
      replace H : (some y104) = some r := by first | (rw [hy104]; with_reducible exact H) | (have H2_ := (Option.bind_some _ _).symm.trans H; rw [hy104]; with_reducible exact H2_) | (have H2_ := (Option.bind_some _ _).symm.trans H; with_reducible exact H2_) | with_reducible exact H | (rw [hy104]; exact H) | exact H
      have Ny104 := am hy104
      clear hy104
      obtain rfl := Option.some.inj H
      go_wp2_with (first | ((with_reducible refine qbf (b := .append) (xs := #[.tmp 50, .tmp 54]) rfl ?_); at_builtin; refine Kd.R_append k80 (w0 := w) w.heap.size rfl (.tmp 50) (.tmp 54) 28 80 (.agg #[(.string ⟨#[]⟩), (.string ⟨#[]⟩)]) 32 rfl Try.underlying28 qch rfl (by decide) (by omega) u7 x7_1 (⟨a1, a2⟩ : S80) [.string a1, .string a2] (fun _ => True) (fun _ => False) rfl rfl ?aP (fun _ hk => hk.elim) ?aF ?aO ?aB ?aS ?aL ?_; (case aP => exact qcs _ _ _ (⟨a1, a2⟩ : S80)); (case aB => exact (au3 HB.out)); (case aF => exact (fun _ _ => trivial)); (case aO => exact (au0 HO_7.out)); (case aS => exact (qaf (au3 HB.out))); (case aL => have := LMc25.out; omega); intro v105 w26 ho hb hg hat; rw [← Ny104.out] at ho; replace HB := am (hb); have HO106 := am (ho); clear HO_7; clear ho hb hg hat))
      go_ret
      exact ⟨_, by first | rfl | (simp [qag, qah] <;> rfl) | (simp [*, qag, qah] <;> rfl), au0 HO106.out, (au3 HB.out)⟩
     ·
      rw [if_neg c25] at H
      exact absurd H (by simp)

end

section
attribute [local go_sem high] eqA80
def spec_l4Same.l0 : Nat → List (S80) → List (S80) → Int → Option (Bool)
 | 0, _, _, _ => none
 | k + 1, x0, x1, x5 => if x5 < (x0.length : Int) then (if 0 ≤ x5 then (if x5 < (x1.length : Int) then (if (!((((qai x0 x5).f0).toList) == (((qai x1 x5).f0).toList)) || (!((((qai x0 x5).f1).toList) == (((qai x1 x5).f1).toList)))) = true then (some false) else (spec_l4Same.l0 k x0 x1 (wrap64 (x5 + 1)))) else (none)) else (none)) else (some true)
def spec_l4Same.f (k : Nat) (l0 : List (S80)) (l1 : List (S80)) : Option (Bool) := if (l0.length : Int) = (l1.length : Int) then (spec_l4Same.l0 k l0 l1 0) else (some false)
theorem spec_l4Same.mono_l : ∀ k, (∀ y0 y1 y2, LeO (spec_l4Same.l0 k y0 y1 y2) (spec_l4Same.l0 (k + 1) y0 y1 y2))
 | 0 => fun _ _ _ r h => by simp [spec_l4Same.l0] at h
 | k + 1 => by
  have ih0 := spec_l4Same.mono_l k
  ·
   intro y0 y1 y2
   unfold spec_l4Same.l0
   repeat' first
   | (with_reducible exact ih0 _ _ _)
   | (with_reducible exact LeO.refl _)
   | (with_reducible exact LeO.none _)
   | (with_reducible refine LeO.ite ?_ ?_)
   | (with_reducible refine LeO.bind ?_ (fun _ => ?_))
   | exact ih0 _ _ _
   | exact LeO.none _
   | refine LeO.ite ?_ ?_
   | refine LeO.bind ?_ (fun _ => ?_)
theorem spec_l4Same.mono : ∀ a0 a1 k, LeO (spec_l4Same.f k a0 a1) (spec_l4Same.f (k + 1) a0 a1) := by
 intro a0 a1 k
 have ih0 := spec_l4Same.mono_l k
 unfold spec_l4Same.f
 repeat' first
  | (with_reducible exact ih0 _ _ _)
  | (with_reducible exact LeO.refl _)
  | (with_reducible exact LeO.none _)
  | (with_reducible refine LeO.ite ?_ ?_)
  | (with_reducible refine LeO.bind ?_ (fun _ => ?_))
  | exact ih0 _ _ _
  | exact LeO.none _
  | refine LeO.ite ?_ ?_
  | refine LeO.bind ?_ (fun _ => ?_)
set_option maxHeartbeats 8000000 in
set_option maxRecDepth 100000 in
theorem spec_l4Same.calls (k : Nat) (A0 : Option Addr) (c0 : Nat) (l0 : List (S80)) (A1 : Option Addr) (c1 : Nat) (l1 : List (S80)) (r : Bool) (w : World) (hr0 : Kd.C k80 w A0 l0.length l0) (hc0 : l0.length ≤ c0) (hr1 : Kd.C k80 w A1 l1.length l1) (hc1 : l1.length ≤ c1) (h : spec_l4Same.f k l0 l1 = some r) :
 Calls Try.prog 46 #[.slice A0 l0.length c0, .slice A1 l1.length c1] w fun e w' => e = .returned (.bool r) ∧ Drawn0 w w' := by
 have hu80 := Try.underlying80
 have HR0 := am hr0
 have HC0 := am hc0
 clear hr0 hc0
 have HR1 := am hr1
 have HC1 := am hc1
 clear hr1 hc1
 have H : (if (l0.length : Int) = (l1.length : Int) then (spec_l4Same.l0 k l0 l1 0) else (some false)) = some r := h
 clear h
 by_cases c3 : (l0.length : Int) = (l1.length : Int)
 ·
  rw [if_pos c3] at H
  have c3b0 : ((l0.length : Int) == (l1.length : Int)) = true := beq_iff_eq.mpr c3
  have c3b1 : ((l0.length : Int) != (l1.length : Int)) = false := bne_eq_false_iff_eq.mpr c3
  have c3b2 : (l0.length == l1.length) = true := by first | simpa using c3 | (simp at c3 ⊢; omega)
  clear c3
  have H' := am H
  clear H
  go_enter Try.func46, Try.ntmps46
  go_wp2
  repeat (go_quiet (fail); try go_wp2)
  go_loopg [5] k (fun kq v5 w' => ∃ (x5_1 : Int), v5 = .int .i64 x5_1 ∧ Aside0 (spec_l4Same.l0 kq l0 l1 x5_1 = some r) ∧ Aside0 (kq ≤ k) ∧ Drawn0 w w')
  case atStart => exact ⟨(0), au10, H', ⟨Nat.le_refl _⟩, au8⟩
  case round =>
   clear H'
   obtain ⟨x5_1, rfl, HA, HK1, ⟨m1, rfl⟩⟩ := hrel
   cases gk with
   | zero => exact absurd HA.out (by simp [spec_l4Same.l0])
   | succ k1 =>
    have H := HA.out
    clear HA
    simp only [spec_l4Same.l0] at H
    by_cases c4 : x5_1 < (l0.length : Int)
    ·
     rw [if_pos c4] at H
     have c4b0 : decide (x5_1 < (l0.length : Int)) = true := decide_eq_true c4
     clear c4
     by_cases c5 : 0 ≤ x5_1
     ·
      rw [if_pos c5] at H
      have c5b0 : decide (0 ≤ x5_1) = true := decide_eq_true c5
      clear c5
      by_cases c6 : x5_1 < (l1.length : Int)
      ·
       rw [if_pos c6] at H
       have c6b0 : decide (x5_1 < (l1.length : Int)) = true := decide_eq_true c6
       clear c6
       by_cases c7 : (!((((qai l0 x5_1).f0).toList) == (((qai l1 x5_1).f0).toList)) || (!((((qai l0 x5_1).f1).toList) == (((qai l1 x5_1).f1).toList)))) = true
       ·
        rw [if_pos c7] at H
        have c7b0 : (!((((qai l0 x5_1).f0).toList) == (((qai l1 x5_1).f0).toList)) || (!((((qai l0 x5_1).f1).toList) == (((qai l1 x5_1).f1).toList)))) = true := c7
        clear c7
        obtain rfl := Option.some.inj H
        have p101 : 0 ≤ (x5_1 : Int) := of_decide_eq_true au9
        have q101 : x5_1 < (l0.length : Int) := of_decide_eq_true au9
        obtain ⟨ad101, e101, hx101_0, hx101_1⟩ := qax HR0.out x5_1 p101 q101
        cases e101
        replace p101 := eq_true p101
        replace q101 := eq_true q101
        have p102 : 0 ≤ (x5_1 : Int) := of_decide_eq_true au9
        have q102 : x5_1 < (l1.length : Int) := of_decide_eq_true au9
        obtain ⟨ad102, e102, hx102_0, hx102_1⟩ := qax HR1.out x5_1 p102 q102
        cases e102
        replace p102 := eq_true p102
        replace q102 := eq_true q102
        go_wp2
        repeat (go_quiet (fail); try go_wp2)
        go_ret
        exact ⟨by first | rfl | (simp; done) | (simp [*]; done), au8⟩
       ·
        rw [if_neg c7] at H
        have c7b0 : (!((((qai l0 x5_1).f0).toList) == (((qai l1 x5_1).f0).toList)) || (!((((qai l0 x5_1).f1).toList) == (((qai l1 x5_1).f1).toList)))) = false := by simpa using c7
        clear c7
        have H' := am H
        clear H
        have p101 : 0 ≤ (x5_1 : Int) := of_decide_eq_true au9
        have q101 : x5_1 < (l0.length : Int) := of_decide_eq_true au9
        obtain ⟨ad101, e101, hx101_0, hx101_1⟩ := qax HR0.out x5_1 p101 q101
        cases e101
        replace p101 := eq_true p101
        replace q101 := eq_true q101
        have p102 : 0 ≤ (x5_1 : Int) := of_decide_eq_true au9
        have q102 : x5_1 < (l1.length : Int) := of_decide_eq_true au9
        obtain ⟨ad102, e102, hx102_0, hx102_1⟩ := qax HR1.out x5_1 p102 q102
        cases e102
        replace p102 := eq_true p102
        replace q102 := eq_true q102
        go_wp2
        repeat (go_quiet (fail); try go_wp2)
        go_roundg k1
        case measure => have := HK1.out; omega
        case rel => exact ⟨(wrap64 (x5_1 + 1)), au10, H', ⟨by have := HK1.out; omega⟩, au8⟩
      ·
       rw [if_neg c6] at H
       exact absurd H (by simp)
     ·
      rw [if_neg c5] at H
      exact absurd H (by simp)
    ·
     rw [if_neg c4] at H
     have c4b0 : decide (x5_1 < (l0.length : Int)) = false := decide_eq_false c4
     clear c4
     obtain rfl := Option.some.inj H
     go_wp2
     repeat (go_quiet (fail); try go_wp2)
     go_ret
     exact ⟨by first | rfl | (simp; done) | (simp [*]; done), au8⟩
 ·
  rw [if_neg c3] at H
  have c3b0 : ((l0.length : Int) == (l1.length : Int)) = false := beq_eq_false_iff_ne.mpr c3
  have c3b1 : ((l0.length : Int) != (l1.length : Int)) = true := bne_iff_ne.mpr c3
  have c3b2 : (l0.length == l1.length) = false := by first | simpa using c3 | (simp at c3 ⊢; omega)
  obtain rfl := Option.some.inj H
  go_enter Try.func46, Try.ntmps46
  go_wp2
  repeat (go_quiet (fail); try go_wp2)
  go_ret
  exact ⟨by first | rfl | (simp; done) | (simp [*]; done), au8⟩

end

section
attribute [local go_sem] str_geq str_leq str_gtr
def spec_l4Files.l0 : Nat → List (S80) → Int → Int → Option (Bool)
 | 0, _, _, _ => none
 | k + 1, x0, x3, x4 => if x4 < (x0.length : Int) then (if 0 ≤ x4 then ((spec_l4Name.f ((qai x0 x4).f0)).bind fun t102 => (if t102 = true then (if x4 > 0 then (if 0 ≤ (wrap64 (x4 - 1)) then (if (wrap64 (x4 - 1)) < (x0.length : Int) then (if ((Op.bytesLess (((qai x0 (wrap64 (x4 - 1))).f0).toList) (((qai x0 x4).f0).toList)) = true) then (spec_l4Files.l0 k x0 (wrap64 (x3 + (((qai x0 x4).f1).size : Int))) (wrap64 (x4 + 1))) else (some false)) else (none)) else (none)) else (spec_l4Files.l0 k x0 (wrap64 (x3 + (((qai x0 x4).f1).size : Int))) (wrap64 (x4 + 1)))) else (some false))) else (none)) else (some (decide (x3 ≤ 200000)))
def spec_l4Files.f (k : Nat) (l0 : List (S80)) : Option (Bool) := if (l0.length : Int) > 60 then (some false) else (spec_l4Files.l0 k l0 0 0)
theorem spec_l4Files.mono_l : ∀ k, (∀ y0 y1 y2, LeO (spec_l4Files.l0 k y0 y1 y2) (spec_l4Files.l0 (k + 1) y0 y1 y2))
 | 0 => fun _ _ _ r h => by simp [spec_l4Files.l0] at h
 | k + 1 => by
  have ih0 := spec_l4Files.mono_l k
  ·
   intro y0 y1 y2
   unfold spec_l4Files.l0
   repeat' first
   | (with_reducible exact ih0 _ _ _)
   | (with_reducible exact LeO.refl _)
   | (with_reducible exact LeO.none _)
   | (with_reducible refine LeO.ite ?_ ?_)
   | (with_reducible refine LeO.bind ?_ (fun _ => ?_))
   | exact ih0 _ _ _
   | exact LeO.none _
   | refine LeO.ite ?_ ?_
   | refine LeO.bind ?_ (fun _ => ?_)
theorem spec_l4Files.mono : ∀ a0 k, LeO (spec_l4Files.f k a0) (spec_l4Files.f (k + 1) a0) := by
 intro a0 k
 have ih0 := spec_l4Files.mono_l k
 unfold spec_l4Files.f
 repeat' first
  | (with_reducible exact ih0 _ _ _)
  | (with_reducible exact LeO.refl _)
  | (with_reducible exact LeO.none _)
  | (with_reducible refine LeO.ite ?_ ?_)
  | (with_reducible refine LeO.bind ?_ (fun _ => ?_))
  | exact ih0 _ _ _
  | exact LeO.none _
  | refine LeO.ite ?_ ?_
  | refine LeO.bind ?_ (fun _ => ?_)
set_option maxHeartbeats 8000000 in
set_option maxRecDepth 100000 in
theorem spec_l4Files.calls (k : Nat) (A0 : Option Addr) (c0 : Nat) (l0 : List (S80)) (r : Bool) (w : World) (hr0 : Kd.C k80 w A0 l0.length l0) (hc0 : l0.length ≤ c0) (h : spec_l4Files.f k l0 = some r) :
 Calls Try.prog 43 #[.slice A0 l0.length c0] w fun e w' => e = .returned (.bool r) ∧ Drawn0 w w' := by
 have HR0 := am hr0
 have HC0 := am hc0
 clear hr0 hc0
 have H : (if (l0.length : Int) > 60 then (some false) else (spec_l4Files.l0 k l0 0 0)) = some r := h
 clear h
 by_cases c2 : (l0.length : Int) > 60
 ·
  rw [if_pos c2] at H
  have c2b0 : decide (60 < (l0.length : Int)) = true := decide_eq_true c2
  have c2b1 : decide (60 < l0.length) = true := decide_eq_true (by omega)
  clear c2
  obtain rfl := Option.some.inj H
  go_enter Try.func43, Try.ntmps43
  go_wp2
  repeat (go_quiet (fail); try go_wp2)
  go_ret
  exact ⟨by first | rfl | (simp; done) | (simp [*]; done), au8⟩
 ·
  rw [if_neg c2] at H
  have c2b0 : decide (60 < (l0.length : Int)) = false := decide_eq_false c2
  have c2b1 : decide (60 < l0.length) = false := decide_eq_false (by omega)
  clear c2
  have H' := am H
  clear H
  go_enter Try.func43, Try.ntmps43
  go_wp2
  repeat (go_quiet (fail); try go_wp2)
  go_loopg [3, 4] k (fun kq v3 v4 w' => ∃ (x3_1 : Int) (x4_1 : Int), v3 = .int .i64 x3_1 ∧ v4 = .int .i64 x4_1 ∧ Aside0 (spec_l4Files.l0 kq l0 x3_1 x4_1 = some r) ∧ Aside0 (kq ≤ k) ∧ Drawn0 w w')
  case atStart => exact ⟨(0), (0), au10, au10, H', ⟨Nat.le_refl _⟩, au8⟩
  case round =>
   clear H'
   obtain ⟨x3_1, x4_1, rfl, rfl, HA, HK1, ⟨m1, rfl⟩⟩ := hrel
   cases gk with
   | zero => exact absurd HA.out (by simp [spec_l4Files.l0])
   | succ k1 =>
    have H := HA.out
    clear HA
    simp only [spec_l4Files.l0] at H
    by_cases c3 : x4_1 < (l0.length : Int)
    ·
     rw [if_pos c3] at H
     have c3b0 : decide (x4_1 < (l0.length : Int)) = true := decide_eq_true c3
     clear c3
     by_cases c4 : 0 ≤ x4_1
     ·
      rw [if_pos c4] at H
      have c4b0 : decide (0 ≤ x4_1) = true := decide_eq_true c4
      clear c4
      replace H := Option.bind_eq_some_iff.mp H
      obtain ⟨t102, A50, H⟩ := H
      replace H : (if t102 = true then (if x4_1 > 0 then (if 0 ≤ (wrap64 (x4_1 - 1)) then (if (wrap64 (x4_1 - 1)) < (l0.length : Int) then (if ((Op.bytesLess (((qai l0 (wrap64 (x4_1 - 1))).f0).toList) (((qai l0 x4_1).f0).toList)) = true) then (spec_l4Files.l0 k1 l0 (wrap64 (x3_1 + (((qai l0 x4_1).f1).size : Int))) (wrap64 (x4_1 + 1))) else (some false)) else (none)) else (none)) else (spec_l4Files.l0 k1 l0 (wrap64 (x3_1 + (((qai l0 x4_1).f1).size : Int))) (wrap64 (x4_1 + 1)))) else (some false)) = some r := H
      have A5 := am A50
      clear A50
      by_cases c6 : t102 = true
      ·
       subst c6
       have H1 : (if x4_1 > 0 then (if 0 ≤ (wrap64 (x4_1 - 1)) then (if (wrap64 (x4_1 - 1)) < (l0.length : Int) then (if ((Op.bytesLess (((qai l0 (wrap64 (x4_1 - 1))).f0).toList) (((qai l0 x4_1).f0).toList)) = true) then (spec_l4Files.l0 k1 l0 (wrap64 (x3_1 + (((qai l0 x4_1).f1).size : Int))) (wrap64 (x4_1 + 1))) else (some false)) else (none)) else (none)) else (spec_l4Files.l0 k1 l0 (wrap64 (x3_1 + (((qai l0 x4_1).f1).size : Int))) (wrap64 (x4_1 + 1)))) = some r := by rw [if_pos rfl] at H; exact H
       clear H
       have H := H1
       clear H1
       by_cases c7 : x4_1 > 0
       ·
        rw [if_pos c7] at H
        have c7b0 : decide (0 < x4_1) = true := decide_eq_true c7
        clear c7
        obtain ⟨ji8, hji8⟩ : ∃ j_ : Int, (wrap64 (x4_1 - 1)) = j_ := ⟨_, rfl⟩
        replace H : (if 0 ≤ (ji8) then (if (ji8) < (l0.length : Int) then (if ((Op.bytesLess (((qai l0 (ji8)).f0).toList) (((qai l0 x4_1).f0).toList)) = true) then (spec_l4Files.l0 k1 l0 (wrap64 (x3_1 + (((qai l0 x4_1).f1).size : Int))) (wrap64 (x4_1 + 1))) else (some false)) else (none)) else (none)) = some r := by first | (rw [hji8] at H; exact H) | (simp only [hji8] at H ⊢; exact H)
        (try rw [hji8] at A5)
        have hji8w : (IntKind.i64.wrap (x4_1 - 1)) = ji8 := (i64_w _).trans hji8
        by_cases c9 : 0 ≤ (ji8)
        ·
         rw [if_pos c9] at H
         have c9b0 : decide (0 ≤ (ji8)) = true := decide_eq_true c9
         clear c9
         by_cases c10 : (ji8) < (l0.length : Int)
         ·
          rw [if_pos c10] at H
          have c10b0 : decide ((ji8) < (l0.length : Int)) = true := decide_eq_true c10
          clear c10
          by_cases c11 : ((Op.bytesLess (((qai l0 (ji8)).f0).toList) (((qai l0 x4_1).f0).toList)) = true)
          ·
           rw [if_pos c11] at H
           have c11b0 : (Op.bytesLess (((qai l0 (ji8)).f0).toList) (((qai l0 x4_1).f0).toList)) = true := c11
           clear c11
           have H' := am H
           clear H
           have p101 : 0 ≤ (x4_1 : Int) := of_decide_eq_true au9
           have q101 : x4_1 < (l0.length : Int) := of_decide_eq_true au9
           obtain ⟨ad101, e101, hx101_0, hx101_1⟩ := qax HR0.out x4_1 p101 q101
           cases e101
           replace p101 := eq_true p101
           replace q101 := eq_true q101
           go_wp2_with (first | (go_at_call 84; (with_reducible refine (spec_l4Name.calls ((qai l0 x4_1).f0) true _ A5.out).mono ?_); rintro e w' ⟨rfl, ⟨nd, rfl⟩⟩; (try first | exact ⟨rfl, _, World.drewN_drewN _ _ _⟩ | exact ⟨rfl, _, Eq.trans (World.drewN_drewN _ _ _) (congrArg (World.drewN _) (Nat.add_assoc _ _ _))⟩); have p103 : 0 ≤ (x4_1 : Int) := of_decide_eq_true au9; have q103 : x4_1 < (l0.length : Int) := of_decide_eq_true au9; obtain ⟨ad103, e103, hx103_0, hx103_1⟩ := qax HR0.out x4_1 p103 q103; obtain rfl : ad101 = ad103 := (by injection e103); replace p103 := eq_true p103; replace q103 := eq_true q103; have p104 : 0 ≤ ((ji8) : Int) := of_decide_eq_true au9; have q104 : (ji8) < (l0.length : Int) := of_decide_eq_true au9; obtain ⟨ad104, e104, hx104_0, hx104_1⟩ := qax HR0.out (ji8) p104 q104; obtain rfl : ad101 = ad104 := (by injection e104); replace p104 := eq_true p104; replace q104 := eq_true q104; have p105 : 0 ≤ (x4_1 : Int) := of_decide_eq_true au9; have q105 : x4_1 < (l0.length : Int) := of_decide_eq_true au9; obtain ⟨ad105, e105, hx105_0, hx105_1⟩ := qax HR0.out x4_1 p105 q105; obtain rfl : ad101 = ad105 := (by injection e105); replace p105 := eq_true p105; replace q105 := eq_true q105))
           (try (have p103 : 0 ≤ (x4_1 : Int) := of_decide_eq_true au9; have q103 : x4_1 < (l0.length : Int) := of_decide_eq_true au9; obtain ⟨ad103, e103, hx103_0, hx103_1⟩ := qax HR0.out x4_1 p103 q103; obtain rfl : ad101 = ad103 := (by injection e103); replace p103 := eq_true p103; replace q103 := eq_true q103; have p104 : 0 ≤ ((ji8) : Int) := of_decide_eq_true au9; have q104 : (ji8) < (l0.length : Int) := of_decide_eq_true au9; obtain ⟨ad104, e104, hx104_0, hx104_1⟩ := qax HR0.out (ji8) p104 q104; obtain rfl : ad101 = ad104 := (by injection e104); replace p104 := eq_true p104; replace q104 := eq_true q104; have p105 : 0 ≤ (x4_1 : Int) := of_decide_eq_true au9; have q105 : x4_1 < (l0.length : Int) := of_decide_eq_true au9; obtain ⟨ad105, e105, hx105_0, hx105_1⟩ := qax HR0.out x4_1 p105 q105; obtain rfl : ad101 = ad105 := (by injection e105); replace p105 := eq_true p105; replace q105 := eq_true q105))
           repeat (go_quiet (first | (go_at_call 84; (with_reducible refine (spec_l4Name.calls ((qai l0 x4_1).f0) true _ A5.out).mono ?_); rintro e w' ⟨rfl, ⟨nd, rfl⟩⟩; (try first | exact ⟨rfl, _, World.drewN_drewN _ _ _⟩ | exact ⟨rfl, _, Eq.trans (World.drewN_drewN _ _ _) (congrArg (World.drewN _) (Nat.add_assoc _ _ _))⟩))); try go_wp2_with (first | (go_at_call 84; (with_reducible refine (spec_l4Name.calls ((qai l0 x4_1).f0) true _ A5.out).mono ?_); rintro e w' ⟨rfl, ⟨nd, rfl⟩⟩; (try first | exact ⟨rfl, _, World.drewN_drewN _ _ _⟩ | exact ⟨rfl, _, Eq.trans (World.drewN_drewN _ _ _) (congrArg (World.drewN _) (Nat.add_assoc _ _ _))⟩); have p103 : 0 ≤ (x4_1 : Int) := of_decide_eq_true au9; have q103 : x4_1 < (l0.length : Int) := of_decide_eq_true au9; obtain ⟨ad103, e103, hx103_0, hx103_1⟩ := qax HR0.out x4_1 p103 q103; obtain rfl : ad101 = ad103 := (by injection e103); replace p103 := eq_true p103; replace q103 := eq_true q103; have p104 : 0 ≤ ((ji8) : Int) := of_decide_eq_true au9; have q104 : (ji8) < (l0.length : Int) := of_decide_eq_true au9; obtain ⟨ad104, e104, hx104_0, hx104_1⟩ := qax HR0.out (ji8) p104 q104; obtain rfl : ad101 = ad104 := (by injection e104); replace p104 := eq_true p104; replace q104 := eq_true q104; have p105 : 0 ≤ (x4_1 : Int) := of_decide_eq_true au9; have q105 : x4_1 < (l0.length : Int) := of_decide_eq_true au9; obtain ⟨ad105, e105, hx105_0, hx105_1⟩ := qax HR0.out x4_1 p105 q105; obtain rfl : ad101 = ad105 := (by injection e105); replace p105 := eq_true p105; replace q105 := eq_true q105)))
           go_roundg k1
           case measure => have := HK1.out; omega
           case rel => exact ⟨(wrap64 (x3_1 + (((qai l0 x4_1).f1).size : Int))), (wrap64 (x4_1 + 1)), au10, au10, H', ⟨by have := HK1.out; omega⟩, au8⟩
          ·
           rw [if_neg c11] at H
           have c11b0 : (Op.bytesLess (((qai l0 (ji8)).f0).toList) (((qai l0 x4_1).f0).toList)) = false := by simpa using c11
           clear c11
           obtain rfl := Option.some.inj H
           have p101 : 0 ≤ (x4_1 : Int) := of_decide_eq_true au9
           have q101 : x4_1 < (l0.length : Int) := of_decide_eq_true au9
           obtain ⟨ad101, e101, hx101_0, hx101_1⟩ := qax HR0.out x4_1 p101 q101
           cases e101
           replace p101 := eq_true p101
           replace q101 := eq_true q101
           go_wp2_with (first | (go_at_call 84; (with_reducible refine (spec_l4Name.calls ((qai l0 x4_1).f0) true _ A5.out).mono ?_); rintro e w' ⟨rfl, ⟨nd, rfl⟩⟩; (try first | exact ⟨rfl, _, World.drewN_drewN _ _ _⟩ | exact ⟨rfl, _, Eq.trans (World.drewN_drewN _ _ _) (congrArg (World.drewN _) (Nat.add_assoc _ _ _))⟩); have p103 : 0 ≤ (x4_1 : Int) := of_decide_eq_true au9; have q103 : x4_1 < (l0.length : Int) := of_decide_eq_true au9; obtain ⟨ad103, e103, hx103_0, hx103_1⟩ := qax HR0.out x4_1 p103 q103; obtain rfl : ad101 = ad103 := (by injection e103); replace p103 := eq_true p103; replace q103 := eq_true q103; have p104 : 0 ≤ ((ji8) : Int) := of_decide_eq_true au9; have q104 : (ji8) < (l0.length : Int) := of_decide_eq_true au9; obtain ⟨ad104, e104, hx104_0, hx104_1⟩ := qax HR0.out (ji8) p104 q104; obtain rfl : ad101 = ad104 := (by injection e104); replace p104 := eq_true p104; replace q104 := eq_true q104))
           (try (have p103 : 0 ≤ (x4_1 : Int) := of_decide_eq_true au9; have q103 : x4_1 < (l0.length : Int) := of_decide_eq_true au9; obtain ⟨ad103, e103, hx103_0, hx103_1⟩ := qax HR0.out x4_1 p103 q103; obtain rfl : ad101 = ad103 := (by injection e103); replace p103 := eq_true p103; replace q103 := eq_true q103; have p104 : 0 ≤ ((ji8) : Int) := of_decide_eq_true au9; have q104 : (ji8) < (l0.length : Int) := of_decide_eq_true au9; obtain ⟨ad104, e104, hx104_0, hx104_1⟩ := qax HR0.out (ji8) p104 q104; obtain rfl : ad101 = ad104 := (by injection e104); replace p104 := eq_true p104; replace q104 := eq_true q104))
           repeat (go_quiet (first | (go_at_call 84; (with_reducible refine (spec_l4Name.calls ((qai l0 x4_1).f0) true _ A5.out).mono ?_); rintro e w' ⟨rfl, ⟨nd, rfl⟩⟩; (try first | exact ⟨rfl, _, World.drewN_drewN _ _ _⟩ | exact ⟨rfl, _, Eq.trans (World.drewN_drewN _ _ _) (congrArg (World.drewN _) (Nat.add_assoc _ _ _))⟩))); try go_wp2_with (first | (go_at_call 84; (with_reducible refine (spec_l4Name.calls ((qai l0 x4_1).f0) true _ A5.out).mono ?_); rintro e w' ⟨rfl, ⟨nd, rfl⟩⟩; (try first | exact ⟨rfl, _, World.drewN_drewN _ _ _⟩ | exact ⟨rfl, _, Eq.trans (World.drewN_drewN _ _ _) (congrArg (World.drewN _) (Nat.add_assoc _ _ _))⟩); have p103 : 0 ≤ (x4_1 : Int) := of_decide_eq_true au9; have q103 : x4_1 < (l0.length : Int) := of_decide_eq_true au9; obtain ⟨ad103, e103, hx103_0, hx103_1⟩ := qax HR0.out x4_1 p103 q103; obtain rfl : ad101 = ad103 := (by injection e103); replace p103 := eq_true p103; replace q103 := eq_true q103; have p104 : 0 ≤ ((ji8) : Int) := of_decide_eq_true au9; have q104 : (ji8) < (l0.length : Int) := of_decide_eq_true au9; obtain ⟨ad104, e104, hx104_0, hx104_1⟩ := qax HR0.out (ji8) p104 q104; obtain rfl : ad101 = ad104 := (by injection e104); replace p104 := eq_true p104; replace q104 := eq_true q104)))
           go_ret
           exact ⟨by first | rfl | (simp; done) | (simp only [← hji8] <;> (first | rfl | simp)) | (simp [*]; done), au8⟩
         ·
          rw [if_neg c10] at H
          exact absurd H (by simp)
        ·
         rw [if_neg c9] at H
         exact absurd H (by simp)
       ·
        rw [if_neg c7] at H
        have c7b0 : decide (0 < x4_1) = false := decide_eq_false c7
        clear c7
        have H' := am H
        clear H
        have p101 : 0 ≤ (x4_1 : Int) := of_decide_eq_true au9
        have q101 : x4_1 < (l0.length : Int) := of_decide_eq_true au9
        obtain ⟨ad101, e101, hx101_0, hx101_1⟩ := qax HR0.out x4_1 p101 q101
        cases e101
        replace p101 := eq_true p101
        replace q101 := eq_true q101
        go_wp2_with (first | (go_at_call 84; (with_reducible refine (spec_l4Name.calls ((qai l0 x4_1).f0) true _ A5.out).mono ?_); rintro e w' ⟨rfl, ⟨nd, rfl⟩⟩; (try first | exact ⟨rfl, _, World.drewN_drewN _ _ _⟩ | exact ⟨rfl, _, Eq.trans (World.drewN_drewN _ _ _) (congrArg (World.drewN _) (Nat.add_assoc _ _ _))⟩); have p106 : 0 ≤ (x4_1 : Int) := of_decide_eq_true au9; have q106 : x4_1 < (l0.length : Int) := of_decide_eq_true au9; obtain ⟨ad106, e106, hx106_0, hx106_1⟩ := qax HR0.out x4_1 p106 q106; obtain rfl : ad101 = ad106 := (by injection e106); replace p106 := eq_true p106; replace q106 := eq_true q106))
        (try (have p106 : 0 ≤ (x4_1 : Int) := of_decide_eq_true au9; have q106 : x4_1 < (l0.length : Int) := of_decide_eq_true au9; obtain ⟨ad106, e106, hx106_0, hx106_1⟩ := qax HR0.out x4_1 p106 q106; obtain rfl : ad101 = ad106 := (by injection e106); replace p106 := eq_true p106; replace q106 := eq_true q106))
        repeat (go_quiet (first | (go_at_call 84; (with_reducible refine (spec_l4Name.calls ((qai l0 x4_1).f0) true _ A5.out).mono ?_); rintro e w' ⟨rfl, ⟨nd, rfl⟩⟩; (try first | exact ⟨rfl, _, World.drewN_drewN _ _ _⟩ | exact ⟨rfl, _, Eq.trans (World.drewN_drewN _ _ _) (congrArg (World.drewN _) (Nat.add_assoc _ _ _))⟩))); try go_wp2_with (first | (go_at_call 84; (with_reducible refine (spec_l4Name.calls ((qai l0 x4_1).f0) true _ A5.out).mono ?_); rintro e w' ⟨rfl, ⟨nd, rfl⟩⟩; (try first | exact ⟨rfl, _, World.drewN_drewN _ _ _⟩ | exact ⟨rfl, _, Eq.trans (World.drewN_drewN _ _ _) (congrArg (World.drewN _) (Nat.add_assoc _ _ _))⟩); have p106 : 0 ≤ (x4_1 : Int) := of_decide_eq_true au9; have q106 : x4_1 < (l0.length : Int) := of_decide_eq_true au9; obtain ⟨ad106, e106, hx106_0, hx106_1⟩ := qax HR0.out x4_1 p106 q106; obtain rfl : ad101 = ad106 := (by injection e106); replace p106 := eq_true p106; replace q106 := eq_true q106)))
        go_roundg k1
        case measure => have := HK1.out; omega
        case rel => exact ⟨(wrap64 (x3_1 + (((qai l0 x4_1).f1).size : Int))), (wrap64 (x4_1 + 1)), au10, au10, H', ⟨by have := HK1.out; omega⟩, au8⟩
      ·
       replace c6 := Bool.eq_false_iff.mpr c6
       subst c6
       have H1 : (some false) = some r := by rw [if_neg (show ¬ (false = true) by decide)] at H; exact H
       clear H
       have H := H1
       clear H1
       obtain rfl := Option.some.inj H
       have p101 : 0 ≤ (x4_1 : Int) := of_decide_eq_true au9
       have q101 : x4_1 < (l0.length : Int) := of_decide_eq_true au9
       obtain ⟨ad101, e101, hx101_0, hx101_1⟩ := qax HR0.out x4_1 p101 q101
       cases e101
       replace p101 := eq_true p101
       replace q101 := eq_true q101
       go_wp2_with (first | (go_at_call 84; (with_reducible refine (spec_l4Name.calls ((qai l0 x4_1).f0) false _ A5.out).mono ?_); rintro e w' ⟨rfl, ⟨nd, rfl⟩⟩; (try first | exact ⟨rfl, _, World.drewN_drewN _ _ _⟩ | exact ⟨rfl, _, Eq.trans (World.drewN_drewN _ _ _) (congrArg (World.drewN _) (Nat.add_assoc _ _ _))⟩)))
       repeat (go_quiet (first | (go_at_call 84; (with_reducible refine (spec_l4Name.calls ((qai l0 x4_1).f0) false _ A5.out).mono ?_); rintro e w' ⟨rfl, ⟨nd, rfl⟩⟩; (try first | exact ⟨rfl, _, World.drewN_drewN _ _ _⟩ | exact ⟨rfl, _, Eq.trans (World.drewN_drewN _ _ _) (congrArg (World.drewN _) (Nat.add_assoc _ _ _))⟩))); try go_wp2_with (first | (go_at_call 84; (with_reducible refine (spec_l4Name.calls ((qai l0 x4_1).f0) false _ A5.out).mono ?_); rintro e w' ⟨rfl, ⟨nd, rfl⟩⟩; (try first | exact ⟨rfl, _, World.drewN_drewN _ _ _⟩ | exact ⟨rfl, _, Eq.trans (World.drewN_drewN _ _ _) (congrArg (World.drewN _) (Nat.add_assoc _ _ _))⟩))))
       go_ret
       exact ⟨by first | rfl | (simp; done) | (simp [*]; done), au8⟩
     ·
      rw [if_neg c4] at H
      exact absurd H (by simp)
    ·
     rw [if_neg c3] at H
     have c3b0 : decide (x4_1 < (l0.length : Int)) = false := decide_eq_false c3
     clear c3
     obtain rfl := Option.some.inj H
     go_wp2
     repeat (go_quiet (fail); try go_wp2)
     go_ret
     exact ⟨by first | rfl | (simp; done) | (simp [*]; done), au8⟩

end

section
theorem qdf (l : List S80) (i : Nat) (h : i < l.length) : qai l (i : Int) = l[i] := by
 unfold qai
 rw [Int.toNat_natCast, List.getD_eq_getElem?_getD, List.getElem?_eq_getElem h]
 rfl
def nameB (n : ByteArray) : Bool := decide (1 ≤ n.size) && decide (n.size ≤ 100)
theorem impl_isFileName.eq (n : ByteArray) : impl_isFileName.f n = some (nameB n) := by
 unfold impl_isFileName.f nameB
 by_cases h : 1 ≤ n.size
 ·
  rw [if_pos (by omega), decide_eq_true h, Bool.true_and]
  congr 1
  exact decide_eq_decide.2 (by omega)
 · rw [if_neg (by omega), decide_eq_false h, Bool.false_and]
theorem spec_l4Name.eq (n : ByteArray) : spec_l4Name.f n = some (nameB n) := impl_isFileName.eq n
def upB : Option ByteArray → ByteArray → Bool
 | none, _ => true
 | some q, n => Op.bytesLess q.toList n.toList
def qdx (p : Option ByteArray) : List S80 → Bool
 | [] => true
 | x :: r => nameB x.f0 && (upB p x.f0 && qdx (some x.f0) r)
def sumF (l : List S80) : Nat := (l.map (fun x => x.f1.size)).sum
def qbh (l : List S80) : Bool := qdx none l && (decide (sumF l ≤ 200000) && decide (l.length ≤ 60))
def smallF (l : List S80) : Prop := ∀ x ∈ l, x.f1.size ≤ 1099511627776
def prevF (l : List S80) (i : Nat) : Option ByteArray := if i = 0 then none else some (qai l ((i - 1 : Nat) : Int)).f0
theorem prevF_succ (l : List S80) (i : Nat) (h : i < l.length) : prevF l (i + 1) = some l[i].f0 := by
 unfold prevF
 rw [if_neg (by omega), Nat.add_sub_cancel, qdf l i h]
theorem namesB_step (l : List S80) (i : Nat) (h : i < l.length) : qdx (prevF l i) (l.drop i) = (nameB l[i].f0 && ((if i = 0 then true else Op.bytesLess (qai l ((i - 1 : Nat) : Int)).f0.toList l[i].f0.toList) && qdx (prevF l (i + 1)) (l.drop (i + 1)))) := by
 rw [List.drop_eq_getElem_cons h, qdx, prevF_succ l i h]
 unfold prevF
 by_cases hi : i = 0
 ·
  rw [if_pos hi, if_pos hi]
  rfl
 ·
  rw [if_neg hi, if_neg hi]
  rfl
theorem sumF_step (l : List S80) (i : Nat) (h : i < l.length) : sumF (l.drop i) = l[i].f1.size + sumF (l.drop (i + 1)) := by
 rw [List.drop_eq_getElem_cons h]
 unfold sumF
 rw [List.map_cons, List.sum_cons]
theorem sumF_end (l : List S80) (i : Nat) (h : l.length ≤ i) : sumF (l.drop i) = 0 := by
 rw [List.drop_of_length_le h]
 rfl
theorem namesB_end (l : List S80) (i : Nat) (h : l.length ≤ i) : qdx (prevF l i) (l.drop i) = true := by
 rw [List.drop_of_length_le h]
 rfl
theorem impl_areFiles.l0_ev (l : List S80) (hs : ∀ x ∈ l, x.f1.size ≤ 1099512000000) (hl : l.length ≤ 9223372036854775807) (d : Nat) : ∀ (i b : Nat), l.length - i = d → i ≤ l.length → b ≤ 200000 →
 Ev (fun k => impl_areFiles.l0 k l b l (l.length : Int) i) (qdx (prevF l i) (l.drop i) && (decide (b + sumF (l.drop i) ≤ 200000) && decide (l.length ≤ 60))) := by
 induction d with
 | zero =>
  intro i b hd hi hb
  refine Ev.step (fun k => by rw [impl_areFiles.l0]) ?_
  refine Ev.neg (by omega) (Ev.ret' ?_)
  rw [namesB_end l i (by omega), sumF_end l i (by omega), Bool.true_and, Nat.add_zero, decide_eq_true hb, Bool.true_and]
  exact decide_eq_decide.2 (by omega)
 | succ d ih =>
  intro i b hd hi hb
  have hlt : i < l.length := by omega
  have hsz := hs _ (List.getElem_mem hlt)
  refine Ev.step (fun k => by rw [impl_areFiles.l0]) ?_
  refine Ev.pos (by omega) (Ev.pos (by omega) (Ev.pos (by omega) ?_))
  rw [namesB_step l i hlt, sumF_step l i hlt, qdf l i hlt]
  refine Ev.bindS (impl_isFileName.eq _) ?_
  cases hn : nameB l[i].f0 with
  | false => exact Ev.neg (by simp) (Ev.ret' (by simp))
  | true =>
   refine Ev.pos rfl ?_
   rw [qba (x := (b : Int) + (l[i].f1.size : Int)) (by omega) (by omega)]
   by_cases hbig : (b : Int) + (l[i].f1.size : Int) > 200000
   ·
    refine Ev.pos hbig (Ev.ret' ?_)
    rw [decide_eq_false (by omega : ¬ b + (l[i].f1.size + sumF (l.drop (i + 1))) ≤ 200000)]
    simp
   ·
    refine Ev.neg hbig ?_
    have hih := ih (i + 1) (b + l[i].f1.size) (by omega) (by omega) (by omega)
    rw [show ((b + l[i].f1.size : Nat) : Int) = (b : Int) + (l[i].f1.size : Int) by omega, Nat.add_assoc] at hih
    have e2 : wrap64 ((i : Int) + 1) = ((i + 1 : Nat) : Int) := by rw [qba (by omega) (by omega)]; omega
    rw [e2]
    by_cases h0 : (i : Int) > 0
    ·
     refine Ev.pos h0 ?_
     have e1 : wrap64 ((i : Int) - 1) = ((i - 1 : Nat) : Int) := by rw [qba (by omega) (by omega)]; omega
     rw [e1, if_neg (by omega)]
     refine Ev.pos (by omega) (Ev.pos (by omega) ?_)
     cases hc : Op.bytesLess (qai l ((i - 1 : Nat) : Int)).f0.toList l[i].f0.toList with
     | true => exact Ev.pos rfl (Ev.eq hih (by simp))
     | false => exact Ev.neg (by simp) (Ev.ret' (by simp))
    ·
     refine Ev.neg h0 ?_
     rw [if_pos (by omega)]
     exact Ev.eq hih (by simp)
theorem impl_areFiles.ev' (l : List S80) (hs : ∀ x ∈ l, x.f1.size ≤ 1099512000000) (hl : l.length ≤ 9223372036854775807) : Ev (fun k => impl_areFiles.f k l) (qbh l) := by
 have := impl_areFiles.l0_ev l hs hl _ 0 0 rfl (Nat.zero_le _) (by omega)
 rw [Nat.zero_add] at this
 exact this
theorem spec_l4Files.l0_ev (l : List S80) (hs : ∀ x ∈ l, x.f1.size ≤ 1099512000000) (hl : l.length ≤ 60) (d : Nat) : ∀ (i b : Nat), l.length - i = d → i ≤ l.length → b ≤ i * 1099512000000 →
 Ev (fun k => spec_l4Files.l0 k l b i) (qdx (prevF l i) (l.drop i) && decide (b + sumF (l.drop i) ≤ 200000)) := by
 induction d with
 | zero =>
  intro i b hd hi hb
  refine Ev.step (fun k => by rw [spec_l4Files.l0]) ?_
  refine Ev.neg (by omega) (Ev.ret' ?_)
  rw [namesB_end l i (by omega), sumF_end l i (by omega), Bool.true_and, Nat.add_zero]
  exact decide_eq_decide.2 (by omega)
 | succ d ih =>
  intro i b hd hi hb
  have hlt : i < l.length := by omega
  have hsz := hs _ (List.getElem_mem hlt)
  refine Ev.step (fun k => by rw [spec_l4Files.l0]) ?_
  refine Ev.pos (by omega) (Ev.pos (by omega) ?_)
  rw [namesB_step l i hlt, sumF_step l i hlt, qdf l i hlt]
  refine Ev.bindS (spec_l4Name.eq _) ?_
  cases hn : nameB l[i].f0 with
  | false => exact Ev.neg (by simp) (Ev.ret' (by simp))
  | true =>
   refine Ev.pos rfl ?_
   rw [qba (x := (b : Int) + (l[i].f1.size : Int)) (by omega) (by omega)]
   have hih := ih (i + 1) (b + l[i].f1.size) (by omega) (by omega) (by omega)
   rw [show ((b + l[i].f1.size : Nat) : Int) = (b : Int) + (l[i].f1.size : Int) by omega, Nat.add_assoc] at hih
   have e2 : wrap64 ((i : Int) + 1) = ((i + 1 : Nat) : Int) := by rw [qba (by omega) (by omega)]; omega
   rw [e2]
   by_cases h0 : (i : Int) > 0
   ·
    refine Ev.pos h0 ?_
    have e1 : wrap64 ((i : Int) - 1) = ((i - 1 : Nat) : Int) := by rw [qba (by omega) (by omega)]; omega
    rw [e1, if_neg (by omega)]
    refine Ev.pos (by omega) (Ev.pos (by omega) ?_)
    cases hc : Op.bytesLess (qai l ((i - 1 : Nat) : Int)).f0.toList l[i].f0.toList with
    | true => exact Ev.pos rfl (Ev.eq hih (by simp))
    | false => exact Ev.neg (by simp) (Ev.ret' (by simp))
   ·
    refine Ev.neg h0 ?_
    rw [if_pos (by omega)]
    exact Ev.eq hih (by simp)
theorem spec_l4Files.ev' (l : List S80) (hs : ∀ x ∈ l, x.f1.size ≤ 1099512000000) : Ev (fun k => spec_l4Files.f k l) (qbh l) := by
 unfold spec_l4Files.f qbh
 by_cases h : (l.length : Int) > 60
 ·
  refine Ev.pos h (Ev.ret' ?_)
  rw [decide_eq_false (by omega : ¬ l.length ≤ 60)]
  simp
 ·
  refine Ev.neg h ?_
  have := spec_l4Files.l0_ev l hs (by omega) _ 0 0 rfl (Nat.zero_le _) (by omega)
  rw [Nat.zero_add] at this
  exact Ev.eq this (by rw [decide_eq_true (by omega : l.length ≤ 60), Bool.and_true]; rfl)
theorem namesB_rise : ∀ (l : List S80) (p : Option ByteArray), qdx p l = true → qci l ∧ ∀ q, p = some q → ∀ x ∈ l, Op.bytesLess q.toList x.f0.toList = true
 | [], p, _ => ⟨List.Pairwise.nil, fun _ _ x hx => by cases hx⟩
 | x :: r, p, h => by
  rw [qdx, Bool.and_eq_true, Bool.and_eq_true] at h
  obtain ⟨_, h1, h2⟩ := h
  obtain ⟨i1, i2⟩ := namesB_rise r _ h2
  refine ⟨List.Pairwise.cons (fun y hy => i2 _ rfl y hy) i1, ?_⟩
  rintro q rfl y hy
  rcases List.mem_cons.1 hy with rfl | hy
  · exact h1
  · exact qdk h1 (i2 _ rfl y hy)
theorem mem_sumF (l : List S80) (x : S80) (hx : x ∈ l) : x.f1.size ≤ sumF l := by
 induction l with
 | nil => cases hx
 | cons y r ih =>
  unfold sumF at ih ⊢
  rw [List.map_cons, List.sum_cons]
  rcases List.mem_cons.1 hx with rfl | hx
  · omega
  ·
   have := ih hx
   omega
theorem qbn {l : List S80} (h : qbh l = true) : qci l ∧ l.length ≤ 60 ∧ ∀ x ∈ l, x.f1.size ≤ 200000 := by
 unfold qbh at h
 rw [Bool.and_eq_true, Bool.and_eq_true, decide_eq_true_eq, decide_eq_true_eq] at h
 exact ⟨(namesB_rise l none h.1).1, h.2.2, fun x hx => by have := mem_sumF l x hx; omega⟩
def eqF (a b : S80) : Bool := (a.f0.toList == b.f0.toList) && (a.f1.toList == b.f1.toList)
def sameF : List S80 → List S80 → Bool
 | [], [] => true
 | a :: l, b :: m => eqF a b && sameF l m
 | _, _ => false
theorem sameF_len : ∀ (l m : List S80), l.length ≠ m.length → sameF l m = false
 | [], [], h => absurd rfl h
 | [], _ :: _, _ => rfl
 | _ :: _, [], _ => rfl
 | a :: l, b :: m, h => by rw [sameF, sameF_len l m (by simpa using h), Bool.and_false]
theorem sameF_step (l m : List S80) (i : Nat) (h : i < l.length) (h' : i < m.length) : sameF (l.drop i) (m.drop i) = (eqF l[i] m[i] && sameF (l.drop (i + 1)) (m.drop (i + 1))) := by
 rw [List.drop_eq_getElem_cons h, List.drop_eq_getElem_cons h', sameF]
theorem eqF_not (a b : S80) : (!((a.f0.toList) == (b.f0.toList)) || (!((a.f1.toList) == (b.f1.toList)))) = !(eqF a b) := by
 unfold eqF
 rw [Bool.not_and]

end

section
def impl_in.f (a0 : Int) (a1 : Int) (a2 : Int) : Option (Bool) := if a0 ≥ a1 then (some (decide (a0 ≤ a2))) else (some false)
set_option maxHeartbeats 8000000 in
set_option maxRecDepth 100000 in
theorem impl_in.calls (a0 : Int) (a1 : Int) (a2 : Int) (r : Bool) (w : World) (h : impl_in.f a0 a1 a2 = some r) :
 Calls Try.prog 60 #[.int .i64 a0, .int .i64 a1, .int .i64 a2] w fun e w' => e = .returned (.bool r) ∧ Drawn0 w w' := by
 have H : (if a0 ≥ a1 then (some (decide (a0 ≤ a2))) else (some false)) = some r := h
 clear h
 by_cases c4 : a0 ≥ a1
 ·
  rw [if_pos c4] at H
  have c4b0 : decide (a1 ≤ a0) = true := decide_eq_true c4
  clear c4
  obtain rfl := Option.some.inj H
  go_enter Try.func60, Try.ntmps60
  go_wp2
  go_ret
  exact ⟨by first | rfl | (simp; done) | (simp [*]; done), au8⟩
 ·
  rw [if_neg c4] at H
  have c4b0 : decide (a1 ≤ a0) = false := decide_eq_false c4
  clear c4
  obtain rfl := Option.some.inj H
  go_enter Try.func60, Try.ntmps60
  go_wp2
  go_ret
  exact ⟨by first | rfl | (simp; done) | (simp [*]; done), au8⟩

end

section
theorem impl_in.eq (a b c : Int) : impl_in.f a b c = some (decide (b ≤ a) && decide (a ≤ c)) := by
 unfold impl_in.f
 by_cases h : a ≥ b
 · rw [if_pos h, decide_eq_true h, Bool.true_and]
 · rw [if_neg h, decide_eq_false h, Bool.false_and]
theorem spec_l1In.eq (a b c : Int) : spec_l1In.f a b c = some (decide (b ≤ a) && decide (a ≤ c)) := by
 unfold spec_l1In.f
 by_cases h : a ≥ b
 · rw [if_pos h, decide_eq_true h, Bool.true_and]
 · rw [if_neg h, decide_eq_false h, Bool.false_and]

end

section
theorem impl_File_90.l0_ev (l m : List S80) (hm : l.length = m.length) (hl : l.length ≤ 4611686018427387904) (d : Nat) : ∀ i : Nat, l.length - i = d → i ≤ l.length →
 Ev (fun k => impl_File_90.l0 k l m (l.length : Int) i) (sameF (l.drop i) (m.drop i)) := by
 induction d with
 | zero =>
  intro i hd hi
  refine Ev.step (fun k => by rw [impl_File_90.l0]) ?_
  refine Ev.neg (by omega) (Ev.ret' ?_)
  rw [List.drop_of_length_le (by omega), List.drop_of_length_le (by omega), sameF]
 | succ d ih =>
  intro i hd hi
  have h1 : i < l.length := by omega
  have h2 : i < m.length := by omega
  refine Ev.step (fun k => by rw [impl_File_90.l0]) ?_
  refine Ev.pos (by omega) (Ev.pos (by omega) (Ev.pos (by omega) (Ev.pos (by omega) ?_)))
  rw [qdf l i h1, qdf m i h2, eqF_not, sameF_step l m i h1 h2]
  cases he : eqF l[i] m[i] with
  | false => exact Ev.pos rfl (Ev.ret' (by simp))
  | true =>
   refine Ev.neg (by simp) ?_
   rw [show wrap64 ((i : Int) + 1) = ((i + 1 : Nat) : Int) by rw [qba (by omega) (by omega)]; omega]
   exact Ev.eq (ih (i + 1) (by omega) (by omega)) (by simp)
theorem impl_File_90.ev (l m : List S80) (hl : l.length ≤ 4611686018427387904) : Ev (fun k => impl_File_90.f k l m) (sameF l m) := by
 unfold impl_File_90.f
 by_cases h : l.length = m.length
 · exact Ev.pos (by omega) (impl_File_90.l0_ev l m h hl _ 0 rfl (Nat.zero_le _))
 · exact Ev.neg (by omega) (Ev.ret' (sameF_len l m h).symm)
theorem spec_l4Same.l0_ev (l m : List S80) (hm : l.length = m.length) (hl : l.length ≤ 4611686018427387904) (d : Nat) : ∀ i : Nat, l.length - i = d → i ≤ l.length →
 Ev (fun k => spec_l4Same.l0 k l m i) (sameF (l.drop i) (m.drop i)) := by
 induction d with
 | zero =>
  intro i hd hi
  refine Ev.step (fun k => by rw [spec_l4Same.l0]) ?_
  refine Ev.neg (by omega) (Ev.ret' ?_)
  rw [List.drop_of_length_le (by omega), List.drop_of_length_le (by omega), sameF]
 | succ d ih =>
  intro i hd hi
  have h1 : i < l.length := by omega
  have h2 : i < m.length := by omega
  refine Ev.step (fun k => by rw [spec_l4Same.l0]) ?_
  refine Ev.pos (by omega) (Ev.pos (by omega) (Ev.pos (by omega) ?_))
  rw [qdf l i h1, qdf m i h2, eqF_not, sameF_step l m i h1 h2]
  cases he : eqF l[i] m[i] with
  | false => exact Ev.pos rfl (Ev.ret' (by simp))
  | true =>
   refine Ev.neg (by simp) ?_
   rw [show wrap64 ((i : Int) + 1) = ((i + 1 : Nat) : Int) by rw [qba (by omega) (by omega)]; omega]
   exact Ev.eq (ih (i + 1) (by omega) (by omega)) (by simp)
theorem spec_l4Same.ev (l m : List S80) (hl : l.length ≤ 4611686018427387904) : Ev (fun k => spec_l4Same.f k l m) (sameF l m) := by
 unfold spec_l4Same.f
 by_cases h : l.length = m.length
 · exact Ev.pos (by omega) (spec_l4Same.l0_ev l m h hl _ 0 rfl (Nat.zero_le _))
 · exact Ev.neg (by omega) (Ev.ret' (sameF_len l m h).symm)
def qdg (s : ByteArray) : Bool := s.toList == ([] : List UInt8)
def formB (k : Int) (n t d : ByteArray) : Bool :=
 if k = 1 then nameB n && qdg t else if k = 2 then nameB n && (nameB t && qdg d) else if k = 3 then nameB n && (qdg t && qdg d) else false
theorem impl_DOp_isFormed.eq (k : Int) (n t d : ByteArray) : impl_DOp_isFormed.f k n t d = some (formB k n t d) := by
 unfold impl_DOp_isFormed.f formB
 by_cases h1 : k = 1
 ·
  rw [if_pos h1, if_pos h1, impl_isFileName.eq, Option.bind_some]
  cases nameB n <;> rfl
 rw [if_neg h1, if_neg h1]
 by_cases h2 : k = 2
 ·
  rw [if_pos h2, if_pos h2, impl_isFileName.eq, Option.bind_some]
  cases nameB n with
  | false => rfl
  | true =>
   rw [if_pos rfl, impl_isFileName.eq, Option.bind_some]
   cases nameB t <;> rfl
 rw [if_neg h2, if_neg h2]
 by_cases h3 : k = 3
 ·
  rw [if_pos h3, if_pos h3, impl_isFileName.eq, Option.bind_some]
  cases nameB n with
  | false => rfl
  | true =>
   rw [if_pos rfl]
   by_cases ht : t.toList = []
   ·
    rw [if_pos ht]
    simp [qdg, ht]
   ·
    rw [if_neg ht]
    simp [qdg, ht]
 rw [if_neg h3, if_neg h3]
theorem spec_l4Form.j0_ev (x : Bool) (k : Int) (n t d : ByteArray) : Ev (fun r => spec_l4Form.j0 r x k n t d) (if x = true then false else if k = 2 then nameB t && qdg d else qdg t && (if k = 1 then true else qdg d)) := by
 refine Ev.step (fun r => by rw [spec_l4Form.j0]) ?_
 cases x with
 | true => exact Ev.pos rfl (Ev.ret' (by simp))
 | false =>
  refine Ev.neg (by simp) ?_
  by_cases h2 : k = 2
  ·
   refine Ev.pos h2 (Ev.bindS (spec_l4Name.eq _) ?_)
   cases nameB t with
   | false => exact Ev.neg (by simp) (Ev.ret' (by simp [h2]))
   | true => exact Ev.pos rfl (Ev.ret' (by simp [qdg, h2]))
  ·
   refine Ev.neg h2 ?_
   by_cases ht : t.toList = []
   ·
    refine Ev.pos ht ?_
    by_cases h1 : k = 1
    · exact Ev.pos h1 (Ev.ret' (by simp [qdg, ht, h1]))
    · exact Ev.neg h1 (Ev.ret' (by simp [qdg, ht, h1, h2]))
   ·
    refine Ev.neg ht (Ev.ret' ?_)
    simp [qdg, ht, h2]
theorem spec_l4Form.ev (k : Int) (n t d : ByteArray) : Ev (fun r => spec_l4Form.f r k n t d) (formB k n t d) := by
 unfold spec_l4Form.f
 refine Ev.bindS (spec_l1In.eq _ _ _) ?_
 by_cases hk : 1 ≤ k ∧ k ≤ 3
 ·
  rw [decide_eq_true hk.1, decide_eq_true hk.2]
  refine Ev.pos rfl (Ev.bindS (spec_l4Name.eq _) (Ev.eq (spec_l4Form.j0_ev _ k n t d) ?_))
  unfold formB
  have h123 : k = 1 ∨ k = 2 ∨ k = 3 := by omega
  rcases h123 with rfl | rfl | rfl <;> cases nameB n <;> simp
 ·
  have hf : (decide (1 ≤ k) && decide (k ≤ 3)) = false := by
   rw [Bool.and_eq_false_iff, decide_eq_false_iff_not, decide_eq_false_iff_not]
   omega
  rw [hf]
  refine Ev.neg (by simp) (Ev.eq (spec_l4Form.j0_ev _ k n t d) ?_)
  unfold formB
  rw [if_pos rfl, if_neg (by omega), if_neg (by omega), if_neg (by omega)]
theorem spec_l4At.l0_ev (l : List S80) (n : ByteArray) (hl : l.length ≤ 4611686018427387904) (d : Nat) : ∀ i : Nat, l.length - i = d → i ≤ l.length → (∀ j : Nat, j < i → qau n (l.getD j z80) = false) →
 Ev (fun k => spec_l4At.l0 k l n i) (idxP (qau n) l) := by
 induction d with
 | zero =>
  intro i hd hi hn
  refine Ev.step (fun k => by rw [spec_l4At.l0]) ?_
  refine Ev.neg (by omega) (Ev.ret' ?_)
  rw [idxG_miss z80 (qau n) l (i : Int) (by omega) (fun j hj => hn j (by omega))]
 | succ d ih =>
  intro i hd hi hn
  have h1 : i < l.length := by omega
  refine Ev.step (fun k => by rw [spec_l4At.l0]) ?_
  refine Ev.pos (by omega) (Ev.pos (by omega) ?_)
  have e : qai l (i : Int) = l.getD i z80 := by unfold qai; rw [Int.toNat_natCast]
  by_cases hc : (qai l (i : Int)).f0.toList = n.toList
  ·
   refine Ev.pos hc (Ev.ret' ?_)
   rw [idxG_hit z80 (qau n) l (i : Int) (by omega) (by omega) (by rw [Int.toNat_natCast, ← e]; exact beq_iff_eq.2 hc) (fun j hj => hn j (by omega))]
  ·
   refine Ev.neg hc ?_
   rw [show wrap64 ((i : Int) + 1) = ((i + 1 : Nat) : Int) by rw [qba (by omega) (by omega)]; omega]
   refine ih (i + 1) (by omega) (by omega) (fun j hj => ?_)
   by_cases hji : j = i
   ·
    rw [hji, ← e]
    exact beq_eq_false_iff_ne.2 hc
   · exact hn j (by omega)
theorem spec_l4At.ev (l : List S80) (n : ByteArray) (hl : l.length ≤ 4611686018427387904) : Ev (fun k => spec_l4At.f k l n) (idxP (qau n) l) :=
 spec_l4At.l0_ev l n hl _ 0 rfl (Nat.zero_le _) (fun j hj => absurd hj (Nat.not_lt_zero j))
theorem spec_l4Cut.l0_ev (l : List S80) (n : ByteArray) (hl : l.length ≤ 1099511627776) (d : Nat) : ∀ (i : Nat) (out : List S80), l.length - i = d → i ≤ l.length → out.length ≤ i →
 Ev (fun k => spec_l4Cut.l0 k l n out i) (out ++ (l.drop i).filter (fun x => !qau n x)) := by
 induction d with
 | zero =>
  intro i out hd hi ho
  refine Ev.step (fun k => by rw [spec_l4Cut.l0]) ?_
  refine Ev.neg (by omega) (Ev.ret' ?_)
  rw [List.drop_of_length_le (by omega)]
  simp
 | succ d ih =>
  intro i out hd hi ho
  have h1 : i < l.length := by omega
  refine Ev.step (fun k => by rw [spec_l4Cut.l0]) ?_
  refine Ev.pos (by omega) (Ev.pos (by omega) ?_)
  rw [qdf l i h1, List.drop_eq_getElem_cons h1, List.filter_cons, show wrap64 ((i : Int) + 1) = ((i + 1 : Nat) : Int) by rw [qba (by omega) (by omega)]; omega]
  by_cases hc : l[i].f0.toList = n.toList
  ·
   refine Ev.pos hc ?_
   rw [show qau n l[i] = true from beq_iff_eq.2 hc]
   exact ih (i + 1) out (by omega) (by omega) (by omega)
  ·
   refine Ev.neg hc ?_
   rw [show qau n l[i] = false from beq_eq_false_iff_ne.2 hc]
   refine Ev.pos (by omega) ?_
   refine Ev.eq (ih (i + 1) _ (by omega) (by omega) (by simp; omega)) ?_
   simp
theorem spec_l4Cut.ev (l : List S80) (n : ByteArray) (hl : l.length ≤ 1099511627776) : Ev (fun k => spec_l4Cut.f k l n) (l.filter (fun x => !qau n x)) := by
 have := spec_l4Cut.l0_ev l n hl _ 0 [] rfl (Nat.zero_le _) (Nat.le_refl _)
 exact this
def putS (n d : ByteArray) : Bool → List S80 → List S80
 | done, [] => if done then [] else [⟨n, d⟩]
 | done, x :: r => (if !done && !(Op.bytesLess x.f0.toList n.toList) then [⟨n, d⟩] else []) ++ ((if qau n x then [] else [x]) ++ putS n d (done || !(Op.bytesLess x.f0.toList n.toList)) r)
theorem spec_l4Put.l0_ev (l : List S80) (n dd : ByteArray) (hl : l.length ≤ 1099511627776) (d : Nat) : ∀ (i : Nat) (out : List S80) (done : Bool), l.length - i = d → i ≤ l.length → out.length ≤ 2 * i →
 Ev (fun k => spec_l4Put.l0 k l n dd out done i) (out ++ putS n dd done (l.drop i)) := by
 induction d with
 | zero =>
  intro i out done hd hi ho
  refine Ev.step (fun k => by rw [spec_l4Put.l0]) ?_
  refine Ev.neg (by omega) ?_
  rw [List.drop_of_length_le (by omega), putS]
  cases done with
  | true => exact Ev.pos rfl (Ev.ret' (by simp))
  | false => exact Ev.neg (by simp) (Ev.pos (by omega) (Ev.ret' (by simp)))
 | succ d ih =>
  intro i out done hd hi ho
  have h1 : i < l.length := by omega
  have e2 : wrap64 ((i : Int) + 1) = ((i + 1 : Nat) : Int) := by rw [qba (by omega) (by omega)]; omega
  refine Ev.step (fun k => by rw [spec_l4Put.l0]) ?_
  refine Ev.pos (by omega) ?_
  rw [List.drop_eq_getElem_cons h1, putS, qdf l i h1]
  have tail : ∀ (o : List S80) (dn : Bool), o.length ≤ 2 * i + 1 → Ev (fun k => if 0 ≤ (i : Int) then (if (i : Int) < (l.length : Int) then (if (qai l (i : Int)).f0.toList = n.toList then spec_l4Put.l0 k l n dd o dn (wrap64 ((i : Int) + 1)) else (if o.length < 4398046511104 then spec_l4Put.l0 k l n dd (o ++ [(⟨(qai l (i : Int)).f0, (qai l (i : Int)).f1⟩ : S80)]) dn (wrap64 ((i : Int) + 1)) else none)) else none) else none) (o ++ ((if qau n l[i] then [] else [l[i]]) ++ putS n dd dn (l.drop (i + 1)))) := by
   intro o dn hol
   refine Ev.pos (by omega) (Ev.pos (by omega) ?_)
   rw [qdf l i h1, e2]
   by_cases hc : l[i].f0.toList = n.toList
   ·
    refine Ev.pos hc ?_
    rw [if_pos (show qau n l[i] = true from beq_iff_eq.2 hc), List.nil_append]
    exact ih (i + 1) o dn (by omega) (by omega) (by omega)
   ·
    refine Ev.neg hc ?_
    rw [if_neg (by rw [show qau n l[i] = false from beq_eq_false_iff_ne.2 hc]; simp)]
    refine Ev.pos (by omega) ?_
    refine Ev.eq (ih (i + 1) _ dn (by omega) (by omega) (by simp; omega)) ?_
    rw [List.append_assoc]
  cases done with
  | true =>
   refine Ev.pos rfl ?_
   refine Ev.step (fun k => by rw [spec_l4Put.j1]) ?_
   refine Ev.neg (by simp) ?_
   refine Ev.eq (tail out true (by omega)) ?_
   simp
  | false =>
   refine Ev.neg (by simp) (Ev.pos (by omega) ?_)
   cases hb : Op.bytesLess l[i].f0.toList n.toList with
   | true =>
    refine Ev.step (fun k => by rw [spec_l4Put.j1]) ?_
    refine Ev.neg (by simp) ?_
    refine Ev.eq (tail out false (by omega)) ?_
    simp
   | false =>
    refine Ev.step (fun k => by rw [spec_l4Put.j1]) ?_
    refine Ev.pos rfl (Ev.pos (by omega) (Ev.bindS rfl ?_))
    refine Ev.eq (tail (out ++ [⟨n, dd⟩]) true (by simp; omega)) ?_
    simp
theorem spec_l4Put.ev (l : List S80) (n d : ByteArray) (hl : l.length ≤ 1099511627776) : Ev (fun k => spec_l4Put.f k l n d) (putS n d false l) := by
 have := spec_l4Put.l0_ev l n d hl _ 0 [] false rfl (Nat.zero_le _) (Nat.le_refl _)
 exact this

end

section
def runB (live : List S80) : List S80 → List S73 → Bool
 | now, [] => sameF now live
 | now, op :: r => formB op.f0 op.f1 op.f2 op.f3 && ((onF now op.f0 op.f1 op.f2 op.f3).2 && (qbh (onF now op.f0 op.f1 op.f2 op.f3).1 && runB live (onF now op.f0 op.f1 op.f2 op.f3).1 r))
def diskB (live safe : List S80) (ops : List S73) : Bool := qbh live && (qbh safe && (decide (ops.length ≤ 200) && runB live safe ops))
def qeq (l : List S80) : Bool := l.all (fun x => decide (x.f1.size ≤ 1099511627776))
def smallOB (l : List S73) : Bool := l.all (fun x => decide (x.f3.size ≤ 1099511627776))
theorem qdl (l : List S80) : qeq l = true ↔ smallF l := by
 unfold qeq smallF
 rw [List.all_eq_true]
 exact ⟨fun h x hx => of_decide_eq_true (h x hx), fun h x hx => decide_eq_true (h x hx)⟩
def impl_isDisk.f (l0_0 l0_1 : List S80) (l0_2 : List S73) : Option Bool := if (qeq l0_0 && (qeq l0_1 && smallOB l0_2)) = true then some (diskB l0_0 l0_1 l0_2) else none
theorem qem {now : List S80} (hn : ∀ x ∈ now, x.f1.size ≤ 200000) (k : Int) (n t d : ByteArray) (hd : d.size ≤ 1099511627776) : (onF now k n t d).2 = true → ∀ x ∈ (onF now k n t d).1, x.f1.size ≤ 1099512000000 := by
 have hput : ∀ (l : List S80) (m e : ByteArray), (∀ x ∈ l, x.f1.size ≤ 200000) → e.size ≤ 1099512000000 → ∀ x ∈ putF l m e, x.f1.size ≤ 1099512000000 := by
  intro l m e hl he x hx
  unfold putF at hx
  split at hx
  ·
   rcases List.mem_or_eq_of_mem_set hx with hx | rfl
   · have := hl x hx; omega
   · exact he
  ·
   rcases List.mem_append.1 hx with hx | hx
   · have := hl x (List.mem_of_mem_take hx); omega
   ·
    rcases List.mem_cons.1 hx with rfl | hx
    · exact he
    · have := hl x (List.mem_of_mem_drop hx); omega
 have hcut : ∀ x ∈ now.take (idxP (qau n) now).toNat ++ now.drop ((idxP (qau n) now).toNat + 1), x.f1.size ≤ 200000 := by
  intro x hx
  rcases List.mem_append.1 hx with hx | hx
  · exact hn x (List.mem_of_mem_take hx)
  · exact hn x (List.mem_of_mem_drop hx)
 have hat : 0 ≤ idxP (qau n) now → (qai now (idxP (qau n) now)).f1.size ≤ 200000 := fun h => hn _ (qdw z80 now _ h (idxP_lt _ _))
 unfold onF
 split
 ·
  intro _
  refine hput now n _ hn ?_
  split
  ·
   rw [ByteArray.size_append]
   have := hat (by assumption)
   omega
  · omega
 ·
  split
  ·
   split
   ·
    intro _ x hx
    have := hcut x hx
    omega
   ·
    intro _
    refine hput _ t _ hcut ?_
    have := hat (by assumption)
    omega
  ·
   intro h
   cases h
theorem qdu (l : List S80) (hs : ∀ x ∈ l, x.f1.size ≤ 1099512000000) (hl : l.length ≤ 9223372036854775807) : ∃ k, impl_areFiles.f k l = some (qbh l) := Ev.val (impl_areFiles.ev' l hs hl)
theorem rdO_nat (l : List S73) (i : Nat) (h : i < l.length) : qae l (i : Int) = l[i] := by
 unfold qae
 rw [Int.toNat_natCast, List.getD_eq_getElem?_getD, List.getElem?_eq_getElem h]
 rfl
theorem runB_step (live now : List S80) (ops : List S73) (i : Int) (h0 : 0 ≤ i) (h1 : i < ops.length) (op : S73) (he : op = qae ops i) :
 runB live now (ops.drop i.toNat) = (formB op.f0 op.f1 op.f2 op.f3 && ((onF now op.f0 op.f1 op.f2 op.f3).2 && (qbh (onF now op.f0 op.f1 op.f2 op.f3).1 && runB live (onF now op.f0 op.f1 op.f2 op.f3).1 (ops.drop (i + 1).toNat)))) := by
 obtain ⟨j, rfl⟩ : ∃ j : Nat, i = j := ⟨i.toNat, by omega⟩
 have hj : j < ops.length := by omega
 rw [show ((j : Int) + 1).toNat = j + 1 by omega, Int.toNat_natCast, List.drop_eq_getElem_cons hj, runB, he, rdO_nat ops j hj]
set_option maxHeartbeats 8000000 in
set_option maxRecDepth 100000 in
theorem impl_isDisk.calls (A0_0 : Option Addr) (c0_0 : Nat) (l0_0 : List (S80)) (A0_1 : Option Addr) (c0_1 : Nat) (l0_1 : List (S80)) (A0_2 : Option Addr) (c0_2 : Nat) (l0_2 : List (S73)) (r : Bool) (w : World) (hr0_0 : Kd.C k80 w A0_0 l0_0.length l0_0) (hc0_0 : l0_0.length ≤ c0_0) (hr0_1 : Kd.C k80 w A0_1 l0_1.length l0_1) (hc0_1 : l0_1.length ≤ c0_1) (hr0_2 : Kd.C k73 w A0_2 l0_2.length l0_2) (hc0_2 : l0_2.length ≤ c0_2) (h : impl_isDisk.f l0_0 l0_1 l0_2 = some r) :
 Calls Try.prog 49 #[.agg #[.slice A0_0 l0_0.length c0_0, .slice A0_1 l0_1.length c0_1, .slice A0_2 l0_2.length c0_2]] w fun e w' => e = .returned (.bool r) ∧ Below w.heap.size w w' := by
 unfold impl_isDisk.f at h
 by_cases hc : (qeq l0_0 && (qeq l0_1 && smallOB l0_2)) = true
 ·
  rw [if_pos hc] at h
  have HQ := am (Option.some.inj h)
  rw [Bool.and_eq_true, Bool.and_eq_true, qdl, qdl] at hc
  obtain ⟨s0, s1, s2⟩ := hc
  have S2 : Aside0 (∀ x ∈ l0_2, x.f3.size ≤ 1099511627776) := ⟨fun x hx => of_decide_eq_true (List.all_eq_true.1 s2 x hx)⟩
  obtain ⟨k0, a0⟩ := qdu l0_0 (fun x hx => by have := s0 x hx; omega) (Kd.C_max hr0_0)
  obtain ⟨k1, a1⟩ := qdu l0_1 (fun x hx => by have := s1 x hx; omega) (Kd.C_max hr0_1)
  have H0 := am (fun W1 h => impl_areFiles.calls k0 A0_0 c0_0 l0_0 _ W1 h hc0_0 a0)
  have H1 := am (fun W1 h => impl_areFiles.calls k1 A0_1 c0_1 l0_1 _ W1 h hc0_1 a1)
  have R0 := am hr0_0
  have R1 := am hr0_1
  have R2 := am hr0_2
  have C0 := am hc0_0
  have C1 := am hc0_1
  have hu := Try.underlying31
  have hu2 := Try.underlying73
  have hm2 := Kd.C_max hr0_2
  clear h s0 s1 s2 a0 a1 hr0_0 hr0_1 hr0_2 hc0_0 hc0_1
  have hq := HQ.out
  unfold diskB at hq
  clear HQ
  cases e0 : qbh l0_0 with
  | false =>
   rw [e0] at hq H0
   have HQ := am hq
   clear hq e0
   go_enter Try.func49, Try.ntmps49
   go_wp2_with fail
   refine (H0.out _ ?q1).mono ?_
   case q1 => exact Kd.C_alloc R0.out _
   rintro e w1 ⟨rfl, hb1⟩
   have HB : Aside0 (Below w.heap.size w w1) := ⟨qad (qaq (Below.refl _ _) _) hb1⟩
   clear hb1
   go_wp2
   go_ret
   exact ⟨by rw [← HQ.out]; rfl, HB.out⟩
  | true =>
   rw [e0, Bool.true_and] at hq
   rw [e0] at H0
   cases e1 : qbh l0_1 with
   | false =>
    rw [e1] at hq H1
    have HQ := am hq
    clear hq e0 e1
    go_enter Try.func49, Try.ntmps49
    go_wp2_with fail
    refine (H0.out _ ?q2).mono ?_
    case q2 => exact Kd.C_alloc R0.out _
    rintro e w1 ⟨rfl, hb1⟩
    have HB : Aside0 (Below w.heap.size w w1) := ⟨qad (qaq (Below.refl _ _) _) hb1⟩
    have BX : Aside0 (w1.heap[w.heap.size]? = some (.cells #[.slice A0_0 l0_0.length c0_0, .slice A0_1 l0_1.length c0_1, .slice A0_2 l0_2.length c0_2] 31 (0, 0))) := ⟨qab (qcj w _) hb1⟩
    have b1 : w1.cell? ⟨w.heap.size, 1, none⟩ = some (.slice A0_1 l0_1.length c0_1) := (qak BX.out 1).trans rfl
    clear hb1
    go_wp2_with fail
    refine (H1.out _ ?q3).mono ?_
    case q3 => exact Kd.C_below R1.out HB.out
    rintro e w2 ⟨rfl, hb2⟩
    have HB2 : Aside0 (Below w.heap.size w w2) := ⟨qad HB.out hb2⟩
    clear hb2 b1
    go_wp2
    go_ret
    exact ⟨by rw [← HQ.out]; rfl, HB2.out⟩
   | true =>
    rw [e1, Bool.true_and] at hq
    rw [e1] at H1
    have E1 := am e1
    clear e0 e1
    have H2 := am hq
    clear hq
    go_enter Try.func49, Try.ntmps49
    go_wp2_with fail
    refine (H0.out _ ?q4).mono ?_
    case q4 => exact Kd.C_alloc R0.out _
    rintro e w1 ⟨rfl, hb1⟩
    have HB1 : Aside0 (Below w.heap.size w w1) := ⟨qad (qaq (Below.refl _ _) _) hb1⟩
    have BX : Aside0 (w1.heap[w.heap.size]? = some (.cells #[.slice A0_0 l0_0.length c0_0, .slice A0_1 l0_1.length c0_1, .slice A0_2 l0_2.length c0_2] 31 (0, 0))) := ⟨qab (qcj w _) hb1⟩
    have b1 : w1.cell? ⟨w.heap.size, 1, none⟩ = some (.slice A0_1 l0_1.length c0_1) := (qak BX.out 1).trans rfl
    clear hb1
    go_wp2_with fail
    refine (H1.out _ ?q5).mono ?_
    case q5 => exact Kd.C_below R1.out HB1.out
    rintro e w2 ⟨rfl, hb2⟩
    have HB2 : Aside0 (Below w.heap.size w w2) := ⟨qad HB1.out hb2⟩
    have BX2 := am (qab BX.out hb2)
    have c1 : w2.cell? ⟨w.heap.size, 1, none⟩ = some (.slice A0_1 l0_1.length c0_1) := (qak BX2.out 1).trans rfl
    have c2 : w2.cell? ⟨w.heap.size, 2, none⟩ = some (.slice A0_2 l0_2.length c0_2) := (qak BX2.out 2).trans rfl
    clear hb2 b1 HB1 BX
    by_cases hlen : l0_2.length ≤ 200
    ·
     have hq2 := H2.out
     rw [decide_eq_true hlen, Bool.true_and] at hq2
     have HQ := am hq2
     clear hq2 H2
     go_wp2
     go_loopg [3, 29] l0_2.length (fun gg s3 s29 wr => ∃ (i : Int) (A3 : Option Addr) (c3 : Nat) (now : List S80), s3 = .slice A3 now.length c3 ∧ s29 = .int .i64 i ∧ Aside0 (0 ≤ i ∧ i ≤ l0_2.length ∧ l0_2.length - i.toNat ≤ gg) ∧ Aside0 (Kd.C k80 wr A3 now.length now ∧ now.length ≤ c3) ∧ Aside0 (qbh now = true) ∧ Aside0 (runB l0_0 l0_1 l0_2 = runB l0_0 now (l0_2.drop i.toNat)) ∧ Aside0 (Below w.heap.size w wr) ∧ Aside0 (wr.heap[w.heap.size]? = some (.cells #[.slice A0_0 l0_0.length c0_0, .slice A0_1 l0_1.length c0_1, .slice A0_2 l0_2.length c0_2] 31 (0, 0))))
     case atStart => exact ⟨0, A0_1, c0_1, l0_1, rfl, rfl, ⟨by omega, by omega, by simp⟩, ⟨Kd.C_below R1.out HB2.out, C1.out⟩, E1, ⟨rfl⟩, HB2, BX2⟩
     case round =>
      clear c1 c2
      obtain ⟨i, A3, c3, now, rfl, rfl, HI, HN, HF, HR, HW, HX⟩ := hrel
      have h0 := HI.out.1
      have h1 := HI.out.2.1
      have hz : w.heap.size < wr.heap.size := qan HX.out
      by_cases hlt : i < (l0_2.length : Int)
      ·
       obtain ⟨ad, ea, hx_0, hx_1, hx_2, hx_3⟩ := qcu R2.out i h0 hlt
       cases ea
       replace hx_0 := qac HW.out hx_0
       replace hx_1 := qac HW.out hx_1
       replace hx_2 := qac HW.out hx_2
       replace hx_3 := qac HW.out hx_3
       have hst := HR.out
       have hop : Aside0 ((qae l0_2 i).f3.size ≤ 1099511627776) := ⟨S2.out _ (qdw z73 l0_2 i h0 hlt)⟩
       generalize hope : qae l0_2 i = op at *
       rw [runB_step l0_0 now l0_2 i h0 hlt op hope.symm] at hst
       have HST := am hst
       clear hst hope HR
       have hd0 : decide (i < (l0_2.length : Int)) = true := decide_eq_true hlt
       have h0' := eq_true h0
       have hlt' := eq_true hlt
       have HFM := am (fun W1 => impl_DOp_isFormed.calls op.f0 op.f1 op.f2 op.f3 _ W1 (impl_DOp_isFormed.eq _ _ _ _))
       cases hf : formB op.f0 op.f1 op.f2 op.f3 with
       | false =>
        rw [hf] at HFM HST
        clear hf
        go_wp2_with fail
        refine (HFM.out _).mono ?_
        rintro e w3 ⟨rfl, hb3⟩
        have HB3 : Aside0 (Below w.heap.size w w3) := ⟨qad (qaq HW.out _) hb3⟩
        clear hb3
        go_wp2
        go_ret
        exact ⟨by rw [← HQ.out, HST.out]; rfl, HB3.out⟩
       | true =>
        rw [hf, Bool.true_and] at HST
        rw [hf] at HFM
        clear hf
        obtain ⟨hris, hl60, hsz⟩ := qbn HF.out
        have HON := am (fun W1 h => on_run op.f0 op.f1 op.f2 op.f3 A3 c3 now W1 h HN.out.2 (by omega) hris (fun x hx => by have := hsz x hx; have := hop.out; omega) (by have := hop.out; omega))
        have HSM := am (qem hsz op.f0 op.f1 op.f2 op.f3 hop.out)
        clear hris hl60 hsz
        go_wp2_with fail
        refine (HFM.out _).mono ?_
        rintro e w3 ⟨rfl, hb3⟩
        have HB3 : Aside0 (Below w.heap.size w w3) := ⟨qad (qaq HW.out _) hb3⟩
        have BO3 : Aside0 (w3.heap[wr.heap.size]? = some (.cells #[.int .i64 op.f0, .string op.f1, .string op.f2, .string op.f3] 73 (0, 0))) := ⟨qab (qcj wr _) hb3⟩
        have BX3 := am (qab (blk_alloc HX.out _) hb3)
        have o0 : w3.cell? ⟨wr.heap.size, 0, none⟩ = some (.int .i64 op.f0) := (qak BO3.out 0).trans rfl
        have o1 : w3.cell? ⟨wr.heap.size, 1, none⟩ = some (.string op.f1) := (qak BO3.out 1).trans rfl
        have o2 : w3.cell? ⟨wr.heap.size, 2, none⟩ = some (.string op.f2) := (qak BO3.out 2).trans rfl
        have o3 : w3.cell? ⟨wr.heap.size, 3, none⟩ = some (.string op.f3) := (qak BO3.out 3).trans rfl
        have HN3 : Aside0 (Kd.C k80 w3 A3 now.length now) := ⟨Kd.C_below (Kd.C_alloc HN.out.1 _) hb3⟩
        clear hb3 hx_0 hx_1 hx_2 hx_3
        go_wp2_with fail
        refine (HON.out _ ?q8).mono ?_
        case q8 => exact HN3.out
        rintro e w4 ⟨v4, rfl, hown, hsh, hb4⟩
        have HB4 : Aside0 (Below w.heap.size w w4) := ⟨qad HB3.out hb4⟩
        have BX4 := am (qab BX3.out hb4)
        have HOW := am hown
        clear hown hsh hb4 o0 o1 o2 o3
        have hr1 := HST.out
        generalize hoe : onF now op.f0 op.f1 op.f2 op.f3 = on at *
        obtain ⟨nx, ok⟩ := on
        clear HON hoe
        cases ok with
        | false =>
         have HR1 := am hr1
         clear hr1
         go_wp2
         go_ret
         exact ⟨by rw [← HQ.out, HR1.out]; rfl, HB4.out⟩
        | true =>
         obtain ⟨A5, c5, rfl, hc5, hC5⟩ := Kd.R_reads (HOW.out rfl)
         have HC5 := am (And.intro hC5 hc5)
         obtain ⟨k5, a5⟩ := qdu nx (HSM.out rfl) (Kd.C_max hC5)
         have H5 := am (fun W1 h => impl_areFiles.calls k5 A5 c5 nx _ W1 h HC5.out.2 a5)
         clear hc5 hC5 a5
         cases hfn : qbh nx with
         | false =>
          rw [hfn] at H5
          have HR1 : Aside0 (runB l0_0 l0_1 l0_2 = false) := ⟨by rw [hr1]; show (true && (qbh nx && _)) = false; rw [hfn]; rfl⟩
          clear hr1 hfn
          go_wp2_with fail
          refine (H5.out _ ?q9).mono ?_
          case q9 => exact HC5.out.1
          rintro e w5 ⟨rfl, hb5⟩
          have HB5 : Aside0 (Below w.heap.size w w5) := ⟨qad HB4.out hb5⟩
          clear hb5
          go_wp2
          go_ret
          exact ⟨by rw [← HQ.out, HR1.out]; rfl, HB5.out⟩
         | true =>
          rw [hfn] at H5
          have HR1 : Aside0 (runB l0_0 l0_1 l0_2 = runB l0_0 nx (l0_2.drop (i + 1).toNat)) := ⟨by rw [hr1]; show (true && (qbh nx && _)) = _; rw [hfn]; rfl⟩
          have HFN := am hfn
          clear hr1 hfn
          go_wp2_with fail
          refine (H5.out _ ?q10).mono ?_
          case q10 => exact HC5.out.1
          rintro e w5 ⟨rfl, hb5⟩
          have HB5 : Aside0 (Below w.heap.size w w5) := ⟨qad HB4.out hb5⟩
          have HC6 : Aside0 (Kd.C k80 w5 A5 nx.length nx) := ⟨Kd.C_below HC5.out.1 hb5⟩
          have BX5 := am (qab BX4.out hb5)
          clear hb5
          go_wp2
          go_roundg (l0_2.length - (i + 1).toNat)
          case measure => have := HI.out.2.2; omega
          case rel => exact ⟨i + 1, A5, c5, nx, rfl, by go_num, ⟨by omega, by omega, by omega⟩, ⟨HC6.out, HC5.out.2⟩, HFN, HR1, HB5, BX5⟩
      ·
       have hd0 : decide (i < (l0_2.length : Int)) = false := decide_eq_false hlt
       have hi : i = l0_2.length := by omega
       subst hi
       obtain ⟨k9, a9⟩ := Ev.val (impl_File_90.ev now l0_0 (by have := (qbn HF.out).2.1; omega))
       have H9 := am (fun W1 h h' => impl_File_90.calls k9 A3 c3 now A0_0 c0_0 l0_0 _ W1 h HN.out.2 h' C0.out a9)
       clear a9
       have b0 : wr.cell? ⟨w.heap.size, 0, none⟩ = some (.slice A0_0 l0_0.length c0_0) := (qak HX.out 0).trans rfl
       go_wp2_with fail
       refine (H9.out _ ?q6 ?q7).mono ?_
       case q6 => exact HN.out.1
       case q7 => exact Kd.C_below R0.out HW.out
       rintro e w3 ⟨rfl, ⟨nd, rfl⟩⟩
       go_wp2
       go_ret
       exact ⟨by rw [← HQ.out, HR.out, Int.toNat_natCast, List.drop_length]; rfl, qaw HW.out nd⟩
    ·
     have hq2 := H2.out
     rw [decide_eq_false hlen] at hq2
     have HQ := am hq2
     clear hq2 H2
     go_wp2
     go_ret
     exact ⟨by rw [← HQ.out]; rfl, HB2.out⟩
 ·
  rw [if_neg hc] at h
  cases h

end

section
mutual
def impl_replace.j0 : Nat → List (S73) → List (S80) → List (S80) → List (S73) → Option ((List (S80)) × (List (S80)) × (List (S73)) × Int)
 | 0, _, _, _, _ => none
 | k + 1, x9, x102000, x102001, x102002 => (impl_copyDisk.f x102000 x102001 x102002).bind fun bt115 => (impl_replace.l0 k x9 (x9.length : Int) 0 x102000 x102001 x102002 bt115.1 bt115.2.1 bt115.2.2)
def impl_replace.l0 : Nat → List (S73) → Int → Int → List (S80) → List (S80) → List (S73) → List (S80) → List (S80) → List (S73) → Option ((List (S80)) × (List (S80)) × (List (S73)) × Int)
 | 0, _, _, _, _, _, _, _, _, _ => none
 | k + 1, x40, x41, x42, x102000, x102001, x102002, x125000, x125001, x125002 => if x42 < x41 then (if 0 ≤ x42 then (if x42 < (x40.length : Int) then ((impl_doRight.f k x125000 x125001 x125002 ((qae x40 x42).f0) ((qae x40 x42).f1) ((qae x40 x42).f2) ((qae x40 x42).f3)).bind fun bt127 => (if bt127.2.2.2 = 0 then (impl_replace.l0 k x40 x41 (wrap64 (x42 + 1)) x102000 x102001 x102002 bt127.1 bt127.2.1 bt127.2.2.1) else ((impl_copyDisk.f x102000 x102001 x102002).bind fun bt138 => (some (bt138.1, bt138.2.1, bt138.2.2, bt127.2.2.2))))) else (none)) else (none)) else (some (x125000, x125001, x125002, 0))
end
def impl_replace.f (k : Nat) (l0_0 : List (S80)) (l0_1 : List (S80)) (l0_2 : List (S73)) (a1 : ByteArray) (a2 : ByteArray) : Option ((List (S80)) × (List (S80)) × (List (S73)) × Int) := (impl_isDisk.f l0_0 l0_1 l0_2).bind fun t103 => (if t103 = true then (if a1.size + 4 ≤ 9223372036854775807 then ((some (([(⟨1, a1 ++ (⟨#[46, 110, 101, 119]⟩ : ByteArray), (⟨#[]⟩ : ByteArray), a2⟩ : S73), (⟨2, a1 ++ (⟨#[46, 110, 101, 119]⟩ : ByteArray), a1, (⟨#[]⟩ : ByteArray)⟩ : S73)] : List (S73)) : List (S73))).bind fun y104 => ((impl_fileOf.f l0_0 (a1 ++ (⟨#[46, 110, 101, 119]⟩ : ByteArray))).bind fun t107 => (if t107 ≥ 0 then ((impl_DOp_103.f y104 0 (([(⟨3, a1 ++ (⟨#[46, 110, 101, 119]⟩ : ByteArray), (⟨#[]⟩ : ByteArray), (⟨#[]⟩ : ByteArray)⟩ : S73)] : List (S73)))).bind fun bt111 => (impl_replace.j0 k bt111.1 l0_0 l0_1 l0_2)) else (impl_replace.j0 k y104 l0_0 l0_1 l0_2)))) else (none)) else (some (([] : List (S80)), ([] : List (S80)), ([] : List (S73)), 1)))
theorem impl_replace.mono_l : ∀ k, (∀ y0 y1 y2 y3, LeO (impl_replace.j0 k y0 y1 y2 y3) (impl_replace.j0 (k + 1) y0 y1 y2 y3)) ∧ (∀ y0 y1 y2 y3 y4 y5 y6 y7 y8, LeO (impl_replace.l0 k y0 y1 y2 y3 y4 y5 y6 y7 y8) (impl_replace.l0 (k + 1) y0 y1 y2 y3 y4 y5 y6 y7 y8))
 | 0 => ⟨fun _ _ _ _ r h => by simp [impl_replace.j0] at h, fun _ _ _ _ _ _ _ _ _ r h => by simp [impl_replace.l0] at h⟩
 | k + 1 => by
  obtain ⟨ih0, ih1⟩ := impl_replace.mono_l k
  refine ⟨?_, ?_⟩
  ·
   intro y0 y1 y2 y3
   unfold impl_replace.j0
   repeat' first
   | (with_reducible exact ih0 _ _ _ _)
   | (with_reducible exact ih1 _ _ _ _ _ _ _ _ _)
   | (with_reducible exact impl_doRight.mono _ _ _ _ _ _ _ _)
   | (with_reducible exact LeO.refl _)
   | (with_reducible exact LeO.none _)
   | (with_reducible refine LeO.ite ?_ ?_)
   | (with_reducible refine LeO.bind ?_ (fun _ => ?_))
   | exact ih0 _ _ _ _
   | exact ih1 _ _ _ _ _ _ _ _ _
   | exact impl_doRight.mono _ _ _ _ _ _ _ _
   | exact LeO.none _
   | refine LeO.ite ?_ ?_
   | refine LeO.bind ?_ (fun _ => ?_)
  ·
   intro y0 y1 y2 y3 y4 y5 y6 y7 y8
   unfold impl_replace.l0
   repeat' first
   | (with_reducible exact ih0 _ _ _ _)
   | (with_reducible exact ih1 _ _ _ _ _ _ _ _ _)
   | (with_reducible exact impl_doRight.mono _ _ _ _ _ _ _ _)
   | (with_reducible exact LeO.refl _)
   | (with_reducible exact LeO.none _)
   | (with_reducible refine LeO.ite ?_ ?_)
   | (with_reducible refine LeO.bind ?_ (fun _ => ?_))
   | exact ih0 _ _ _ _
   | exact ih1 _ _ _ _ _ _ _ _ _
   | exact impl_doRight.mono _ _ _ _ _ _ _ _
   | exact LeO.none _
   | refine LeO.ite ?_ ?_
   | refine LeO.bind ?_ (fun _ => ?_)
theorem impl_replace.mono : ∀ a0 a1 a2 a3 a4 k, LeO (impl_replace.f k a0 a1 a2 a3 a4) (impl_replace.f (k + 1) a0 a1 a2 a3 a4) := by
 intro a0 a1 a2 a3 a4 k
 obtain ⟨ih0, ih1⟩ := impl_replace.mono_l k
 unfold impl_replace.f
 repeat' first
  | (with_reducible exact ih0 _ _ _ _)
  | (with_reducible exact ih1 _ _ _ _ _ _ _ _ _)
  | (with_reducible exact impl_doRight.mono _ _ _ _ _ _ _ _)
  | (with_reducible exact LeO.refl _)
  | (with_reducible exact LeO.none _)
  | (with_reducible refine LeO.ite ?_ ?_)
  | (with_reducible refine LeO.bind ?_ (fun _ => ?_))
  | exact ih0 _ _ _ _
  | exact ih1 _ _ _ _ _ _ _ _ _
  | exact impl_doRight.mono _ _ _ _ _ _ _ _
  | exact LeO.none _
  | refine LeO.ite ?_ ?_
  | refine LeO.bind ?_ (fun _ => ?_)
set_option maxHeartbeats 8000000 in
set_option maxRecDepth 100000 in
theorem impl_replace.calls (k : Nat) (A0_0 : Option Addr) (c0_0 : Nat) (l0_0 : List (S80)) (A0_1 : Option Addr) (c0_1 : Nat) (l0_1 : List (S80)) (A0_2 : Option Addr) (c0_2 : Nat) (l0_2 : List (S73)) (a1 : ByteArray) (a2 : ByteArray) (r1 : List (S80)) (r2 : List (S80)) (r3 : List (S73)) (r4 : Int) (w : World) (hr0_0 : Kd.C k80 w A0_0 l0_0.length l0_0) (hc0_0 : l0_0.length ≤ c0_0) (hr0_1 : Kd.C k80 w A0_1 l0_1.length l0_1) (hc0_1 : l0_1.length ≤ c0_1) (hr0_2 : Kd.C k73 w A0_2 l0_2.length l0_2) (hc0_2 : l0_2.length ≤ c0_2) (h : impl_replace.f k l0_0 l0_1 l0_2 a1 a2 = some (r1, r2, r3, r4)) :
 Calls Try.prog 67 #[.agg #[.slice A0_0 l0_0.length c0_0, .slice A0_1 l0_1.length c0_1, .slice A0_2 l0_2.length c0_2], .string a1, .string a2] w fun e w' => ∃ v0_ v1_ v2_ : Value, e = .returned (.tuple #[.agg #[v0_, v1_, v2_], .int .i64 r4]) ∧ Kd.R k80 80 w' w.heap.size (fun k_ => some k_ ≠ (v1_ : Value).ownBlock) v0_ r1 ∧ Kd.R k80 80 w' w.heap.size (fun k_ => some k_ ≠ (v0_ : Value).ownBlock) v1_ r2 ∧ Kd.R k73 73 w' w.heap.size (fun _ => True) v2_ r3 ∧ Below w.heap.size w w' := by
 have hu31 := Try.underlying31
 have hu73 := Try.underlying73
 have HR0_0 := am hr0_0
 have HC0_0 := am hc0_0
 clear hr0_0 hc0_0
 have HR0_1 := am hr0_1
 have HC0_1 := am hc0_1
 clear hr0_1 hc0_1
 have HR0_2 := am hr0_2
 have HC0_2 := am hc0_2
 clear hr0_2 hc0_2
 have HB := am (Below.refl w.heap.size w)
 have H : ((impl_isDisk.f l0_0 l0_1 l0_2).bind fun t103 => (if t103 = true then (if a1.size + 4 ≤ 9223372036854775807 then ((some (([(⟨1, a1 ++ (⟨#[46, 110, 101, 119]⟩ : ByteArray), (⟨#[]⟩ : ByteArray), a2⟩ : S73), (⟨2, a1 ++ (⟨#[46, 110, 101, 119]⟩ : ByteArray), a1, (⟨#[]⟩ : ByteArray)⟩ : S73)] : List (S73)) : List (S73))).bind fun y104 => ((impl_fileOf.f l0_0 (a1 ++ (⟨#[46, 110, 101, 119]⟩ : ByteArray))).bind fun t107 => (if t107 ≥ 0 then ((impl_DOp_103.f y104 0 (([(⟨3, a1 ++ (⟨#[46, 110, 101, 119]⟩ : ByteArray), (⟨#[]⟩ : ByteArray), (⟨#[]⟩ : ByteArray)⟩ : S73)] : List (S73)))).bind fun bt111 => (impl_replace.j0 k bt111.1 l0_0 l0_1 l0_2)) else (impl_replace.j0 k y104 l0_0 l0_1 l0_2)))) else (none)) else (some (([] : List (S80)), ([] : List (S80)), ([] : List (S73)), 1)))) = some (r1, r2, r3, r4) := h
 clear h
 replace H := Option.bind_eq_some_iff.mp H
 obtain ⟨t103, A40, H⟩ := H
 replace H : (if t103 = true then (if a1.size + 4 ≤ 9223372036854775807 then ((some (([(⟨1, a1 ++ (⟨#[46, 110, 101, 119]⟩ : ByteArray), (⟨#[]⟩ : ByteArray), a2⟩ : S73), (⟨2, a1 ++ (⟨#[46, 110, 101, 119]⟩ : ByteArray), a1, (⟨#[]⟩ : ByteArray)⟩ : S73)] : List (S73)) : List (S73))).bind fun y104 => ((impl_fileOf.f l0_0 (a1 ++ (⟨#[46, 110, 101, 119]⟩ : ByteArray))).bind fun t107 => (if t107 ≥ 0 then ((impl_DOp_103.f y104 0 (([(⟨3, a1 ++ (⟨#[46, 110, 101, 119]⟩ : ByteArray), (⟨#[]⟩ : ByteArray), (⟨#[]⟩ : ByteArray)⟩ : S73)] : List (S73)))).bind fun bt111 => (impl_replace.j0 k bt111.1 l0_0 l0_1 l0_2)) else (impl_replace.j0 k y104 l0_0 l0_1 l0_2)))) else (none)) else (some (([] : List (S80)), ([] : List (S80)), ([] : List (S73)), 1))) = some (r1, r2, r3, r4) := H
 have A4 := am A40
 clear A40
 by_cases c5 : t103 = true
 ·
  subst c5
  have H1 : (if a1.size + 4 ≤ 9223372036854775807 then ((some (([(⟨1, a1 ++ (⟨#[46, 110, 101, 119]⟩ : ByteArray), (⟨#[]⟩ : ByteArray), a2⟩ : S73), (⟨2, a1 ++ (⟨#[46, 110, 101, 119]⟩ : ByteArray), a1, (⟨#[]⟩ : ByteArray)⟩ : S73)] : List (S73)) : List (S73))).bind fun y104 => ((impl_fileOf.f l0_0 (a1 ++ (⟨#[46, 110, 101, 119]⟩ : ByteArray))).bind fun t107 => (if t107 ≥ 0 then ((impl_DOp_103.f y104 0 (([(⟨3, a1 ++ (⟨#[46, 110, 101, 119]⟩ : ByteArray), (⟨#[]⟩ : ByteArray), (⟨#[]⟩ : ByteArray)⟩ : S73)] : List (S73)))).bind fun bt111 => (impl_replace.j0 k bt111.1 l0_0 l0_1 l0_2)) else (impl_replace.j0 k y104 l0_0 l0_1 l0_2)))) else (none)) = some (r1, r2, r3, r4) := by rw [if_pos rfl] at H; exact H
  clear H
  have H := H1
  clear H1
  by_cases c6 : a1.size + 4 ≤ 9223372036854775807
  ·
   rw [if_pos c6] at H
   have c6b0 := eq_true c6
   have c6b1 : decide (a1.size + 4 ≤ 9223372036854775807) = true := decide_eq_true c6
   try have c6b2 : (9223372036854775807 < a1.size + 4) = False := eq_false (Nat.not_lt.2 c6)
   obtain ⟨y104, hy104⟩ : ∃ y_ : List (S73), y_ = (([(⟨1, a1 ++ (⟨#[46, 110, 101, 119]⟩ : ByteArray), (⟨#[]⟩ : ByteArray), a2⟩ : S73), (⟨2, a1 ++ (⟨#[46, 110, 101, 119]⟩ : ByteArray), a1, (⟨#[]⟩ : ByteArray)⟩ : S73)] : List (S73))) := ⟨_, rfl⟩
   replace H : ((impl_fileOf.f l0_0 (a1 ++ (⟨#[46, 110, 101, 119]⟩ : ByteArray))).bind fun t107 => (if t107 ≥ 0 then ((impl_DOp_103.f y104 0 (([(⟨3, a1 ++ (⟨#[46, 110, 101, 119]⟩ : ByteArray), (⟨#[]⟩ : ByteArray), (⟨#[]⟩ : ByteArray)⟩ : S73)] : List (S73)))).bind fun bt111 => (impl_replace.j0 k bt111.1 l0_0 l0_1 l0_2)) else (impl_replace.j0 k y104 l0_0 l0_1 l0_2))) = some (r1, r2, r3, r4) := by first | (rw [hy104]; with_reducible exact H) | (have H2_ := (Option.bind_some _ _).symm.trans H; rw [hy104]; with_reducible exact H2_) | (have H2_ := (Option.bind_some _ _).symm.trans H; with_reducible exact H2_) | with_reducible exact H | (rw [hy104]; exact H) | exact H
   have Ny104 := am hy104
   clear hy104
   replace H := Option.bind_eq_some_iff.mp H
   obtain ⟨t107, A70, H⟩ := H
   replace H : (if t107 ≥ 0 then ((impl_DOp_103.f y104 0 (([(⟨3, a1 ++ (⟨#[46, 110, 101, 119]⟩ : ByteArray), (⟨#[]⟩ : ByteArray), (⟨#[]⟩ : ByteArray)⟩ : S73)] : List (S73)))).bind fun bt111 => (impl_replace.j0 k bt111.1 l0_0 l0_1 l0_2)) else (impl_replace.j0 k y104 l0_0 l0_1 l0_2)) = some (r1, r2, r3, r4) := H
   have A7 := am A70
   clear A70
   have HC8 := am H
   clear H
   go_enter Try.func67, Try.ntmps67
   go_upto_if 32 with (first | ((with_reducible refine qal (N := 3) rfl ?_); refine bxE (N := 3) (cs := #[.slice A0_0 l0_0.length c0_0, .slice A0_1 l0_1.length c0_1, .slice A0_2 l0_2.length c0_2]) (t := 31) ?_; intro gb101 hg w9 hbox hb; have BK101 := am (hbox); have GW101 := am (sgE hg (au3 HB.out) : w.heap.size ≤ gb101); have GE101 := GW101; replace HB := am (qad (au3 HB.out) hb); clear hb hbox hg) | ((with_reducible refine qal (N := 6) rfl ?_); refine bxE (N := 6) (cs := #[.slice none 0 0, .slice none 0 0, .slice none 0 0]) (t := 31) ?_; intro gb102 hg w10 hbox hb; have BK102 := am (hbox); have GW102 := am (sgE hg (au7 HB.out GE101.out) : w.heap.size ≤ gb102); have GE102 := GW102; replace HB := am (qad (au7 HB.out GE101.out) hb); have NB101_102 := am ((sltE hg (qan (au1 BK101.out)))); have NB102_101 := am ((sgtE hg (qan (au1 BK101.out)))); replace BK101 := am (qab (au1 BK101.out) hb); clear hb hbox hg; have hnb11 := NB101_102.out; have hnc11 := NB102_101.out; have hcz12_0 : _ = some (Value.slice A0_0 l0_0.length c0_0) := bcE BK101.out 0; have hcz12_1 : _ = some (Value.slice A0_1 l0_1.length c0_1) := bcE BK101.out 1; have hcz12_2 : _ = some (Value.slice A0_2 l0_2.length c0_2) := bcE BK101.out 2; have hfz12_0 := qaa BK101.out 0; have hfz12_1 := qaa BK101.out 1; have hfz12_2 := qaa BK101.out 2) | ((with_reducible refine qaj (f := 49) rfl ?_); refine qap (some 16) rfl rfl Try.func49 (by kernel_rfl) rfl #[.agg #[.slice A0_0 l0_0.length c0_0, .slice A0_1 l0_1.length c0_1, .slice A0_2 l0_2.length c0_2]] rfl au6 ?_; (with_reducible refine (impl_isDisk.calls _ _ l0_0 _ _ l0_1 _ _ l0_2 true _ ?side1 ?side2 ?side3 ?side4 ?side5 ?side6 A4.out).mono ?_); (case side1 => exact scE (Kd.C_below HR0_0.out HB.out)); (case side2 => exact HC0_0.out); (case side3 => exact scE (Kd.C_below HR0_1.out HB.out)); (case side4 => exact HC0_1.out); (case side5 => exact scE (Kd.C_below HR0_2.out HB.out)); (case side6 => exact HC0_2.out); rintro e w13 ⟨rfl, hb⟩; refine ⟨_, rfl, ?_⟩; replace BK101 := am (qab (au1 BK101.out) hb); replace BK102 := am (qab (au1 BK102.out) hb); replace HB := am (qad (au4 HB.out GE101.out GE102.out) hb); (try clear hb); (try clear hb2); (try clear hk); (try clear hi)) | ((with_reducible refine qal (N := 27) rfl ?_); refine Kd.R_lit k73 _ 73 ?hg (N := 27) ?hd (xs := ([(⟨1, a1 ++ (⟨#[46, 110, 101, 119]⟩ : ByteArray), (⟨#[]⟩ : ByteArray), a2⟩ : S73), (⟨2, a1 ++ (⟨#[46, 110, 101, 119]⟩ : ByteArray), a1, (⟨#[]⟩ : ByteArray)⟩ : S73)] : List (S73))) (inner := [.int .i64 1, .string (a1 ++ (⟨#[46, 110, 101, 119]⟩ : ByteArray)), .string (⟨#[]⟩ : ByteArray), .string a2, .int .i64 2, .string (a1 ++ (⟨#[46, 110, 101, 119]⟩ : ByteArray)), .string a1, .string (⟨#[]⟩ : ByteArray)]) (ok := fun _ => True) (okp := fun _ => True) ?hr ?hp (fun _ hk => hk) trivial (Below.refl _ _) (Nat.le_refl _) (by simp) ?_; (case hd => rfl); (case hg => rfl); (case hr => first | (go_simp; done) | (go_simp; rfl)); (case hp => exact (Reps.c4 (show Kd.M k73 _ _ _ (⟨1, a1 ++ (⟨#[46, 110, 101, 119]⟩ : ByteArray), (⟨#[]⟩ : ByteArray), a2⟩ : S73) [.int .i64 1, .string (a1 ++ (⟨#[46, 110, 101, 119]⟩ : ByteArray)), .string (⟨#[]⟩ : ByteArray), .string a2] from (qct _ _ _ (⟨1, a1 ++ (⟨#[46, 110, 101, 119]⟩ : ByteArray), (⟨#[]⟩ : ByteArray), a2⟩ : S73) )) (Reps.c4 (show Kd.M k73 _ _ _ (⟨2, a1 ++ (⟨#[46, 110, 101, 119]⟩ : ByteArray), a1, (⟨#[]⟩ : ByteArray)⟩ : S73) [.int .i64 2, .string (a1 ++ (⟨#[46, 110, 101, 119]⟩ : ByteArray)), .string a1, .string (⟨#[]⟩ : ByteArray)] from (qct _ _ _ (⟨2, a1 ++ (⟨#[46, 110, 101, 119]⟩ : ByteArray), a1, (⟨#[]⟩ : ByteArray)⟩ : S73) )) (Reps.none _ _)))); intro v105 w14 ho15 hb hg_ hnew_; clear hg_ hnew_; (first | rw [← Ny104.out] at ho15 | (simp only [Int.reduceToNat] at ho15; rw [← Ny104.out] at ho15)); have HO106 := am (Kd.R_lower ho15 (qaf (au4 HB.out GE101.out GE102.out))); replace BK101 := am (qab (au1 BK101.out) hb); replace BK102 := am (qab (au1 BK102.out) hb); replace HB := am (qad (au4 HB.out GE101.out GE102.out) hb); clear hb ho15; have hcz16_0 : _ = some (Value.slice A0_0 l0_0.length c0_0) := bcE BK101.out 0; have hcz16_1 : _ = some (Value.slice A0_1 l0_1.length c0_1) := bcE BK101.out 1; have hcz16_2 : _ = some (Value.slice A0_2 l0_2.length c0_2) := bcE BK101.out 2; have hfz16_0 := qaa BK101.out 0; have hfz16_1 := qaa BK101.out 1; have hfz16_2 := qaa BK101.out 2) | ((with_reducible refine qaj (f := 53) rfl ?_); refine qap (some 31) rfl rfl Try.func53 (by kernel_rfl) rfl #[.slice A0_0 l0_0.length c0_0, .string (a1 ++ (⟨#[46, 110, 101, 119]⟩ : ByteArray))] rfl au6 ?_; (with_reducible refine (impl_fileOf.calls _ _ l0_0 (a1 ++ (⟨#[46, 110, 101, 119]⟩ : ByteArray)) t107 _ ?side1 ?side2 A7.out).mono ?_); (case side1 => exact scE (Kd.C_below HR0_0.out HB.out)); (case side2 => exact HC0_0.out); rintro e w17 ⟨rfl, hb⟩; refine ⟨_, rfl, ?_⟩; replace HO106 := am (Kd.R_below (au0 HO106.out) hb); replace BK101 := am (qab (au1 BK101.out) hb); replace BK102 := am (qab (au1 BK102.out) hb); replace HB := am (qad (au4 HB.out GE101.out GE102.out) hb); (try clear hb); (try clear hb2); (try clear hk); (try clear hi)))
   (try simp only [Act.put, qsA, qsZ, qsS])
   go_cut [9] (fun v9 wc => ∃ (kq : Nat) (x9_7 : List (S73)), Aside0 (impl_replace.j0 kq x9_7 l0_0 l0_1 l0_2 = some (r1, r2, r3, r4)) ∧ Aside0 (kq ≤ k) ∧ Aside0 (Kd.R k73 73 wc w.heap.size (fun _ => True) v9 x9_7) ∧ Aside0 (wc.heap[gb101]? = some (.cells #[(.slice A0_0 l0_0.length c0_0), (.slice A0_1 l0_1.length c0_1), (.slice A0_2 l0_2.length c0_2)] 31 (0, 0))) ∧ Aside0 (wc.heap[gb102]? = some (.cells #[(.slice none 0 0), (.slice none 0 0), (.slice none 0 0)] 31 (0, 0))) ∧ Aside0 (Below w.heap.size w wc))
   case first =>
    have H := HC8.out
    clear HC8
    by_cases c18 : t107 ≥ 0
    ·
     rw [if_pos c18] at H
     have c18b0 : decide (0 ≤ t107) = true := decide_eq_true c18
     clear c18
     (first | rw [c18b0] | (simp only [i64_w, i32_w]; rw [c18b0]) | skip)
     obtain ⟨y108, hy108⟩ : ∃ y_ : List (S73), y_ = (([(⟨3, a1 ++ (⟨#[46, 110, 101, 119]⟩ : ByteArray), (⟨#[]⟩ : ByteArray), (⟨#[]⟩ : ByteArray)⟩ : S73)] : List (S73))) := ⟨_, rfl⟩
     replace H : ((impl_DOp_103.f y104 0 y108).bind fun bt111 => (impl_replace.j0 k bt111.1 l0_0 l0_1 l0_2)) = some (r1, r2, r3, r4) := by first | (rw [hy108]; with_reducible exact H) | (have H2_ := (Option.bind_some _ _).symm.trans H; rw [hy108]; with_reducible exact H2_) | (have H2_ := (Option.bind_some _ _).symm.trans H; with_reducible exact H2_) | with_reducible exact H | (rw [hy108]; exact H) | exact H
     have Ny108 := am hy108
     clear hy108
     replace H := Option.bind_eq_some_iff.mp H
     obtain ⟨⟨t111, t114⟩, A190, H⟩ := H
     replace H : (impl_replace.j0 k t111 l0_0 l0_1 l0_2) = some (r1, r2, r3, r4) := H
     have A19 := am A190
     clear A190
     have H' := am H
     clear H
     go_wp2_with (first | ((with_reducible refine qal (N := 36) rfl ?_); refine Kd.R_lit k73 _ 73 ?hg (N := 36) ?hd (xs := ([(⟨3, a1 ++ (⟨#[46, 110, 101, 119]⟩ : ByteArray), (⟨#[]⟩ : ByteArray), (⟨#[]⟩ : ByteArray)⟩ : S73)] : List (S73))) (inner := [.int .i64 3, .string (a1 ++ (⟨#[46, 110, 101, 119]⟩ : ByteArray)), .string (⟨#[]⟩ : ByteArray), .string (⟨#[]⟩ : ByteArray)]) (ok := fun _ => True) (okp := fun _ => True) ?hr ?hp (fun _ hk => hk) trivial (Below.refl _ _) (Nat.le_refl _) (by simp) ?_; (case hd => rfl); (case hg => rfl); (case hr => first | (go_simp; done) | (go_simp; rfl)); (case hp => exact (Reps.c4 (show Kd.M k73 _ _ _ (⟨3, a1 ++ (⟨#[46, 110, 101, 119]⟩ : ByteArray), (⟨#[]⟩ : ByteArray), (⟨#[]⟩ : ByteArray)⟩ : S73) [.int .i64 3, .string (a1 ++ (⟨#[46, 110, 101, 119]⟩ : ByteArray)), .string (⟨#[]⟩ : ByteArray), .string (⟨#[]⟩ : ByteArray)] from (qct _ _ _ (⟨3, a1 ++ (⟨#[46, 110, 101, 119]⟩ : ByteArray), (⟨#[]⟩ : ByteArray), (⟨#[]⟩ : ByteArray)⟩ : S73) )) (Reps.none _ _))); intro v109 w20 ho21 hb hg_ hnew_; clear hg_ hnew_; (first | rw [← Ny108.out] at ho21 | (simp only [Int.reduceToNat] at ho21; rw [← Ny108.out] at ho21)); have HO110 := am (Kd.R_lower (Kd.R_new' ho21 (Kd.R_lt (au0 HO106.out))) (qaf (au4 HB.out GE101.out GE102.out))); replace HO106 := am (Kd.R_elder' (au0 HO106.out) (Kd.R_base ho21) hb); replace BK101 := am (qab (au1 BK101.out) hb); replace BK102 := am (qab (au1 BK102.out) hb); replace HB := am (qad (au4 HB.out GE101.out GE102.out) hb); clear hb ho21; obtain ⟨Ao22, co22, eo22⟩ := Kd.R_slice HO106.out; subst eo22; obtain ⟨Ao23, co23, eo23⟩ := Kd.R_slice HO110.out; subst eo23) | ((with_reducible refine qaj (f := 103) rfl ?_); refine qap (some 37) rfl rfl Try.func103 (by kernel_rfl) rfl #[.slice Ao22 y104.length co22, .int .i64 0, .slice Ao23 y108.length co23] rfl au6 ?_; (with_reducible refine (impl_DOp_103.calls (fun k_ => some k_ = (.slice Ao22 y104.length co22 : Value).ownBlock) (.slice Ao22 y104.length co22) y104 0 (fun k_ => some k_ = (.slice Ao23 y108.length co23 : Value).ownBlock) (.slice Ao23 y108.length co23) y108 t111 t114 w _ ?side1 ?side2 ?side3 ?side4 ?side5 A19.out).mono ?_); (case side1 => repeat (first | (with_reducible first | exact HB.out | apply qaq | apply qaw | apply qay | refine qar ?_ GE101.out | refine qar ?_ GE102.out) | exact HB.out)); (case side2 => exact Kd.R_tight rfl HO106.out); (case side3 => exact fun k_ e_ => (HO106.out.1 k_ e_.symm).2); (case side4 => exact Kd.R_tight rfl HO110.out); (case side5 => exact fun k_ e_ => (HO110.out.1 k_ e_.symm).2); rintro e w24 ⟨v112, rfl, ho0, hy0, hb, hkp⟩; refine ⟨_, rfl, ?_⟩; replace BK101 := am (qbu (au1 BK101.out) hkp (fun hs_ => Or.elim hs_ (fun e_ => (fun e_ => (Kd.R_ne HO106.out BK101.out (by decide)) e_) e_) (fun e_ => (fun e_ => (Kd.R_ne HO110.out BK101.out (by decide)) e_) e_))); replace BK102 := am (qbu (au1 BK102.out) hkp (fun hs_ => Or.elim hs_ (fun e_ => (fun e_ => (Kd.R_ne HO106.out BK102.out (by decide)) e_) e_) (fun e_ => (fun e_ => (Kd.R_ne HO110.out BK102.out (by decide)) e_) e_))); replace HO110 := am (Kd.R_reok rfl hy0 (fun k_ e_ => HO110.out.1 k_ e_)); have HO113 := am (Kd.R_mono (ok' := fun k_ => some k_ ≠ (.slice Ao23 y108.length co23 : Value).ownBlock) ho0 (fun k_ hk_ => hk_.2)); replace HB := am (hb); clear HO106; (try clear hb); (try clear hkp); (try clear ho0); (try clear hy0)))
     go_meet
     case rel => exact ⟨_, (t111), H', ⟨by first | omega | exact Nat.le_refl _⟩, ⟨by refine au0 ?_; exact Kd.R_mono HO113.out (fun _ hk => trivial)⟩, ⟨au1 BK101.out⟩, ⟨au1 BK102.out⟩, ⟨(au4 HB.out GE101.out GE102.out)⟩⟩
    ·
     rw [if_neg c18] at H
     have c18b0 : decide (0 ≤ t107) = false := decide_eq_false c18
     clear c18
     (first | rw [c18b0] | (simp only [i64_w, i32_w]; rw [c18b0]) | skip)
     have H' := am H
     clear H
     go_wp2
     go_meet
     case rel => exact ⟨_, (y104), H', ⟨by first | omega | exact Nat.le_refl _⟩, ⟨au0 HO106.out⟩, ⟨au1 BK101.out⟩, ⟨au1 BK102.out⟩, ⟨(au4 HB.out GE101.out GE102.out)⟩⟩
   case rest =>
    clear HC8
    obtain ⟨kq, x9_7, HA, HJ7, HO_9, BK101, BK102, HB⟩ := hcut
    cases kq with
    | zero => exact absurd HA.out (by simp [impl_replace.j0])
    | succ kj7 =>
     have H := HA.out
     clear HA
     simp only [impl_replace.j0] at H
     replace H := Option.bind_eq_some_iff.mp H
     obtain ⟨⟨t115, t118, t121⟩, A250, H⟩ := H
     replace H : (impl_replace.l0 kj7 x9_7 (x9_7.length : Int) 0 l0_0 l0_1 l0_2 t115 t118 t121) = some (r1, r2, r3, r4) := H
     have A25 := am A250
     clear A250
     have H' := am H
     clear H
     have hnb26 := NB101_102.out
     have hnc26 := NB102_101.out
     have hcz27_0 : _ = some (Value.slice A0_0 l0_0.length c0_0) := bcE BK101.out 0
     have hcz27_1 : _ = some (Value.slice A0_1 l0_1.length c0_1) := bcE BK101.out 1
     have hcz27_2 : _ = some (Value.slice A0_2 l0_2.length c0_2) := bcE BK101.out 2
     have hfz27_0 := qaa BK101.out 0
     have hfz27_1 := qaa BK101.out 1
     have hfz27_2 := qaa BK101.out 2
     go_wp2_with (first | ((with_reducible refine qaj (f := 79) rfl ?_); refine qap (some 39) rfl rfl Try.func79 (by kernel_rfl) rfl #[.agg #[.slice A0_0 l0_0.length c0_0, .slice A0_1 l0_1.length c0_1, .slice A0_2 l0_2.length c0_2]] rfl au6 ?_; (with_reducible refine (impl_copyDisk.calls _ _ l0_0 _ _ l0_1 _ _ l0_2 t115 t118 t121 _ ?side1 ?side2 ?side3 ?side4 ?side5 ?side6 A25.out).mono ?_); (case side1 => exact scE (Kd.C_below HR0_0.out HB.out)); (case side2 => exact HC0_0.out); (case side3 => exact scE (Kd.C_below HR0_1.out HB.out)); (case side4 => exact HC0_1.out); (case side5 => exact scE (Kd.C_below HR0_2.out HB.out)); (case side6 => exact HC0_2.out); rintro e w28 ⟨v116, v119, v122, rfl, ho0, ho1, ho2, hb⟩; refine ⟨_, rfl, ?_⟩; have HO117 := am (Kd.R_lower ho0 (qaf (au4 HB.out GE101.out GE102.out))); have HO120 := am (Kd.R_lower ho1 (qaf (au4 HB.out GE101.out GE102.out))); have HO123 := am (Kd.R_lower (Kd.R_new' ho2 (Kd.R_lt (au0 HO_9.out))) (qaf (au4 HB.out GE101.out GE102.out))); replace HO_9 := am (Kd.R_elder' (au0 HO_9.out) (Kd.R_base ho2) hb); replace BK101 := am (qab (au1 BK101.out) hb); replace BK102 := am (qab (au1 BK102.out) hb); replace HB := am (qad (au4 HB.out GE101.out GE102.out) hb); (try clear hb); (try clear hb2); (try clear hk); (try clear hi); (try clear ho0); (try clear ho1); (try clear ho2)) | ((with_reducible refine qal (N := 10) rfl ?_); refine bxE (N := 10) (cs := #[.slice none 0 0, .slice none 0 0, .slice none 0 0]) (t := 31) ?_; intro gb124 hg w29 hbox hb; replace HO_9 := am (Kd.R_below (au0 HO_9.out) hb); replace HO117 := am (Kd.R_below (au0 HO117.out) hb); replace HO120 := am (Kd.R_below (au0 HO120.out) hb); replace HO123 := am (Kd.R_below (au0 HO123.out) hb); have BK124 := am (hbox); have GW124 := am (sgE hg (au4 HB.out GE101.out GE102.out) : w.heap.size ≤ gb124); have GE124 := GW124; replace HB := am (qad (au4 HB.out GE101.out GE102.out) hb); have NB101_124 := am ((sltE hg (qan (au1 BK101.out)))); have NB124_101 := am ((sgtE hg (qan (au1 BK101.out)))); replace BK101 := am (qab (au1 BK101.out) hb); have NB102_124 := am ((sltE hg (qan (au1 BK102.out)))); have NB124_102 := am ((sgtE hg (qan (au1 BK102.out)))); replace BK102 := am (qab (au1 BK102.out) hb); clear hb hbox hg; obtain ⟨Ao30, co30, eo30⟩ := Kd.R_slice HO117.out; subst eo30; have hnb31 := NB124_101.out; have hnc31 := NB101_124.out; have hnb32 := NB124_102.out; have hnc32 := NB102_124.out; have hcz33_0 : _ = some (Value.slice none 0 0) := bcE BK124.out 0; have hcz33_1 : _ = some (Value.slice none 0 0) := bcE BK124.out 1; have hcz33_2 : _ = some (Value.slice none 0 0) := bcE BK124.out 2; have hfz33_0 := qaa BK124.out 0; have hfz33_1 := qaa BK124.out 1; have hfz33_2 := qaa BK124.out 2; obtain ⟨Ao34, co34, eo34⟩ := Kd.R_slice HO120.out; subst eo34; obtain ⟨Ao35, co35, eo35⟩ := Kd.R_slice HO123.out; subst eo35; obtain ⟨Ao36, co36, eo36⟩ := Kd.R_slice HO_9.out; subst eo36))
     go_loopg [42] kj7 (fun kq v42 w' => ∃ (x42_2 : Int) (x125000_2 : List (S80)) (x125001_2 : List (S80)) (x125002_2 : List (S73)) (u125000 : Value) (u125001 : Value) (u125002 : Value), v42 = .int .i64 x42_2 ∧ Aside0 (impl_replace.l0 kq x9_7 (x9_7.length : Int) x42_2 l0_0 l0_1 l0_2 x125000_2 x125001_2 x125002_2 = some (r1, r2, r3, r4)) ∧ Aside0 (kq ≤ kj7) ∧ Aside0 (Kd.R k73 73 w' w.heap.size (fun k_ => some k_ ≠ (u125002 : Value).ownBlock) (.slice Ao36 x9_7.length co36) x9_7) ∧ Aside0 (Kd.R k80 80 w' w.heap.size (fun k_ => some k_ ≠ (u125001 : Value).ownBlock) u125000 x125000_2) ∧ Aside0 (Kd.R k80 80 w' w.heap.size (fun k_ => some k_ ≠ (u125000 : Value).ownBlock) u125001 x125001_2) ∧ Aside0 (Kd.R k73 73 w' w.heap.size (fun k_ => some k_ ≠ ((.slice Ao36 x9_7.length co36) : Value).ownBlock) u125002 x125002_2) ∧ Aside0 (w'.heap[gb101]? = some (.cells #[(.slice A0_0 l0_0.length c0_0), (.slice A0_1 l0_1.length c0_1), (.slice A0_2 l0_2.length c0_2)] 31 (0, 0))) ∧ Aside0 (w'.heap[gb102]? = some (.cells #[(.slice none 0 0), (.slice none 0 0), (.slice none 0 0)] 31 (0, 0))) ∧ Aside0 (w'.heap[gb124]? = some (.cells #[u125000, u125001, u125002] 31 (0, 0))) ∧ Aside0 (Below w.heap.size w w'))
     case atStart => exact ⟨(0), (t115), (t118), (t121), (.slice Ao30 t115.length co30), (.slice Ao34 t118.length co34), (.slice Ao35 t121.length co35), au10, H', ⟨Nat.le_refl _⟩, ⟨by refine au0 ?_; exact Kd.R_mono (Kd.R_far (p := ⟨gb124, 2, none⟩) (Kd.R_far (p := ⟨gb124, 1, none⟩) (Kd.R_far (p := ⟨gb124, 0, none⟩) (Kd.R_types HO_9.out BK124.out (by decide)) k2E (.slice Ao30 t115.length co30)) k2E (.slice Ao34 t118.length co34)) k2E (.slice Ao35 t121.length co35)) (fun _ hk => hk.1.2)⟩, ⟨by refine au0 ?_; exact Kd.R_mono (Kd.R_far (p := ⟨gb124, 2, none⟩) (Kd.R_far (p := ⟨gb124, 1, none⟩) (Kd.R_far (p := ⟨gb124, 0, none⟩) (Kd.R_types HO117.out BK124.out (by decide)) k2E (.slice Ao30 t115.length co30)) k2E (.slice Ao34 t118.length co34)) k2E (.slice Ao35 t121.length co35)) (fun _ hk => hk.1)⟩, ⟨by refine au0 ?_; exact Kd.R_mono (Kd.R_far (p := ⟨gb124, 2, none⟩) (Kd.R_far (p := ⟨gb124, 1, none⟩) (Kd.R_far (p := ⟨gb124, 0, none⟩) (Kd.R_types HO120.out BK124.out (by decide)) k2E (.slice Ao30 t115.length co30)) k2E (.slice Ao34 t118.length co34)) k2E (.slice Ao35 t121.length co35)) (fun _ hk => hk.1)⟩, ⟨by refine au0 ?_; exact Kd.R_mono (Kd.R_far (p := ⟨gb124, 2, none⟩) (Kd.R_far (p := ⟨gb124, 1, none⟩) (Kd.R_far (p := ⟨gb124, 0, none⟩) (Kd.R_types HO123.out BK124.out (by decide)) k2E (.slice Ao30 t115.length co30)) k2E (.slice Ao34 t118.length co34)) k2E (.slice Ao35 t121.length co35)) (fun _ hk => hk.1.2)⟩, ⟨by refine au1 ?_; refine qas ?_ NB101_124.out _; refine au1 ?_; refine qas ?_ NB101_124.out _; refine au1 ?_; refine qas ?_ NB101_124.out _; refine au1 ?_; exact BK101.out⟩, ⟨by refine au1 ?_; refine qas ?_ NB102_124.out _; refine au1 ?_; refine qas ?_ NB102_124.out _; refine au1 ?_; refine qas ?_ NB102_124.out _; refine au1 ?_; exact BK102.out⟩, ⟨by refine au1 ?_; refine qam (cs := #[.slice Ao30 t115.length co30, .slice Ao34 t118.length co34, .slice none 0 0]) ?_ 2 _ rfl; refine au1 ?_; refine qam (cs := #[.slice Ao30 t115.length co30, .slice none 0 0, .slice none 0 0]) ?_ 1 _ rfl; refine au1 ?_; refine qam (cs := #[.slice none 0 0, .slice none 0 0, .slice none 0 0]) ?_ 0 _ rfl; refine au1 ?_; exact BK124.out⟩, ⟨(au11 HB.out GE101.out GE102.out GE124.out)⟩⟩
     case round =>
      clear H'
      obtain ⟨x42_2, x125000_2, x125001_2, x125002_2, u125000, u125001, u125002, rfl, HA, HK2, HO_40, HO_125000, HO_125001, HO_125002, BK101, BK102, BK124, HB⟩ := hrel
      cases gk with
      | zero => exact absurd HA.out (by simp [impl_replace.l0])
      | succ k2 =>
       have H := HA.out
       clear HA
       simp only [impl_replace.l0] at H
       by_cases c37 : x42_2 < (x9_7.length : Int)
       ·
        rw [if_pos c37] at H
        have c37b0 : decide (x42_2 < (x9_7.length : Int)) = true := decide_eq_true c37
        clear c37
        by_cases c38 : 0 ≤ x42_2
        ·
         rw [if_pos c38] at H
         have c38b0 : decide (0 ≤ x42_2) = true := decide_eq_true c38
         clear c38
         by_cases c39 : x42_2 < (x9_7.length : Int)
         ·
          rw [if_pos c39] at H
          have c39b0 : decide (x42_2 < (x9_7.length : Int)) = true := decide_eq_true c39
          clear c39
          replace H := Option.bind_eq_some_iff.mp H
          obtain ⟨⟨t127, t130, t133, t136⟩, A400, H⟩ := H
          replace H : (if t136 = 0 then (impl_replace.l0 k2 x9_7 (x9_7.length : Int) (wrap64 (x42_2 + 1)) l0_0 l0_1 l0_2 t127 t130 t133) else ((impl_copyDisk.f l0_0 l0_1 l0_2).bind fun bt138 => (some (bt138.1, bt138.2.1, bt138.2.2, t136)))) = some (r1, r2, r3, r4) := H
          have A40 := am A400
          clear A400
          by_cases c41 : t136 = 0
          ·
           rw [if_pos c41] at H
           have c41b0 : (t136 == 0) = true := beq_iff_eq.mpr c41
           have c41b1 : (t136 != 0) = false := bne_eq_false_iff_eq.mpr c41
           clear c41
           have H' := am H
           clear H
           have p125 : 0 ≤ (x42_2 : Int) := of_decide_eq_true au9
           have q125 : x42_2 < (x9_7.length : Int) := of_decide_eq_true au9
           obtain ⟨ad125, e125, hx125_0, hx125_1, hx125_2, hx125_3⟩ := qcu (Kd.R_reads' HO_40.out).2.2 x42_2 p125 q125
           cases e125
           replace p125 := eq_true p125
           replace q125 := eq_true q125
           go_wp2_with (first | ((with_reducible refine qal (N := 12) rfl ?_); refine bxE (N := 12) (cs := #[.int .i64 0, .string (⟨#[]⟩ : ByteArray), .string (⟨#[]⟩ : ByteArray), .string (⟨#[]⟩ : ByteArray)]) (t := 73) ?_; intro gb126 hg w42 hbox hb; replace HO_40 := am (Kd.R_below (Kd.R_elderB (au0 HO_40.out) gb126 (Nat.le_of_eq hg.symm)) hb); replace HO_125000 := am (Kd.R_below (au0 HO_125000.out) hb); replace HO_125001 := am (Kd.R_below (au0 HO_125001.out) hb); replace HO_125002 := am (Kd.R_below (Kd.R_elderB (au0 HO_125002.out) gb126 (Nat.le_of_eq hg.symm)) hb); have BK126 := am (hbox); have GW126 := am (sgE hg (au11 HB.out GE101.out GE102.out GE124.out) : w.heap.size ≤ gb126); have GE126 := GW126; replace HB := am (qad (au11 HB.out GE101.out GE102.out GE124.out) hb); have NB101_126 := am ((sltE hg (qan (au1 BK101.out)))); have NB126_101 := am ((sgtE hg (qan (au1 BK101.out)))); replace BK101 := am (qab (au1 BK101.out) hb); have NB102_126 := am ((sltE hg (qan (au1 BK102.out)))); have NB126_102 := am ((sgtE hg (qan (au1 BK102.out)))); replace BK102 := am (qab (au1 BK102.out) hb); have NB124_126 := am ((sltE hg (qan (au1 BK124.out)))); have NB126_124 := am ((sgtE hg (qan (au1 BK124.out)))); replace BK124 := am (qab (au1 BK124.out) hb); clear hb hbox hg; have hnb43 := NB126_101.out; have hnc43 := NB101_126.out; have hnb44 := NB126_102.out; have hnc44 := NB102_126.out; have hnb45 := NB126_124.out; have hnc45 := NB124_126.out; have hcz46_0 : _ = some (Value.int .i64 0) := bcE BK126.out 0; have hcz46_1 : _ = some (Value.string (⟨#[]⟩ : ByteArray)) := bcE BK126.out 1; have hcz46_2 : _ = some (Value.string (⟨#[]⟩ : ByteArray)) := bcE BK126.out 2; have hcz46_3 : _ = some (Value.string (⟨#[]⟩ : ByteArray)) := bcE BK126.out 3; have hfz46_0 := qaa BK126.out 0; have hfz46_1 := qaa BK126.out 1; have hfz46_2 := qaa BK126.out 2; have hfz46_3 := qaa BK126.out 3; have hnb47 := NB124_101.out; have hnc47 := NB101_124.out; have hnb48 := NB124_102.out; have hnc48 := NB102_124.out; have hcz49_0 : _ = some (u125000) := bcE BK124.out 0; have hcz49_1 : _ = some (u125001) := bcE BK124.out 1; have hcz49_2 : _ = some (u125002) := bcE BK124.out 2; have hfz49_0 := qaa BK124.out 0; have hfz49_1 := qaa BK124.out 1; have hfz49_2 := qaa BK124.out 2; obtain ⟨Ao50, co50, eo50⟩ := Kd.R_slice HO_125000.out; subst eo50; obtain ⟨Ao51, co51, eo51⟩ := Kd.R_slice HO_125001.out; subst eo51; obtain ⟨Ao52, co52, eo52⟩ := Kd.R_slice HO_125002.out; subst eo52) | ((with_reducible refine qaj (f := 104) rfl ?_); refine qap (some 49) rfl rfl Try.func104 (by kernel_rfl) rfl #[.agg #[.slice Ao50 x125000_2.length co50, .slice Ao51 x125001_2.length co51, .slice Ao52 x125002_2.length co52], .agg #[.int .i64 ((qae x9_7 x42_2).f0), .string ((qae x9_7 x42_2).f1), .string ((qae x9_7 x42_2).f2), .string ((qae x9_7 x42_2).f3)]] rfl au6 ?_; (with_reducible refine (impl_doRight.calls k2 _ _ x125000_2 _ _ x125001_2 _ _ x125002_2 ((qae x9_7 x42_2).f0) ((qae x9_7 x42_2).f1) ((qae x9_7 x42_2).f2) ((qae x9_7 x42_2).f3) t127 t130 t133 t136 _ ?side1 ?side2 ?side3 ?side4 ?side5 ?side6 A40.out).mono ?_); (case side1 => refine (Kd.R_reads' (e := 80) (base := w.heap.size) (ok := fun k_ => some k_ ≠ (.slice Ao51 x125001_2.length co51 : Value).ownBlock) (n := x125000_2.length) (c := co50) ?_).2.2; exact (by refine au0 ?_; exact (Kd.R_mono (Kd.R_far (p := ⟨gb126, 3, none⟩) (Kd.R_far (p := ⟨gb126, 2, none⟩) (Kd.R_far (p := ⟨gb126, 1, none⟩) (Kd.R_far (p := ⟨gb126, 0, none⟩) (Kd.R_types HO_125000.out BK126.out (by decide)) k2E (.int .i64 ((qae x9_7 x42_2).f0))) k2E (.string ((qae x9_7 x42_2).f1))) k2E (.string ((qae x9_7 x42_2).f2))) k2E (.string ((qae x9_7 x42_2).f3))) k1E))); (case side2 => exact (Kd.R_reads' HO_125000.out).2.1); (case side3 => refine (Kd.R_reads' (e := 80) (base := w.heap.size) (ok := fun k_ => some k_ ≠ (.slice Ao50 x125000_2.length co50 : Value).ownBlock) (n := x125001_2.length) (c := co51) ?_).2.2; exact (by refine au0 ?_; exact (Kd.R_mono (Kd.R_far (p := ⟨gb126, 3, none⟩) (Kd.R_far (p := ⟨gb126, 2, none⟩) (Kd.R_far (p := ⟨gb126, 1, none⟩) (Kd.R_far (p := ⟨gb126, 0, none⟩) (Kd.R_types HO_125001.out BK126.out (by decide)) k2E (.int .i64 ((qae x9_7 x42_2).f0))) k2E (.string ((qae x9_7 x42_2).f1))) k2E (.string ((qae x9_7 x42_2).f2))) k2E (.string ((qae x9_7 x42_2).f3))) k1E))); (case side4 => exact (Kd.R_reads' HO_125001.out).2.1); (case side5 => refine (Kd.R_reads' (e := 73) (base := w.heap.size) (ok := fun k_ => (some k_ ≠ (.slice (some ad125) x9_7.length co36 : Value).ownBlock ∧ k_ ≠ gb126)) (n := x125002_2.length) (c := co52) ?_).2.2; exact (by refine au0 ?_; exact (Kd.R_mono (Kd.R_far (p := ⟨gb126, 3, none⟩) (Kd.R_far (p := ⟨gb126, 2, none⟩) (Kd.R_far (p := ⟨gb126, 1, none⟩) (Kd.R_far (p := ⟨gb126, 0, none⟩) (Kd.R_mono HO_125002.out (fun k_ hk => (⟨hk, hk.2⟩ : _ ∧ k_ ≠ gb126))) k2E (.int .i64 ((qae x9_7 x42_2).f0))) k2E (.string ((qae x9_7 x42_2).f1))) k2E (.string ((qae x9_7 x42_2).f2))) k2E (.string ((qae x9_7 x42_2).f3))) k1E))); (case side6 => exact (Kd.R_reads' HO_125002.out).2.1); rintro e w53 ⟨v128, v131, v134, rfl, ho0, ho1, ho2, hb⟩; refine ⟨_, rfl, ?_⟩; have HO129 := am (Kd.R_lower (Kd.R_new' (Kd.R_new' ho0 (Kd.R_lt (by refine au0 ?_; exact (Kd.R_mono (Kd.R_far (p := ⟨gb126, 3, none⟩) (Kd.R_far (p := ⟨gb126, 2, none⟩) (Kd.R_far (p := ⟨gb126, 1, none⟩) (Kd.R_far (p := ⟨gb126, 0, none⟩) (Kd.R_types HO_125000.out BK126.out (by decide)) k2E (.int .i64 ((qae x9_7 x42_2).f0))) k2E (.string ((qae x9_7 x42_2).f1))) k2E (.string ((qae x9_7 x42_2).f2))) k2E (.string ((qae x9_7 x42_2).f3))) k1E)))) (Kd.R_lt (by refine au0 ?_; exact (Kd.R_mono (Kd.R_far (p := ⟨gb126, 3, none⟩) (Kd.R_far (p := ⟨gb126, 2, none⟩) (Kd.R_far (p := ⟨gb126, 1, none⟩) (Kd.R_far (p := ⟨gb126, 0, none⟩) (Kd.R_types HO_125001.out BK126.out (by decide)) k2E (.int .i64 ((qae x9_7 x42_2).f0))) k2E (.string ((qae x9_7 x42_2).f1))) k2E (.string ((qae x9_7 x42_2).f2))) k2E (.string ((qae x9_7 x42_2).f3))) k1E)))) (qaf (au12 HB.out GE101.out GE102.out GE124.out GE126.out))); have HO132 := am (Kd.R_lower (Kd.R_new' (Kd.R_new' ho1 (Kd.R_lt (by refine au0 ?_; exact (Kd.R_mono (Kd.R_far (p := ⟨gb126, 3, none⟩) (Kd.R_far (p := ⟨gb126, 2, none⟩) (Kd.R_far (p := ⟨gb126, 1, none⟩) (Kd.R_far (p := ⟨gb126, 0, none⟩) (Kd.R_types HO_125000.out BK126.out (by decide)) k2E (.int .i64 ((qae x9_7 x42_2).f0))) k2E (.string ((qae x9_7 x42_2).f1))) k2E (.string ((qae x9_7 x42_2).f2))) k2E (.string ((qae x9_7 x42_2).f3))) k1E)))) (Kd.R_lt (by refine au0 ?_; exact (Kd.R_mono (Kd.R_far (p := ⟨gb126, 3, none⟩) (Kd.R_far (p := ⟨gb126, 2, none⟩) (Kd.R_far (p := ⟨gb126, 1, none⟩) (Kd.R_far (p := ⟨gb126, 0, none⟩) (Kd.R_types HO_125001.out BK126.out (by decide)) k2E (.int .i64 ((qae x9_7 x42_2).f0))) k2E (.string ((qae x9_7 x42_2).f1))) k2E (.string ((qae x9_7 x42_2).f2))) k2E (.string ((qae x9_7 x42_2).f3))) k1E)))) (qaf (au12 HB.out GE101.out GE102.out GE124.out GE126.out))); replace HO_125000 := am (Kd.R_mono (Kd.R_told (Kd.R_told (Kd.R_old (by refine au0 ?_; exact (Kd.R_mono (Kd.R_far (p := ⟨gb126, 3, none⟩) (Kd.R_far (p := ⟨gb126, 2, none⟩) (Kd.R_far (p := ⟨gb126, 1, none⟩) (Kd.R_far (p := ⟨gb126, 0, none⟩) (Kd.R_types HO_125000.out BK126.out (by decide)) k2E (.int .i64 ((qae x9_7 x42_2).f0))) k2E (.string ((qae x9_7 x42_2).f1))) k2E (.string ((qae x9_7 x42_2).f2))) k2E (.string ((qae x9_7 x42_2).f3))) k1E)) hb) (Kd.R_base ho0)) (Kd.R_base ho1)) k1E); replace HO_125001 := am (Kd.R_mono (Kd.R_told (Kd.R_told (Kd.R_old (by refine au0 ?_; exact (Kd.R_mono (Kd.R_far (p := ⟨gb126, 3, none⟩) (Kd.R_far (p := ⟨gb126, 2, none⟩) (Kd.R_far (p := ⟨gb126, 1, none⟩) (Kd.R_far (p := ⟨gb126, 0, none⟩) (Kd.R_types HO_125001.out BK126.out (by decide)) k2E (.int .i64 ((qae x9_7 x42_2).f0))) k2E (.string ((qae x9_7 x42_2).f1))) k2E (.string ((qae x9_7 x42_2).f2))) k2E (.string ((qae x9_7 x42_2).f3))) k1E)) hb) (Kd.R_base ho0)) (Kd.R_base ho1)) k1E); have HO135 := am (Kd.R_lower (Kd.R_newB (Kd.R_new' (Kd.R_new' ho2 (Kd.R_lt (by refine au0 ?_; exact (Kd.R_mono (Kd.R_far (p := ⟨gb126, 3, none⟩) (Kd.R_far (p := ⟨gb126, 2, none⟩) (Kd.R_far (p := ⟨gb126, 1, none⟩) (Kd.R_far (p := ⟨gb126, 0, none⟩) (Kd.R_mono HO_40.out (fun k_ hk => (⟨hk, hk.2⟩ : _ ∧ k_ ≠ gb126))) k2E (.int .i64 ((qae x9_7 x42_2).f0))) k2E (.string ((qae x9_7 x42_2).f1))) k2E (.string ((qae x9_7 x42_2).f2))) k2E (.string ((qae x9_7 x42_2).f3))) k1E)))) (Kd.R_lt (by refine au0 ?_; exact (Kd.R_mono (Kd.R_far (p := ⟨gb126, 3, none⟩) (Kd.R_far (p := ⟨gb126, 2, none⟩) (Kd.R_far (p := ⟨gb126, 1, none⟩) (Kd.R_far (p := ⟨gb126, 0, none⟩) (Kd.R_mono HO_125002.out (fun k_ hk => (⟨hk, hk.2⟩ : _ ∧ k_ ≠ gb126))) k2E (.int .i64 ((qae x9_7 x42_2).f0))) k2E (.string ((qae x9_7 x42_2).f1))) k2E (.string ((qae x9_7 x42_2).f2))) k2E (.string ((qae x9_7 x42_2).f3))) k1E)))) (g := gb126) (o := .cells #[.int .i64 ((qae x9_7 x42_2).f0), .string ((qae x9_7 x42_2).f1), .string ((qae x9_7 x42_2).f2), .string ((qae x9_7 x42_2).f3)] 73 (0, 0)) (by refine au1 ?_; refine qam (cs := #[.int .i64 ((qae x9_7 x42_2).f0), .string ((qae x9_7 x42_2).f1), .string ((qae x9_7 x42_2).f2), .string (⟨#[]⟩ : ByteArray)]) ?_ 3 _ rfl; refine au1 ?_; refine qam (cs := #[.int .i64 ((qae x9_7 x42_2).f0), .string ((qae x9_7 x42_2).f1), .string (⟨#[]⟩ : ByteArray), .string (⟨#[]⟩ : ByteArray)]) ?_ 2 _ rfl; refine au1 ?_; refine qam (cs := #[.int .i64 ((qae x9_7 x42_2).f0), .string (⟨#[]⟩ : ByteArray), .string (⟨#[]⟩ : ByteArray), .string (⟨#[]⟩ : ByteArray)]) ?_ 1 _ rfl; refine au1 ?_; refine qam (cs := #[.int .i64 0, .string (⟨#[]⟩ : ByteArray), .string (⟨#[]⟩ : ByteArray), .string (⟨#[]⟩ : ByteArray)]) ?_ 0 _ rfl; refine au1 ?_; exact BK126.out)) (qaf (au12 HB.out GE101.out GE102.out GE124.out GE126.out))); replace HO_40 := am (Kd.R_elder' (by refine au0 ?_; exact (Kd.R_mono (Kd.R_far (p := ⟨gb126, 3, none⟩) (Kd.R_far (p := ⟨gb126, 2, none⟩) (Kd.R_far (p := ⟨gb126, 1, none⟩) (Kd.R_far (p := ⟨gb126, 0, none⟩) (Kd.R_mono HO_40.out (fun k_ hk => (⟨hk, hk.2⟩ : _ ∧ k_ ≠ gb126))) k2E (.int .i64 ((qae x9_7 x42_2).f0))) k2E (.string ((qae x9_7 x42_2).f1))) k2E (.string ((qae x9_7 x42_2).f2))) k2E (.string ((qae x9_7 x42_2).f3))) k1E)) (Kd.R_base ho2) hb); replace HO_125002 := am (Kd.R_elder' (by refine au0 ?_; exact (Kd.R_mono (Kd.R_far (p := ⟨gb126, 3, none⟩) (Kd.R_far (p := ⟨gb126, 2, none⟩) (Kd.R_far (p := ⟨gb126, 1, none⟩) (Kd.R_far (p := ⟨gb126, 0, none⟩) (Kd.R_mono HO_125002.out (fun k_ hk => (⟨hk, hk.2⟩ : _ ∧ k_ ≠ gb126))) k2E (.int .i64 ((qae x9_7 x42_2).f0))) k2E (.string ((qae x9_7 x42_2).f1))) k2E (.string ((qae x9_7 x42_2).f2))) k2E (.string ((qae x9_7 x42_2).f3))) k1E)) (Kd.R_base ho2) hb); replace BK101 := am (qab (g := gb101) (o := .cells #[.slice A0_0 l0_0.length c0_0, .slice A0_1 l0_1.length c0_1, .slice A0_2 l0_2.length c0_2] 31 (0, 0)) (au16 NB101_126.out BK101.out) hb); replace BK102 := am (qab (g := gb102) (o := .cells #[.slice none 0 0, .slice none 0 0, .slice none 0 0] 31 (0, 0)) (au16 NB102_126.out BK102.out) hb); replace BK124 := am (qab (g := gb124) (o := .cells #[.slice Ao50 x125000_2.length co50, .slice Ao51 x125001_2.length co51, .slice Ao52 x125002_2.length co52] 31 (0, 0)) (au16 NB124_126.out BK124.out) hb); replace BK126 := am (qab (g := gb126) (o := .cells #[.int .i64 ((qae x9_7 x42_2).f0), .string ((qae x9_7 x42_2).f1), .string ((qae x9_7 x42_2).f2), .string ((qae x9_7 x42_2).f3)] 73 (0, 0)) (by refine au1 ?_; refine qam (cs := #[.int .i64 ((qae x9_7 x42_2).f0), .string ((qae x9_7 x42_2).f1), .string ((qae x9_7 x42_2).f2), .string (⟨#[]⟩ : ByteArray)]) ?_ 3 _ rfl; refine au1 ?_; refine qam (cs := #[.int .i64 ((qae x9_7 x42_2).f0), .string ((qae x9_7 x42_2).f1), .string (⟨#[]⟩ : ByteArray), .string (⟨#[]⟩ : ByteArray)]) ?_ 2 _ rfl; refine au1 ?_; refine qam (cs := #[.int .i64 ((qae x9_7 x42_2).f0), .string (⟨#[]⟩ : ByteArray), .string (⟨#[]⟩ : ByteArray), .string (⟨#[]⟩ : ByteArray)]) ?_ 1 _ rfl; refine au1 ?_; refine qam (cs := #[.int .i64 0, .string (⟨#[]⟩ : ByteArray), .string (⟨#[]⟩ : ByteArray), .string (⟨#[]⟩ : ByteArray)]) ?_ 0 _ rfl; refine au1 ?_; exact BK126.out) hb); replace HB := am (qad (au12 HB.out GE101.out GE102.out GE124.out GE126.out) hb); (try clear hb); (try clear hb2); (try clear hk); (try clear hi); (try clear ho0); (try clear ho1); (try clear ho2)) | ((with_reducible refine qal (N := 13) rfl ?_); refine bxE (N := 13) (cs := #[.slice none 0 0, .slice none 0 0, .slice none 0 0]) (t := 31) ?_; intro gb137 hg w54 hbox hb; replace HO_40 := am (Kd.R_below (au0 HO_40.out) hb); replace HO_125000 := am (Kd.R_below (au0 HO_125000.out) hb); replace HO_125001 := am (Kd.R_below (au0 HO_125001.out) hb); replace HO_125002 := am (Kd.R_below (au0 HO_125002.out) hb); replace HO129 := am (Kd.R_below (au0 HO129.out) hb); replace HO132 := am (Kd.R_below (au0 HO132.out) hb); replace HO135 := am (Kd.R_below (au0 HO135.out) hb); have BK137 := am (hbox); have GW137 := am (sgE hg (au12 HB.out GE101.out GE102.out GE124.out GE126.out) : w.heap.size ≤ gb137); have GE137 := GW137; replace HB := am (qad (au12 HB.out GE101.out GE102.out GE124.out GE126.out) hb); have NB101_137 := am ((sltE hg (qan (au1 BK101.out)))); have NB137_101 := am ((sgtE hg (qan (au1 BK101.out)))); replace BK101 := am (qab (au1 BK101.out) hb); have NB102_137 := am ((sltE hg (qan (au1 BK102.out)))); have NB137_102 := am ((sgtE hg (qan (au1 BK102.out)))); replace BK102 := am (qab (au1 BK102.out) hb); have NB124_137 := am ((sltE hg (qan (au1 BK124.out)))); have NB137_124 := am ((sgtE hg (qan (au1 BK124.out)))); replace BK124 := am (qab (au1 BK124.out) hb); have NB126_137 := am ((sltE hg (qan (au1 BK126.out)))); have NB137_126 := am ((sgtE hg (qan (au1 BK126.out)))); replace BK126 := am (qab (au1 BK126.out) hb); clear hb hbox hg; obtain ⟨Ao55, co55, eo55⟩ := Kd.R_slice HO129.out; subst eo55; have hnb56 := NB137_101.out; have hnc56 := NB101_137.out; have hnb57 := NB137_102.out; have hnc57 := NB102_137.out; have hnb58 := NB137_124.out; have hnc58 := NB124_137.out; have hnb59 := NB137_126.out; have hnc59 := NB126_137.out; have hcz60_0 : _ = some (Value.slice none 0 0) := bcE BK137.out 0; have hcz60_1 : _ = some (Value.slice none 0 0) := bcE BK137.out 1; have hcz60_2 : _ = some (Value.slice none 0 0) := bcE BK137.out 2; have hfz60_0 := qaa BK137.out 0; have hfz60_1 := qaa BK137.out 1; have hfz60_2 := qaa BK137.out 2; obtain ⟨Ao61, co61, eo61⟩ := Kd.R_slice HO132.out; subst eo61; obtain ⟨Ao62, co62, eo62⟩ := Kd.R_slice HO135.out; subst eo62; have hcz63_0 : _ = some (Value.slice Ao50 x125000_2.length co50) := bcE BK124.out 0; have hcz63_1 : _ = some (Value.slice Ao51 x125001_2.length co51) := bcE BK124.out 1; have hcz63_2 : _ = some (Value.slice Ao52 x125002_2.length co52) := bcE BK124.out 2; have hfz63_0 := qaa BK124.out 0; have hfz63_1 := qaa BK124.out 1; have hfz63_2 := qaa BK124.out 2))
           go_roundg k2
           case measure => have := HJ7.out; have := HK2.out; omega
           case rel => exact ⟨(wrap64 (x42_2 + 1)), (t127), (t130), (t133), (.slice Ao55 t127.length co55), (.slice Ao61 t130.length co61), (.slice Ao62 t133.length co62), au10, H', ⟨by have := HJ7.out; have := HK2.out; omega⟩, ⟨by refine au0 ?_; exact Kd.R_mono (Kd.R_far (p := ⟨gb124, 2, none⟩) (Kd.R_far (p := ⟨gb124, 1, none⟩) (Kd.R_far (p := ⟨gb124, 0, none⟩) (Kd.R_far (p := ⟨gb137, 2, none⟩) (Kd.R_far (p := ⟨gb137, 1, none⟩) (Kd.R_far (p := ⟨gb137, 0, none⟩) (Kd.R_types (Kd.R_types HO_40.out BK137.out (by decide)) BK124.out (by decide)) (fun _ hk => hk.1.2) (.slice Ao55 t127.length co55)) (fun _ hk => hk.1.2) (.slice Ao61 t130.length co61)) (fun _ hk => hk.1.2) (.slice Ao62 t133.length co62)) k2E (.slice Ao55 t127.length co55)) k2E (.slice Ao61 t130.length co61)) k2E (.slice Ao62 t133.length co62)) (fun _ hk => hk.1.1.2)⟩, ⟨by refine au0 ?_; exact Kd.R_mono (Kd.R_far (p := ⟨gb124, 2, none⟩) (Kd.R_far (p := ⟨gb124, 1, none⟩) (Kd.R_far (p := ⟨gb124, 0, none⟩) (Kd.R_far (p := ⟨gb137, 2, none⟩) (Kd.R_far (p := ⟨gb137, 1, none⟩) (Kd.R_far (p := ⟨gb137, 0, none⟩) (Kd.R_types (Kd.R_types HO129.out BK137.out (by decide)) BK124.out (by decide)) (fun _ hk => hk.1.2) (.slice Ao55 t127.length co55)) (fun _ hk => hk.1.2) (.slice Ao61 t130.length co61)) (fun _ hk => hk.1.2) (.slice Ao62 t133.length co62)) k2E (.slice Ao55 t127.length co55)) k2E (.slice Ao61 t130.length co61)) k2E (.slice Ao62 t133.length co62)) (fun _ hk => hk.1.1.1.1)⟩, ⟨by refine au0 ?_; exact Kd.R_mono (Kd.R_far (p := ⟨gb124, 2, none⟩) (Kd.R_far (p := ⟨gb124, 1, none⟩) (Kd.R_far (p := ⟨gb124, 0, none⟩) (Kd.R_far (p := ⟨gb137, 2, none⟩) (Kd.R_far (p := ⟨gb137, 1, none⟩) (Kd.R_far (p := ⟨gb137, 0, none⟩) (Kd.R_types (Kd.R_types HO132.out BK137.out (by decide)) BK124.out (by decide)) (fun _ hk => hk.1.2) (.slice Ao55 t127.length co55)) (fun _ hk => hk.1.2) (.slice Ao61 t130.length co61)) (fun _ hk => hk.1.2) (.slice Ao62 t133.length co62)) k2E (.slice Ao55 t127.length co55)) k2E (.slice Ao61 t130.length co61)) k2E (.slice Ao62 t133.length co62)) (fun _ hk => hk.1.1.1.1)⟩, ⟨by refine au0 ?_; exact Kd.R_mono (Kd.R_far (p := ⟨gb124, 2, none⟩) (Kd.R_far (p := ⟨gb124, 1, none⟩) (Kd.R_far (p := ⟨gb124, 0, none⟩) (Kd.R_far (p := ⟨gb137, 2, none⟩) (Kd.R_far (p := ⟨gb137, 1, none⟩) (Kd.R_far (p := ⟨gb137, 0, none⟩) (Kd.R_types (Kd.R_types HO135.out BK137.out (by decide)) BK124.out (by decide)) (fun _ hk => hk.1.2) (.slice Ao55 t127.length co55)) (fun _ hk => hk.1.2) (.slice Ao61 t130.length co61)) (fun _ hk => hk.1.2) (.slice Ao62 t133.length co62)) k2E (.slice Ao55 t127.length co55)) k2E (.slice Ao61 t130.length co61)) k2E (.slice Ao62 t133.length co62)) (fun _ hk => hk.1.1.1.1.2)⟩, ⟨by refine au1 ?_; refine qas ?_ NB101_124.out _; refine au1 ?_; refine qas ?_ NB101_124.out _; refine au1 ?_; refine qas ?_ NB101_124.out _; refine au1 ?_; refine qas ?_ NB101_137.out _; refine au1 ?_; refine qas ?_ NB101_137.out _; refine au1 ?_; refine qas ?_ NB101_137.out _; refine au1 ?_; exact BK101.out⟩, ⟨by refine au1 ?_; refine qas ?_ NB102_124.out _; refine au1 ?_; refine qas ?_ NB102_124.out _; refine au1 ?_; refine qas ?_ NB102_124.out _; refine au1 ?_; refine qas ?_ NB102_137.out _; refine au1 ?_; refine qas ?_ NB102_137.out _; refine au1 ?_; refine qas ?_ NB102_137.out _; refine au1 ?_; exact BK102.out⟩, ⟨by refine au1 ?_; refine qam (cs := #[.slice Ao55 t127.length co55, .slice Ao61 t130.length co61, .slice Ao52 x125002_2.length co52]) ?_ 2 _ rfl; refine au1 ?_; refine qam (cs := #[.slice Ao55 t127.length co55, .slice Ao51 x125001_2.length co51, .slice Ao52 x125002_2.length co52]) ?_ 1 _ rfl; refine au1 ?_; refine qam (cs := #[.slice Ao50 x125000_2.length co50, .slice Ao51 x125001_2.length co51, .slice Ao52 x125002_2.length co52]) ?_ 0 _ rfl; refine au1 ?_; refine qas ?_ NB124_137.out _; refine au1 ?_; refine qas ?_ NB124_137.out _; refine au1 ?_; refine qas ?_ NB124_137.out _; refine au1 ?_; exact BK124.out⟩, ⟨(au15 HB.out GE101.out GE102.out GE124.out GE126.out GE137.out)⟩⟩
          ·
           rw [if_neg c41] at H
           have c41b0 : (t136 == 0) = false := beq_eq_false_iff_ne.mpr c41
           have c41b1 : (t136 != 0) = true := bne_iff_ne.mpr c41
           replace H := Option.bind_eq_some_iff.mp H
           obtain ⟨⟨t138, t141, t144⟩, A640, H⟩ := H
           replace H : (some (t138, t141, t144, t136)) = some (r1, r2, r3, r4) := H
           have A64 := am A640
           clear A640
           simp only [Option.some.injEq, Prod.mk.injEq] at H
           obtain ⟨rfl, rfl, rfl, rfl⟩ := H
           have p125 : 0 ≤ (x42_2 : Int) := of_decide_eq_true au9
           have q125 : x42_2 < (x9_7.length : Int) := of_decide_eq_true au9
           obtain ⟨ad125, e125, hx125_0, hx125_1, hx125_2, hx125_3⟩ := qcu (Kd.R_reads' HO_40.out).2.2 x42_2 p125 q125
           cases e125
           replace p125 := eq_true p125
           replace q125 := eq_true q125
           go_wp2_with (first | ((with_reducible refine qal (N := 12) rfl ?_); refine bxE (N := 12) (cs := #[.int .i64 0, .string (⟨#[]⟩ : ByteArray), .string (⟨#[]⟩ : ByteArray), .string (⟨#[]⟩ : ByteArray)]) (t := 73) ?_; intro gb126 hg w65 hbox hb; replace HO_40 := am (Kd.R_below (Kd.R_elderB (au0 HO_40.out) gb126 (Nat.le_of_eq hg.symm)) hb); replace HO_125000 := am (Kd.R_below (au0 HO_125000.out) hb); replace HO_125001 := am (Kd.R_below (au0 HO_125001.out) hb); replace HO_125002 := am (Kd.R_below (Kd.R_elderB (au0 HO_125002.out) gb126 (Nat.le_of_eq hg.symm)) hb); have BK126 := am (hbox); have GW126 := am (sgE hg (au11 HB.out GE101.out GE102.out GE124.out) : w.heap.size ≤ gb126); have GE126 := GW126; replace HB := am (qad (au11 HB.out GE101.out GE102.out GE124.out) hb); have NB101_126 := am ((sltE hg (qan (au1 BK101.out)))); have NB126_101 := am ((sgtE hg (qan (au1 BK101.out)))); replace BK101 := am (qab (au1 BK101.out) hb); have NB102_126 := am ((sltE hg (qan (au1 BK102.out)))); have NB126_102 := am ((sgtE hg (qan (au1 BK102.out)))); replace BK102 := am (qab (au1 BK102.out) hb); have NB124_126 := am ((sltE hg (qan (au1 BK124.out)))); have NB126_124 := am ((sgtE hg (qan (au1 BK124.out)))); replace BK124 := am (qab (au1 BK124.out) hb); clear hb hbox hg; have hnb66 := NB126_101.out; have hnc66 := NB101_126.out; have hnb67 := NB126_102.out; have hnc67 := NB102_126.out; have hnb68 := NB126_124.out; have hnc68 := NB124_126.out; have hcz69_0 : _ = some (Value.int .i64 0) := bcE BK126.out 0; have hcz69_1 : _ = some (Value.string (⟨#[]⟩ : ByteArray)) := bcE BK126.out 1; have hcz69_2 : _ = some (Value.string (⟨#[]⟩ : ByteArray)) := bcE BK126.out 2; have hcz69_3 : _ = some (Value.string (⟨#[]⟩ : ByteArray)) := bcE BK126.out 3; have hfz69_0 := qaa BK126.out 0; have hfz69_1 := qaa BK126.out 1; have hfz69_2 := qaa BK126.out 2; have hfz69_3 := qaa BK126.out 3; have hnb70 := NB124_101.out; have hnc70 := NB101_124.out; have hnb71 := NB124_102.out; have hnc71 := NB102_124.out; have hcz72_0 : _ = some (u125000) := bcE BK124.out 0; have hcz72_1 : _ = some (u125001) := bcE BK124.out 1; have hcz72_2 : _ = some (u125002) := bcE BK124.out 2; have hfz72_0 := qaa BK124.out 0; have hfz72_1 := qaa BK124.out 1; have hfz72_2 := qaa BK124.out 2; obtain ⟨Ao73, co73, eo73⟩ := Kd.R_slice HO_125000.out; subst eo73; obtain ⟨Ao74, co74, eo74⟩ := Kd.R_slice HO_125001.out; subst eo74; obtain ⟨Ao75, co75, eo75⟩ := Kd.R_slice HO_125002.out; subst eo75) | ((with_reducible refine qaj (f := 104) rfl ?_); refine qap (some 49) rfl rfl Try.func104 (by kernel_rfl) rfl #[.agg #[.slice Ao73 x125000_2.length co73, .slice Ao74 x125001_2.length co74, .slice Ao75 x125002_2.length co75], .agg #[.int .i64 ((qae x9_7 x42_2).f0), .string ((qae x9_7 x42_2).f1), .string ((qae x9_7 x42_2).f2), .string ((qae x9_7 x42_2).f3)]] rfl au6 ?_; (with_reducible refine (impl_doRight.calls k2 _ _ x125000_2 _ _ x125001_2 _ _ x125002_2 ((qae x9_7 x42_2).f0) ((qae x9_7 x42_2).f1) ((qae x9_7 x42_2).f2) ((qae x9_7 x42_2).f3) t127 t130 t133 t136 _ ?side1 ?side2 ?side3 ?side4 ?side5 ?side6 A40.out).mono ?_); (case side1 => refine (Kd.R_reads' (e := 80) (base := w.heap.size) (ok := fun k_ => some k_ ≠ (.slice Ao74 x125001_2.length co74 : Value).ownBlock) (n := x125000_2.length) (c := co73) ?_).2.2; exact (by refine au0 ?_; exact (Kd.R_mono (Kd.R_far (p := ⟨gb126, 3, none⟩) (Kd.R_far (p := ⟨gb126, 2, none⟩) (Kd.R_far (p := ⟨gb126, 1, none⟩) (Kd.R_far (p := ⟨gb126, 0, none⟩) (Kd.R_types HO_125000.out BK126.out (by decide)) k2E (.int .i64 ((qae x9_7 x42_2).f0))) k2E (.string ((qae x9_7 x42_2).f1))) k2E (.string ((qae x9_7 x42_2).f2))) k2E (.string ((qae x9_7 x42_2).f3))) k1E))); (case side2 => exact (Kd.R_reads' HO_125000.out).2.1); (case side3 => refine (Kd.R_reads' (e := 80) (base := w.heap.size) (ok := fun k_ => some k_ ≠ (.slice Ao73 x125000_2.length co73 : Value).ownBlock) (n := x125001_2.length) (c := co74) ?_).2.2; exact (by refine au0 ?_; exact (Kd.R_mono (Kd.R_far (p := ⟨gb126, 3, none⟩) (Kd.R_far (p := ⟨gb126, 2, none⟩) (Kd.R_far (p := ⟨gb126, 1, none⟩) (Kd.R_far (p := ⟨gb126, 0, none⟩) (Kd.R_types HO_125001.out BK126.out (by decide)) k2E (.int .i64 ((qae x9_7 x42_2).f0))) k2E (.string ((qae x9_7 x42_2).f1))) k2E (.string ((qae x9_7 x42_2).f2))) k2E (.string ((qae x9_7 x42_2).f3))) k1E))); (case side4 => exact (Kd.R_reads' HO_125001.out).2.1); (case side5 => refine (Kd.R_reads' (e := 73) (base := w.heap.size) (ok := fun k_ => (some k_ ≠ (.slice (some ad125) x9_7.length co36 : Value).ownBlock ∧ k_ ≠ gb126)) (n := x125002_2.length) (c := co75) ?_).2.2; exact (by refine au0 ?_; exact (Kd.R_mono (Kd.R_far (p := ⟨gb126, 3, none⟩) (Kd.R_far (p := ⟨gb126, 2, none⟩) (Kd.R_far (p := ⟨gb126, 1, none⟩) (Kd.R_far (p := ⟨gb126, 0, none⟩) (Kd.R_mono HO_125002.out (fun k_ hk => (⟨hk, hk.2⟩ : _ ∧ k_ ≠ gb126))) k2E (.int .i64 ((qae x9_7 x42_2).f0))) k2E (.string ((qae x9_7 x42_2).f1))) k2E (.string ((qae x9_7 x42_2).f2))) k2E (.string ((qae x9_7 x42_2).f3))) k1E))); (case side6 => exact (Kd.R_reads' HO_125002.out).2.1); rintro e w76 ⟨v128, v131, v134, rfl, ho0, ho1, ho2, hb⟩; refine ⟨_, rfl, ?_⟩; have HO129 := am (Kd.R_lower (Kd.R_new' (Kd.R_new' ho0 (Kd.R_lt (by refine au0 ?_; exact (Kd.R_mono (Kd.R_far (p := ⟨gb126, 3, none⟩) (Kd.R_far (p := ⟨gb126, 2, none⟩) (Kd.R_far (p := ⟨gb126, 1, none⟩) (Kd.R_far (p := ⟨gb126, 0, none⟩) (Kd.R_types HO_125000.out BK126.out (by decide)) k2E (.int .i64 ((qae x9_7 x42_2).f0))) k2E (.string ((qae x9_7 x42_2).f1))) k2E (.string ((qae x9_7 x42_2).f2))) k2E (.string ((qae x9_7 x42_2).f3))) k1E)))) (Kd.R_lt (by refine au0 ?_; exact (Kd.R_mono (Kd.R_far (p := ⟨gb126, 3, none⟩) (Kd.R_far (p := ⟨gb126, 2, none⟩) (Kd.R_far (p := ⟨gb126, 1, none⟩) (Kd.R_far (p := ⟨gb126, 0, none⟩) (Kd.R_types HO_125001.out BK126.out (by decide)) k2E (.int .i64 ((qae x9_7 x42_2).f0))) k2E (.string ((qae x9_7 x42_2).f1))) k2E (.string ((qae x9_7 x42_2).f2))) k2E (.string ((qae x9_7 x42_2).f3))) k1E)))) (qaf (au12 HB.out GE101.out GE102.out GE124.out GE126.out))); have HO132 := am (Kd.R_lower (Kd.R_new' (Kd.R_new' ho1 (Kd.R_lt (by refine au0 ?_; exact (Kd.R_mono (Kd.R_far (p := ⟨gb126, 3, none⟩) (Kd.R_far (p := ⟨gb126, 2, none⟩) (Kd.R_far (p := ⟨gb126, 1, none⟩) (Kd.R_far (p := ⟨gb126, 0, none⟩) (Kd.R_types HO_125000.out BK126.out (by decide)) k2E (.int .i64 ((qae x9_7 x42_2).f0))) k2E (.string ((qae x9_7 x42_2).f1))) k2E (.string ((qae x9_7 x42_2).f2))) k2E (.string ((qae x9_7 x42_2).f3))) k1E)))) (Kd.R_lt (by refine au0 ?_; exact (Kd.R_mono (Kd.R_far (p := ⟨gb126, 3, none⟩) (Kd.R_far (p := ⟨gb126, 2, none⟩) (Kd.R_far (p := ⟨gb126, 1, none⟩) (Kd.R_far (p := ⟨gb126, 0, none⟩) (Kd.R_types HO_125001.out BK126.out (by decide)) k2E (.int .i64 ((qae x9_7 x42_2).f0))) k2E (.string ((qae x9_7 x42_2).f1))) k2E (.string ((qae x9_7 x42_2).f2))) k2E (.string ((qae x9_7 x42_2).f3))) k1E)))) (qaf (au12 HB.out GE101.out GE102.out GE124.out GE126.out))); replace HO_125000 := am (Kd.R_mono (Kd.R_told (Kd.R_told (Kd.R_old (by refine au0 ?_; exact (Kd.R_mono (Kd.R_far (p := ⟨gb126, 3, none⟩) (Kd.R_far (p := ⟨gb126, 2, none⟩) (Kd.R_far (p := ⟨gb126, 1, none⟩) (Kd.R_far (p := ⟨gb126, 0, none⟩) (Kd.R_types HO_125000.out BK126.out (by decide)) k2E (.int .i64 ((qae x9_7 x42_2).f0))) k2E (.string ((qae x9_7 x42_2).f1))) k2E (.string ((qae x9_7 x42_2).f2))) k2E (.string ((qae x9_7 x42_2).f3))) k1E)) hb) (Kd.R_base ho0)) (Kd.R_base ho1)) k1E); replace HO_125001 := am (Kd.R_mono (Kd.R_told (Kd.R_told (Kd.R_old (by refine au0 ?_; exact (Kd.R_mono (Kd.R_far (p := ⟨gb126, 3, none⟩) (Kd.R_far (p := ⟨gb126, 2, none⟩) (Kd.R_far (p := ⟨gb126, 1, none⟩) (Kd.R_far (p := ⟨gb126, 0, none⟩) (Kd.R_types HO_125001.out BK126.out (by decide)) k2E (.int .i64 ((qae x9_7 x42_2).f0))) k2E (.string ((qae x9_7 x42_2).f1))) k2E (.string ((qae x9_7 x42_2).f2))) k2E (.string ((qae x9_7 x42_2).f3))) k1E)) hb) (Kd.R_base ho0)) (Kd.R_base ho1)) k1E); have HO135 := am (Kd.R_lower (Kd.R_newB (Kd.R_new' (Kd.R_new' ho2 (Kd.R_lt (by refine au0 ?_; exact (Kd.R_mono (Kd.R_far (p := ⟨gb126, 3, none⟩) (Kd.R_far (p := ⟨gb126, 2, none⟩) (Kd.R_far (p := ⟨gb126, 1, none⟩) (Kd.R_far (p := ⟨gb126, 0, none⟩) (Kd.R_mono HO_40.out (fun k_ hk => (⟨hk, hk.2⟩ : _ ∧ k_ ≠ gb126))) k2E (.int .i64 ((qae x9_7 x42_2).f0))) k2E (.string ((qae x9_7 x42_2).f1))) k2E (.string ((qae x9_7 x42_2).f2))) k2E (.string ((qae x9_7 x42_2).f3))) k1E)))) (Kd.R_lt (by refine au0 ?_; exact (Kd.R_mono (Kd.R_far (p := ⟨gb126, 3, none⟩) (Kd.R_far (p := ⟨gb126, 2, none⟩) (Kd.R_far (p := ⟨gb126, 1, none⟩) (Kd.R_far (p := ⟨gb126, 0, none⟩) (Kd.R_mono HO_125002.out (fun k_ hk => (⟨hk, hk.2⟩ : _ ∧ k_ ≠ gb126))) k2E (.int .i64 ((qae x9_7 x42_2).f0))) k2E (.string ((qae x9_7 x42_2).f1))) k2E (.string ((qae x9_7 x42_2).f2))) k2E (.string ((qae x9_7 x42_2).f3))) k1E)))) (g := gb126) (o := .cells #[.int .i64 ((qae x9_7 x42_2).f0), .string ((qae x9_7 x42_2).f1), .string ((qae x9_7 x42_2).f2), .string ((qae x9_7 x42_2).f3)] 73 (0, 0)) (by refine au1 ?_; refine qam (cs := #[.int .i64 ((qae x9_7 x42_2).f0), .string ((qae x9_7 x42_2).f1), .string ((qae x9_7 x42_2).f2), .string (⟨#[]⟩ : ByteArray)]) ?_ 3 _ rfl; refine au1 ?_; refine qam (cs := #[.int .i64 ((qae x9_7 x42_2).f0), .string ((qae x9_7 x42_2).f1), .string (⟨#[]⟩ : ByteArray), .string (⟨#[]⟩ : ByteArray)]) ?_ 2 _ rfl; refine au1 ?_; refine qam (cs := #[.int .i64 ((qae x9_7 x42_2).f0), .string (⟨#[]⟩ : ByteArray), .string (⟨#[]⟩ : ByteArray), .string (⟨#[]⟩ : ByteArray)]) ?_ 1 _ rfl; refine au1 ?_; refine qam (cs := #[.int .i64 0, .string (⟨#[]⟩ : ByteArray), .string (⟨#[]⟩ : ByteArray), .string (⟨#[]⟩ : ByteArray)]) ?_ 0 _ rfl; refine au1 ?_; exact BK126.out)) (qaf (au12 HB.out GE101.out GE102.out GE124.out GE126.out))); replace HO_40 := am (Kd.R_elder' (by refine au0 ?_; exact (Kd.R_mono (Kd.R_far (p := ⟨gb126, 3, none⟩) (Kd.R_far (p := ⟨gb126, 2, none⟩) (Kd.R_far (p := ⟨gb126, 1, none⟩) (Kd.R_far (p := ⟨gb126, 0, none⟩) (Kd.R_mono HO_40.out (fun k_ hk => (⟨hk, hk.2⟩ : _ ∧ k_ ≠ gb126))) k2E (.int .i64 ((qae x9_7 x42_2).f0))) k2E (.string ((qae x9_7 x42_2).f1))) k2E (.string ((qae x9_7 x42_2).f2))) k2E (.string ((qae x9_7 x42_2).f3))) k1E)) (Kd.R_base ho2) hb); replace HO_125002 := am (Kd.R_elder' (by refine au0 ?_; exact (Kd.R_mono (Kd.R_far (p := ⟨gb126, 3, none⟩) (Kd.R_far (p := ⟨gb126, 2, none⟩) (Kd.R_far (p := ⟨gb126, 1, none⟩) (Kd.R_far (p := ⟨gb126, 0, none⟩) (Kd.R_mono HO_125002.out (fun k_ hk => (⟨hk, hk.2⟩ : _ ∧ k_ ≠ gb126))) k2E (.int .i64 ((qae x9_7 x42_2).f0))) k2E (.string ((qae x9_7 x42_2).f1))) k2E (.string ((qae x9_7 x42_2).f2))) k2E (.string ((qae x9_7 x42_2).f3))) k1E)) (Kd.R_base ho2) hb); replace BK101 := am (qab (g := gb101) (o := .cells #[.slice A0_0 l0_0.length c0_0, .slice A0_1 l0_1.length c0_1, .slice A0_2 l0_2.length c0_2] 31 (0, 0)) (au16 NB101_126.out BK101.out) hb); replace BK102 := am (qab (g := gb102) (o := .cells #[.slice none 0 0, .slice none 0 0, .slice none 0 0] 31 (0, 0)) (au16 NB102_126.out BK102.out) hb); replace BK124 := am (qab (g := gb124) (o := .cells #[.slice Ao73 x125000_2.length co73, .slice Ao74 x125001_2.length co74, .slice Ao75 x125002_2.length co75] 31 (0, 0)) (au16 NB124_126.out BK124.out) hb); replace BK126 := am (qab (g := gb126) (o := .cells #[.int .i64 ((qae x9_7 x42_2).f0), .string ((qae x9_7 x42_2).f1), .string ((qae x9_7 x42_2).f2), .string ((qae x9_7 x42_2).f3)] 73 (0, 0)) (by refine au1 ?_; refine qam (cs := #[.int .i64 ((qae x9_7 x42_2).f0), .string ((qae x9_7 x42_2).f1), .string ((qae x9_7 x42_2).f2), .string (⟨#[]⟩ : ByteArray)]) ?_ 3 _ rfl; refine au1 ?_; refine qam (cs := #[.int .i64 ((qae x9_7 x42_2).f0), .string ((qae x9_7 x42_2).f1), .string (⟨#[]⟩ : ByteArray), .string (⟨#[]⟩ : ByteArray)]) ?_ 2 _ rfl; refine au1 ?_; refine qam (cs := #[.int .i64 ((qae x9_7 x42_2).f0), .string (⟨#[]⟩ : ByteArray), .string (⟨#[]⟩ : ByteArray), .string (⟨#[]⟩ : ByteArray)]) ?_ 1 _ rfl; refine au1 ?_; refine qam (cs := #[.int .i64 0, .string (⟨#[]⟩ : ByteArray), .string (⟨#[]⟩ : ByteArray), .string (⟨#[]⟩ : ByteArray)]) ?_ 0 _ rfl; refine au1 ?_; exact BK126.out) hb); replace HB := am (qad (au12 HB.out GE101.out GE102.out GE124.out GE126.out) hb); (try clear hb); (try clear hb2); (try clear hk); (try clear hi); (try clear ho0); (try clear ho1); (try clear ho2)) | ((with_reducible refine qal (N := 13) rfl ?_); refine bxE (N := 13) (cs := #[.slice none 0 0, .slice none 0 0, .slice none 0 0]) (t := 31) ?_; intro gb137 hg w77 hbox hb; replace HO_40 := am (Kd.R_below (au0 HO_40.out) hb); replace HO_125000 := am (Kd.R_below (au0 HO_125000.out) hb); replace HO_125001 := am (Kd.R_below (au0 HO_125001.out) hb); replace HO_125002 := am (Kd.R_below (au0 HO_125002.out) hb); replace HO129 := am (Kd.R_below (au0 HO129.out) hb); replace HO132 := am (Kd.R_below (au0 HO132.out) hb); replace HO135 := am (Kd.R_below (au0 HO135.out) hb); have BK137 := am (hbox); have GW137 := am (sgE hg (au12 HB.out GE101.out GE102.out GE124.out GE126.out) : w.heap.size ≤ gb137); have GE137 := GW137; replace HB := am (qad (au12 HB.out GE101.out GE102.out GE124.out GE126.out) hb); have NB101_137 := am ((sltE hg (qan (au1 BK101.out)))); have NB137_101 := am ((sgtE hg (qan (au1 BK101.out)))); replace BK101 := am (qab (au1 BK101.out) hb); have NB102_137 := am ((sltE hg (qan (au1 BK102.out)))); have NB137_102 := am ((sgtE hg (qan (au1 BK102.out)))); replace BK102 := am (qab (au1 BK102.out) hb); have NB124_137 := am ((sltE hg (qan (au1 BK124.out)))); have NB137_124 := am ((sgtE hg (qan (au1 BK124.out)))); replace BK124 := am (qab (au1 BK124.out) hb); have NB126_137 := am ((sltE hg (qan (au1 BK126.out)))); have NB137_126 := am ((sgtE hg (qan (au1 BK126.out)))); replace BK126 := am (qab (au1 BK126.out) hb); clear hb hbox hg; obtain ⟨Ao78, co78, eo78⟩ := Kd.R_slice HO129.out; subst eo78; have hnb79 := NB137_101.out; have hnc79 := NB101_137.out; have hnb80 := NB137_102.out; have hnc80 := NB102_137.out; have hnb81 := NB137_124.out; have hnc81 := NB124_137.out; have hnb82 := NB137_126.out; have hnc82 := NB126_137.out; have hcz83_0 : _ = some (Value.slice none 0 0) := bcE BK137.out 0; have hcz83_1 : _ = some (Value.slice none 0 0) := bcE BK137.out 1; have hcz83_2 : _ = some (Value.slice none 0 0) := bcE BK137.out 2; have hfz83_0 := qaa BK137.out 0; have hfz83_1 := qaa BK137.out 1; have hfz83_2 := qaa BK137.out 2; obtain ⟨Ao84, co84, eo84⟩ := Kd.R_slice HO132.out; subst eo84; obtain ⟨Ao85, co85, eo85⟩ := Kd.R_slice HO135.out; subst eo85; have hnb86 := NB101_102.out; have hnc86 := NB102_101.out; have hcz87_0 : _ = some (Value.slice A0_0 l0_0.length c0_0) := bcE BK101.out 0; have hcz87_1 : _ = some (Value.slice A0_1 l0_1.length c0_1) := bcE BK101.out 1; have hcz87_2 : _ = some (Value.slice A0_2 l0_2.length c0_2) := bcE BK101.out 2; have hfz87_0 := qaa BK101.out 0; have hfz87_1 := qaa BK101.out 1; have hfz87_2 := qaa BK101.out 2) | ((with_reducible refine qaj (f := 79) rfl ?_); refine qap (some 55) rfl rfl Try.func79 (by kernel_rfl) rfl #[.agg #[.slice A0_0 l0_0.length c0_0, .slice A0_1 l0_1.length c0_1, .slice A0_2 l0_2.length c0_2]] rfl au6 ?_; (with_reducible refine (impl_copyDisk.calls _ _ l0_0 _ _ l0_1 _ _ l0_2 t138 t141 t144 _ ?side1 ?side2 ?side3 ?side4 ?side5 ?side6 A64.out).mono ?_); (case side1 => exact Kd.C_below HR0_0.out (au15 HB.out GE101.out GE102.out GE124.out GE126.out GE137.out)); (case side2 => exact HC0_0.out); (case side3 => exact Kd.C_below HR0_1.out (au15 HB.out GE101.out GE102.out GE124.out GE126.out GE137.out)); (case side4 => exact HC0_1.out); (case side5 => exact Kd.C_below HR0_2.out (au15 HB.out GE101.out GE102.out GE124.out GE126.out GE137.out)); (case side6 => exact HC0_2.out); rintro e w88 ⟨v139, v142, v145, rfl, ho0, ho1, ho2, hb⟩; refine ⟨_, rfl, ?_⟩; have HO140 := am (Kd.R_lower (Kd.R_new' (Kd.R_new' (Kd.R_new' (Kd.R_new' ho0 (Kd.R_lt (by refine au0 ?_; exact (Kd.R_mono (Kd.R_far (p := ⟨gb137, 2, none⟩) (Kd.R_far (p := ⟨gb137, 1, none⟩) (Kd.R_far (p := ⟨gb137, 0, none⟩) (Kd.R_types HO_125000.out BK137.out (by decide)) k2E (.slice Ao78 t127.length co78)) k2E (.slice Ao84 t130.length co84)) k2E (.slice Ao85 t133.length co85)) k1E)))) (Kd.R_lt (by refine au0 ?_; exact (Kd.R_mono (Kd.R_far (p := ⟨gb137, 2, none⟩) (Kd.R_far (p := ⟨gb137, 1, none⟩) (Kd.R_far (p := ⟨gb137, 0, none⟩) (Kd.R_types HO_125001.out BK137.out (by decide)) k2E (.slice Ao78 t127.length co78)) k2E (.slice Ao84 t130.length co84)) k2E (.slice Ao85 t133.length co85)) k1E)))) (Kd.R_lt (by refine au0 ?_; exact (Kd.R_mono (Kd.R_far (p := ⟨gb137, 2, none⟩) (Kd.R_far (p := ⟨gb137, 1, none⟩) (Kd.R_far (p := ⟨gb137, 0, none⟩) (Kd.R_types HO129.out BK137.out (by decide)) k2E (.slice Ao78 t127.length co78)) k2E (.slice Ao84 t130.length co84)) k2E (.slice Ao85 t133.length co85)) k1E)))) (Kd.R_lt (by refine au0 ?_; exact (Kd.R_mono (Kd.R_far (p := ⟨gb137, 2, none⟩) (Kd.R_far (p := ⟨gb137, 1, none⟩) (Kd.R_far (p := ⟨gb137, 0, none⟩) (Kd.R_types HO132.out BK137.out (by decide)) k2E (.slice Ao78 t127.length co78)) k2E (.slice Ao84 t130.length co84)) k2E (.slice Ao85 t133.length co85)) k1E)))) (qaf (au15 HB.out GE101.out GE102.out GE124.out GE126.out GE137.out))); have HO143 := am (Kd.R_lower (Kd.R_new' (Kd.R_new' (Kd.R_new' (Kd.R_new' ho1 (Kd.R_lt (by refine au0 ?_; exact (Kd.R_mono (Kd.R_far (p := ⟨gb137, 2, none⟩) (Kd.R_far (p := ⟨gb137, 1, none⟩) (Kd.R_far (p := ⟨gb137, 0, none⟩) (Kd.R_types HO_125000.out BK137.out (by decide)) k2E (.slice Ao78 t127.length co78)) k2E (.slice Ao84 t130.length co84)) k2E (.slice Ao85 t133.length co85)) k1E)))) (Kd.R_lt (by refine au0 ?_; exact (Kd.R_mono (Kd.R_far (p := ⟨gb137, 2, none⟩) (Kd.R_far (p := ⟨gb137, 1, none⟩) (Kd.R_far (p := ⟨gb137, 0, none⟩) (Kd.R_types HO_125001.out BK137.out (by decide)) k2E (.slice Ao78 t127.length co78)) k2E (.slice Ao84 t130.length co84)) k2E (.slice Ao85 t133.length co85)) k1E)))) (Kd.R_lt (by refine au0 ?_; exact (Kd.R_mono (Kd.R_far (p := ⟨gb137, 2, none⟩) (Kd.R_far (p := ⟨gb137, 1, none⟩) (Kd.R_far (p := ⟨gb137, 0, none⟩) (Kd.R_types HO129.out BK137.out (by decide)) k2E (.slice Ao78 t127.length co78)) k2E (.slice Ao84 t130.length co84)) k2E (.slice Ao85 t133.length co85)) k1E)))) (Kd.R_lt (by refine au0 ?_; exact (Kd.R_mono (Kd.R_far (p := ⟨gb137, 2, none⟩) (Kd.R_far (p := ⟨gb137, 1, none⟩) (Kd.R_far (p := ⟨gb137, 0, none⟩) (Kd.R_types HO132.out BK137.out (by decide)) k2E (.slice Ao78 t127.length co78)) k2E (.slice Ao84 t130.length co84)) k2E (.slice Ao85 t133.length co85)) k1E)))) (qaf (au15 HB.out GE101.out GE102.out GE124.out GE126.out GE137.out))); replace HO_125000 := am (Kd.R_mono (Kd.R_told (Kd.R_told (Kd.R_old (by refine au0 ?_; exact (Kd.R_mono (Kd.R_far (p := ⟨gb137, 2, none⟩) (Kd.R_far (p := ⟨gb137, 1, none⟩) (Kd.R_far (p := ⟨gb137, 0, none⟩) (Kd.R_types HO_125000.out BK137.out (by decide)) k2E (.slice Ao78 t127.length co78)) k2E (.slice Ao84 t130.length co84)) k2E (.slice Ao85 t133.length co85)) k1E)) hb) (Kd.R_base ho0)) (Kd.R_base ho1)) k1E); replace HO_125001 := am (Kd.R_mono (Kd.R_told (Kd.R_told (Kd.R_old (by refine au0 ?_; exact (Kd.R_mono (Kd.R_far (p := ⟨gb137, 2, none⟩) (Kd.R_far (p := ⟨gb137, 1, none⟩) (Kd.R_far (p := ⟨gb137, 0, none⟩) (Kd.R_types HO_125001.out BK137.out (by decide)) k2E (.slice Ao78 t127.length co78)) k2E (.slice Ao84 t130.length co84)) k2E (.slice Ao85 t133.length co85)) k1E)) hb) (Kd.R_base ho0)) (Kd.R_base ho1)) k1E); replace HO129 := am (Kd.R_mono (Kd.R_told (Kd.R_told (Kd.R_old (by refine au0 ?_; exact (Kd.R_mono (Kd.R_far (p := ⟨gb137, 2, none⟩) (Kd.R_far (p := ⟨gb137, 1, none⟩) (Kd.R_far (p := ⟨gb137, 0, none⟩) (Kd.R_types HO129.out BK137.out (by decide)) k2E (.slice Ao78 t127.length co78)) k2E (.slice Ao84 t130.length co84)) k2E (.slice Ao85 t133.length co85)) k1E)) hb) (Kd.R_base ho0)) (Kd.R_base ho1)) k1E); replace HO132 := am (Kd.R_mono (Kd.R_told (Kd.R_told (Kd.R_old (by refine au0 ?_; exact (Kd.R_mono (Kd.R_far (p := ⟨gb137, 2, none⟩) (Kd.R_far (p := ⟨gb137, 1, none⟩) (Kd.R_far (p := ⟨gb137, 0, none⟩) (Kd.R_types HO132.out BK137.out (by decide)) k2E (.slice Ao78 t127.length co78)) k2E (.slice Ao84 t130.length co84)) k2E (.slice Ao85 t133.length co85)) k1E)) hb) (Kd.R_base ho0)) (Kd.R_base ho1)) k1E); have HO146 := am (Kd.R_lower (Kd.R_newB (Kd.R_new' (Kd.R_new' (Kd.R_new' ho2 (Kd.R_lt (by refine au0 ?_; exact (Kd.R_mono (Kd.R_far (p := ⟨gb137, 2, none⟩) (Kd.R_far (p := ⟨gb137, 1, none⟩) (Kd.R_far (p := ⟨gb137, 0, none⟩) (Kd.R_types HO_40.out BK137.out (by decide)) k2E (.slice Ao78 t127.length co78)) k2E (.slice Ao84 t130.length co84)) k2E (.slice Ao85 t133.length co85)) k1E)))) (Kd.R_lt (by refine au0 ?_; exact (Kd.R_mono (Kd.R_far (p := ⟨gb137, 2, none⟩) (Kd.R_far (p := ⟨gb137, 1, none⟩) (Kd.R_far (p := ⟨gb137, 0, none⟩) (Kd.R_types HO_125002.out BK137.out (by decide)) k2E (.slice Ao78 t127.length co78)) k2E (.slice Ao84 t130.length co84)) k2E (.slice Ao85 t133.length co85)) k1E)))) (Kd.R_lt (by refine au0 ?_; exact (Kd.R_mono (Kd.R_far (p := ⟨gb137, 2, none⟩) (Kd.R_far (p := ⟨gb137, 1, none⟩) (Kd.R_far (p := ⟨gb137, 0, none⟩) (Kd.R_types HO135.out BK137.out (by decide)) k2E (.slice Ao78 t127.length co78)) k2E (.slice Ao84 t130.length co84)) k2E (.slice Ao85 t133.length co85)) k1E)))) (g := gb126) (o := .cells #[.int .i64 ((qae x9_7 x42_2).f0), .string ((qae x9_7 x42_2).f1), .string ((qae x9_7 x42_2).f2), .string ((qae x9_7 x42_2).f3)] 73 (0, 0)) (au14 NB126_137.out BK126.out)) (qaf (au15 HB.out GE101.out GE102.out GE124.out GE126.out GE137.out))); replace HO_40 := am (Kd.R_elder' (by refine au0 ?_; exact (Kd.R_mono (Kd.R_far (p := ⟨gb137, 2, none⟩) (Kd.R_far (p := ⟨gb137, 1, none⟩) (Kd.R_far (p := ⟨gb137, 0, none⟩) (Kd.R_types HO_40.out BK137.out (by decide)) k2E (.slice Ao78 t127.length co78)) k2E (.slice Ao84 t130.length co84)) k2E (.slice Ao85 t133.length co85)) k1E)) (Kd.R_base ho2) hb); replace HO_125002 := am (Kd.R_elder' (by refine au0 ?_; exact (Kd.R_mono (Kd.R_far (p := ⟨gb137, 2, none⟩) (Kd.R_far (p := ⟨gb137, 1, none⟩) (Kd.R_far (p := ⟨gb137, 0, none⟩) (Kd.R_types HO_125002.out BK137.out (by decide)) k2E (.slice Ao78 t127.length co78)) k2E (.slice Ao84 t130.length co84)) k2E (.slice Ao85 t133.length co85)) k1E)) (Kd.R_base ho2) hb); replace HO135 := am (Kd.R_elder' (by refine au0 ?_; exact (Kd.R_mono (Kd.R_far (p := ⟨gb137, 2, none⟩) (Kd.R_far (p := ⟨gb137, 1, none⟩) (Kd.R_far (p := ⟨gb137, 0, none⟩) (Kd.R_types HO135.out BK137.out (by decide)) k2E (.slice Ao78 t127.length co78)) k2E (.slice Ao84 t130.length co84)) k2E (.slice Ao85 t133.length co85)) k1E)) (Kd.R_base ho2) hb); replace BK101 := am (qab (g := gb101) (o := .cells #[.slice A0_0 l0_0.length c0_0, .slice A0_1 l0_1.length c0_1, .slice A0_2 l0_2.length c0_2] 31 (0, 0)) (au14 NB101_137.out BK101.out) hb); replace BK102 := am (qab (g := gb102) (o := .cells #[.slice none 0 0, .slice none 0 0, .slice none 0 0] 31 (0, 0)) (au14 NB102_137.out BK102.out) hb); replace BK124 := am (qab (g := gb124) (o := .cells #[.slice Ao73 x125000_2.length co73, .slice Ao74 x125001_2.length co74, .slice Ao75 x125002_2.length co75] 31 (0, 0)) (au14 NB124_137.out BK124.out) hb); replace BK126 := am (qab (g := gb126) (o := .cells #[.int .i64 ((qae x9_7 x42_2).f0), .string ((qae x9_7 x42_2).f1), .string ((qae x9_7 x42_2).f2), .string ((qae x9_7 x42_2).f3)] 73 (0, 0)) (au14 NB126_137.out BK126.out) hb); replace BK137 := am (qab (g := gb137) (o := .cells #[.slice Ao78 t127.length co78, .slice Ao84 t130.length co84, .slice Ao85 t133.length co85] 31 (0, 0)) (by refine au1 ?_; refine qam (cs := #[.slice Ao78 t127.length co78, .slice Ao84 t130.length co84, .slice none 0 0]) ?_ 2 _ rfl; refine au1 ?_; refine qam (cs := #[.slice Ao78 t127.length co78, .slice none 0 0, .slice none 0 0]) ?_ 1 _ rfl; refine au1 ?_; refine qam (cs := #[.slice none 0 0, .slice none 0 0, .slice none 0 0]) ?_ 0 _ rfl; refine au1 ?_; exact BK137.out) hb); replace HB := am (qad (au15 HB.out GE101.out GE102.out GE124.out GE126.out GE137.out) hb); (try clear hb); (try clear hb2); (try clear hk); (try clear hi); (try clear ho0); (try clear ho1); (try clear ho2); obtain ⟨Ao89, co89, eo89⟩ := Kd.R_slice HO140.out; subst eo89; have hcz90_0 : _ = some (Value.slice none 0 0) := bcE BK102.out 0; have hcz90_1 : _ = some (Value.slice none 0 0) := bcE BK102.out 1; have hcz90_2 : _ = some (Value.slice none 0 0) := bcE BK102.out 2; have hfz90_0 := qaa BK102.out 0; have hfz90_1 := qaa BK102.out 1; have hfz90_2 := qaa BK102.out 2; obtain ⟨Ao91, co91, eo91⟩ := Kd.R_slice HO143.out; subst eo91; obtain ⟨Ao92, co92, eo92⟩ := Kd.R_slice HO146.out; subst eo92))
           refine bodyPost_ret (qbd rfl _ _ gb102 31 #[.slice Ao89 t138.length co89, .slice Ao91 t141.length co91, .slice Ao92 t144.length co92] (0, 0) _ rfl (by refine au1 ?_; refine qam (cs := #[.slice Ao89 t138.length co89, .slice Ao91 t141.length co91, .slice none 0 0]) ?_ 2 _ rfl; refine au1 ?_; refine qam (cs := #[.slice Ao89 t138.length co89, .slice none 0 0, .slice none 0 0]) ?_ 1 _ rfl; refine au1 ?_; refine qam (cs := #[.slice none 0 0, .slice none 0 0, .slice none 0 0]) ?_ 0 _ rfl; refine au1 ?_; exact BK102.out) Try.underlying31 rfl (by kernel_rfl)) rfl ?_
           exact ⟨_, _, _, by first | rfl | (simp [qag, qah] <;> rfl) | (simp [*, qag, qah] <;> rfl), by refine au0 ?_; exact Kd.R_mono (Kd.R_far (p := ⟨gb102, 2, none⟩) (Kd.R_far (p := ⟨gb102, 1, none⟩) (Kd.R_far (p := ⟨gb102, 0, none⟩) (Kd.R_types HO140.out BK102.out (by decide)) k2E (.slice Ao89 t138.length co89)) k2E (.slice Ao91 t141.length co91)) k2E (.slice Ao92 t144.length co92)) (fun _ hk => hk.1.1.1.1.1), by refine au0 ?_; exact Kd.R_mono (Kd.R_far (p := ⟨gb102, 2, none⟩) (Kd.R_far (p := ⟨gb102, 1, none⟩) (Kd.R_far (p := ⟨gb102, 0, none⟩) (Kd.R_types HO143.out BK102.out (by decide)) k2E (.slice Ao89 t138.length co89)) k2E (.slice Ao91 t141.length co91)) k2E (.slice Ao92 t144.length co92)) (fun _ hk => hk.1.1.1.1.1), by refine au0 ?_; exact Kd.R_mono (Kd.R_far (p := ⟨gb102, 2, none⟩) (Kd.R_far (p := ⟨gb102, 1, none⟩) (Kd.R_far (p := ⟨gb102, 0, none⟩) (Kd.R_types HO146.out BK102.out (by decide)) k2E (.slice Ao89 t138.length co89)) k2E (.slice Ao91 t141.length co91)) k2E (.slice Ao92 t144.length co92)) (fun _ hk => trivial), (au15 HB.out GE101.out GE102.out GE124.out GE126.out GE137.out)⟩
         ·
          rw [if_neg c39] at H
          exact absurd H (by simp)
        ·
         rw [if_neg c38] at H
         exact absurd H (by simp)
       ·
        rw [if_neg c37] at H
        have c37b0 : decide (x42_2 < (x9_7.length : Int)) = false := decide_eq_false c37
        clear c37
        simp only [Option.some.injEq, Prod.mk.injEq] at H
        obtain ⟨rfl, rfl, rfl, rfl⟩ := H
        have hnb93 := NB124_101.out
        have hnc93 := NB101_124.out
        have hnb94 := NB124_102.out
        have hnc94 := NB102_124.out
        have hcz95_0 : _ = some (u125000) := bcE BK124.out 0
        have hcz95_1 : _ = some (u125001) := bcE BK124.out 1
        have hcz95_2 : _ = some (u125002) := bcE BK124.out 2
        have hfz95_0 := qaa BK124.out 0
        have hfz95_1 := qaa BK124.out 1
        have hfz95_2 := qaa BK124.out 2
        obtain ⟨Ao96, co96, eo96⟩ := Kd.R_slice HO_125000.out
        subst eo96
        have hnb97 := NB102_101.out
        have hnc97 := NB101_102.out
        have hcz98_0 : _ = some (Value.slice none 0 0) := bcE BK102.out 0
        have hcz98_1 : _ = some (Value.slice none 0 0) := bcE BK102.out 1
        have hcz98_2 : _ = some (Value.slice none 0 0) := bcE BK102.out 2
        have hfz98_0 := qaa BK102.out 0
        have hfz98_1 := qaa BK102.out 1
        have hfz98_2 := qaa BK102.out 2
        obtain ⟨Ao99, co99, eo99⟩ := Kd.R_slice HO_125001.out
        subst eo99
        obtain ⟨Ao100, co100, eo100⟩ := Kd.R_slice HO_125002.out
        subst eo100
        go_wp2
        refine bodyPost_ret (qbd rfl _ _ gb102 31 #[.slice Ao96 x125000_2.length co96, .slice Ao99 x125001_2.length co99, .slice Ao100 x125002_2.length co100] (0, 0) _ rfl (by refine au1 ?_; refine qam (cs := #[.slice Ao96 x125000_2.length co96, .slice Ao99 x125001_2.length co99, .slice none 0 0]) ?_ 2 _ rfl; refine au1 ?_; refine qam (cs := #[.slice Ao96 x125000_2.length co96, .slice none 0 0, .slice none 0 0]) ?_ 1 _ rfl; refine au1 ?_; refine qam (cs := #[.slice none 0 0, .slice none 0 0, .slice none 0 0]) ?_ 0 _ rfl; refine au1 ?_; exact BK102.out) Try.underlying31 rfl (by kernel_rfl)) rfl ?_
        exact ⟨_, _, _, by first | rfl | (simp [qag, qah] <;> rfl) | (simp [*, qag, qah] <;> rfl), by refine au0 ?_; exact Kd.R_mono (Kd.R_far (p := ⟨gb102, 2, none⟩) (Kd.R_far (p := ⟨gb102, 1, none⟩) (Kd.R_far (p := ⟨gb102, 0, none⟩) (Kd.R_types HO_125000.out BK102.out (by decide)) k2E (.slice Ao96 x125000_2.length co96)) k2E (.slice Ao99 x125001_2.length co99)) k2E (.slice Ao100 x125002_2.length co100)) (fun _ hk => hk.1), by refine au0 ?_; exact Kd.R_mono (Kd.R_far (p := ⟨gb102, 2, none⟩) (Kd.R_far (p := ⟨gb102, 1, none⟩) (Kd.R_far (p := ⟨gb102, 0, none⟩) (Kd.R_types HO_125001.out BK102.out (by decide)) k2E (.slice Ao96 x125000_2.length co96)) k2E (.slice Ao99 x125001_2.length co99)) k2E (.slice Ao100 x125002_2.length co100)) (fun _ hk => hk.1), by refine au0 ?_; exact Kd.R_mono (Kd.R_far (p := ⟨gb102, 2, none⟩) (Kd.R_far (p := ⟨gb102, 1, none⟩) (Kd.R_far (p := ⟨gb102, 0, none⟩) (Kd.R_types HO_125002.out BK102.out (by decide)) k2E (.slice Ao96 x125000_2.length co96)) k2E (.slice Ao99 x125001_2.length co99)) k2E (.slice Ao100 x125002_2.length co100)) (fun _ hk => trivial), (au11 HB.out GE101.out GE102.out GE124.out)⟩
  ·
   rw [if_neg c6] at H
   exact absurd H (by simp)
 ·
  replace c5 := Bool.eq_false_iff.mpr c5
  subst c5
  have H1 : (some (([] : List (S80)), ([] : List (S80)), ([] : List (S73)), 1)) = some (r1, r2, r3, r4) := by rw [if_neg (show ¬ (false = true) by decide)] at H; exact H
  clear H
  have H := H1
  clear H1
  simp only [Option.some.injEq, Prod.mk.injEq] at H
  obtain ⟨rfl, rfl, rfl, rfl⟩ := H
  go_enter Try.func67, Try.ntmps67
  go_wp2_with (first | ((with_reducible refine qal (N := 3) rfl ?_); refine bxE (N := 3) (cs := #[.slice A0_0 l0_0.length c0_0, .slice A0_1 l0_1.length c0_1, .slice A0_2 l0_2.length c0_2]) (t := 31) ?_; intro gb101 hg w101 hbox hb; have BK101 := am (hbox); have GW101 := am (sgE hg (au3 HB.out) : w.heap.size ≤ gb101); have GE101 := GW101; replace HB := am (qad (au3 HB.out) hb); clear hb hbox hg) | ((with_reducible refine qal (N := 6) rfl ?_); refine bxE (N := 6) (cs := #[.slice none 0 0, .slice none 0 0, .slice none 0 0]) (t := 31) ?_; intro gb102 hg w102 hbox hb; have BK102 := am (hbox); have GW102 := am (sgE hg (au7 HB.out GE101.out) : w.heap.size ≤ gb102); have GE102 := GW102; replace HB := am (qad (au7 HB.out GE101.out) hb); have NB101_102 := am ((sltE hg (qan (au1 BK101.out)))); have NB102_101 := am ((sgtE hg (qan (au1 BK101.out)))); replace BK101 := am (qab (au1 BK101.out) hb); clear hb hbox hg; have hnb103 := NB101_102.out; have hnc103 := NB102_101.out; have hcz104_0 : _ = some (Value.slice A0_0 l0_0.length c0_0) := bcE BK101.out 0; have hcz104_1 : _ = some (Value.slice A0_1 l0_1.length c0_1) := bcE BK101.out 1; have hcz104_2 : _ = some (Value.slice A0_2 l0_2.length c0_2) := bcE BK101.out 2; have hfz104_0 := qaa BK101.out 0; have hfz104_1 := qaa BK101.out 1; have hfz104_2 := qaa BK101.out 2) | ((with_reducible refine qaj (f := 49) rfl ?_); refine qap (some 16) rfl rfl Try.func49 (by kernel_rfl) rfl #[.agg #[.slice A0_0 l0_0.length c0_0, .slice A0_1 l0_1.length c0_1, .slice A0_2 l0_2.length c0_2]] rfl au6 ?_; (with_reducible refine (impl_isDisk.calls _ _ l0_0 _ _ l0_1 _ _ l0_2 false _ ?side1 ?side2 ?side3 ?side4 ?side5 ?side6 A4.out).mono ?_); (case side1 => exact scE (Kd.C_below HR0_0.out HB.out)); (case side2 => exact HC0_0.out); (case side3 => exact scE (Kd.C_below HR0_1.out HB.out)); (case side4 => exact HC0_1.out); (case side5 => exact scE (Kd.C_below HR0_2.out HB.out)); (case side6 => exact HC0_2.out); rintro e w105 ⟨rfl, hb⟩; refine ⟨_, rfl, ?_⟩; replace BK101 := am (qab (au1 BK101.out) hb); replace BK102 := am (qab (au1 BK102.out) hb); replace HB := am (qad (au4 HB.out GE101.out GE102.out) hb); (try clear hb); (try clear hb2); (try clear hk); (try clear hi); have hcz106_0 : _ = some (Value.slice none 0 0) := bcE BK102.out 0; have hcz106_1 : _ = some (Value.slice none 0 0) := bcE BK102.out 1; have hcz106_2 : _ = some (Value.slice none 0 0) := bcE BK102.out 2; have hfz106_0 := qaa BK102.out 0; have hfz106_1 := qaa BK102.out 1; have hfz106_2 := qaa BK102.out 2))
  refine bodyPost_ret (qbd rfl _ _ gb102 31 #[.slice none 0 0, .slice none 0 0, .slice none 0 0] (0, 0) _ rfl (by refine au1 ?_; refine qam (cs := #[.slice none 0 0, .slice none 0 0, .slice none 0 0]) ?_ 2 _ rfl; refine au1 ?_; refine qam (cs := #[.slice none 0 0, .slice none 0 0, .slice none 0 0]) ?_ 1 _ rfl; refine au1 ?_; refine qam (cs := #[.slice none 0 0, .slice none 0 0, .slice none 0 0]) ?_ 0 _ rfl; refine au1 ?_; exact BK102.out) Try.underlying31 rfl (by kernel_rfl)) rfl ?_
  exact ⟨_, _, _, by first | rfl | (simp [qag, qah] <;> rfl) | (simp [*, qag, qah] <;> rfl), by first | exact Kd.R_nil _ _ _ _ _ | exact Kd.N_nil _ _ _ _ _ | exact Kd.V_nil _ _ _ _ _ | exact Kd.Q_nil _ _ _ _ _ | exact Kd.S_nil _ _ _ _ _, by first | exact Kd.R_nil _ _ _ _ _ | exact Kd.N_nil _ _ _ _ _ | exact Kd.V_nil _ _ _ _ _ | exact Kd.Q_nil _ _ _ _ _ | exact Kd.S_nil _ _ _ _ _, by first | exact Kd.R_nil _ _ _ _ _ | exact Kd.N_nil _ _ _ _ _ | exact Kd.V_nil _ _ _ _ _ | exact Kd.Q_nil _ _ _ _ _ | exact Kd.S_nil _ _ _ _ _, (au4 HB.out GE101.out GE102.out)⟩

end

section
def impl_Replace.f (k : Nat) (l0_0 : List (S80)) (l0_1 : List (S80)) (l0_2 : List (S73)) (a1 : ByteArray) (a2 : ByteArray) : Option ((List (S80)) × (List (S80)) × (List (S73)) × Int) := (impl_replace.f k l0_0 l0_1 l0_2 a1 a2).bind fun bt103 => (some (bt103.1, bt103.2.1, bt103.2.2.1, bt103.2.2.2))
theorem impl_Replace.mono : ∀ a0 a1 a2 a3 a4 k, LeO (impl_Replace.f k a0 a1 a2 a3 a4) (impl_Replace.f (k + 1) a0 a1 a2 a3 a4) := by
 intro a0 a1 a2 a3 a4 k
 unfold impl_Replace.f
 repeat' first
  | (with_reducible exact impl_replace.mono _ _ _ _ _ _)
  | (with_reducible exact LeO.refl _)
  | (with_reducible exact LeO.none _)
  | (with_reducible refine LeO.ite ?_ ?_)
  | (with_reducible refine LeO.bind ?_ (fun _ => ?_))
  | exact impl_replace.mono _ _ _ _ _ _
  | exact LeO.none _
  | refine LeO.ite ?_ ?_
  | refine LeO.bind ?_ (fun _ => ?_)
set_option maxHeartbeats 8000000 in
set_option maxRecDepth 100000 in
theorem impl_Replace.calls (k : Nat) (A0_0 : Option Addr) (c0_0 : Nat) (l0_0 : List (S80)) (A0_1 : Option Addr) (c0_1 : Nat) (l0_1 : List (S80)) (A0_2 : Option Addr) (c0_2 : Nat) (l0_2 : List (S73)) (a1 : ByteArray) (a2 : ByteArray) (r1 : List (S80)) (r2 : List (S80)) (r3 : List (S73)) (r4 : Int) (w : World) (hr0_0 : Kd.C k80 w A0_0 l0_0.length l0_0) (hc0_0 : l0_0.length ≤ c0_0) (hr0_1 : Kd.C k80 w A0_1 l0_1.length l0_1) (hc0_1 : l0_1.length ≤ c0_1) (hr0_2 : Kd.C k73 w A0_2 l0_2.length l0_2) (hc0_2 : l0_2.length ≤ c0_2) (h : impl_Replace.f k l0_0 l0_1 l0_2 a1 a2 = some (r1, r2, r3, r4)) :
 Calls Try.prog 27 #[.agg #[.slice A0_0 l0_0.length c0_0, .slice A0_1 l0_1.length c0_1, .slice A0_2 l0_2.length c0_2], .string a1, .string a2] w fun e w' => ∃ v0_ v1_ v2_ : Value, e = .returned (.tuple #[.agg #[v0_, v1_, v2_], .int .i64 r4]) ∧ Kd.R k80 80 w' w.heap.size (fun k_ => some k_ ≠ (v1_ : Value).ownBlock) v0_ r1 ∧ Kd.R k80 80 w' w.heap.size (fun k_ => some k_ ≠ (v0_ : Value).ownBlock) v1_ r2 ∧ Kd.R k73 73 w' w.heap.size (fun _ => True) v2_ r3 ∧ Below w.heap.size w w' := by
 have hu31 := Try.underlying31
 have HR0_0 := am hr0_0
 have HC0_0 := am hc0_0
 clear hr0_0 hc0_0
 have HR0_1 := am hr0_1
 have HC0_1 := am hc0_1
 clear hr0_1 hc0_1
 have HR0_2 := am hr0_2
 have HC0_2 := am hc0_2
 clear hr0_2 hc0_2
 have HB := am (Below.refl w.heap.size w)
 have H : ((impl_replace.f k l0_0 l0_1 l0_2 a1 a2).bind fun bt103 => (some (bt103.1, bt103.2.1, bt103.2.2.1, bt103.2.2.2))) = some (r1, r2, r3, r4) := h
 clear h
 replace H := Option.bind_eq_some_iff.mp H
 obtain ⟨⟨t103, t106, t109, t112⟩, A40, H⟩ := H
 replace H : (some (t103, t106, t109, t112)) = some (r1, r2, r3, r4) := H
 have A4 := am A40
 clear A40
 simp only [Option.some.injEq, Prod.mk.injEq] at H
 obtain ⟨rfl, rfl, rfl, rfl⟩ := H
 go_enter Try.func27, Try.ntmps27
 go_wp2_with (first | ((with_reducible refine qal (N := 3) rfl ?_); refine bxE (N := 3) (cs := #[.slice A0_0 l0_0.length c0_0, .slice A0_1 l0_1.length c0_1, .slice A0_2 l0_2.length c0_2]) (t := 31) ?_; intro gb101 hg w5 hbox hb; have BK101 := am (hbox); have GW101 := am (sgE hg (au3 HB.out) : w.heap.size ≤ gb101); have GE101 := GW101; replace HB := am (qad (au3 HB.out) hb); clear hb hbox hg) | ((with_reducible refine qal (N := 6) rfl ?_); refine bxE (N := 6) (cs := #[.slice none 0 0, .slice none 0 0, .slice none 0 0]) (t := 31) ?_; intro gb102 hg w6 hbox hb; have BK102 := am (hbox); have GW102 := am (sgE hg (au7 HB.out GE101.out) : w.heap.size ≤ gb102); have GE102 := GW102; replace HB := am (qad (au7 HB.out GE101.out) hb); have NB101_102 := am ((sltE hg (qan (au1 BK101.out)))); have NB102_101 := am ((sgtE hg (qan (au1 BK101.out)))); replace BK101 := am (qab (au1 BK101.out) hb); clear hb hbox hg; have hnb7 := NB101_102.out; have hnc7 := NB102_101.out; have hcz8_0 : _ = some (Value.slice A0_0 l0_0.length c0_0) := bcE BK101.out 0; have hcz8_1 : _ = some (Value.slice A0_1 l0_1.length c0_1) := bcE BK101.out 1; have hcz8_2 : _ = some (Value.slice A0_2 l0_2.length c0_2) := bcE BK101.out 2; have hfz8_0 := qaa BK101.out 0; have hfz8_1 := qaa BK101.out 1; have hfz8_2 := qaa BK101.out 2) | ((with_reducible refine qaj (f := 67) rfl ?_); refine qap (some 11) rfl rfl Try.func67 (by kernel_rfl) rfl #[.agg #[.slice A0_0 l0_0.length c0_0, .slice A0_1 l0_1.length c0_1, .slice A0_2 l0_2.length c0_2], .string a1, .string a2] rfl au6 ?_; (with_reducible refine (impl_replace.calls k _ _ l0_0 _ _ l0_1 _ _ l0_2 a1 a2 t103 t106 t109 t112 _ ?side1 ?side2 ?side3 ?side4 ?side5 ?side6 A4.out).mono ?_); (case side1 => exact scE (Kd.C_below HR0_0.out HB.out)); (case side2 => exact HC0_0.out); (case side3 => exact scE (Kd.C_below HR0_1.out HB.out)); (case side4 => exact HC0_1.out); (case side5 => exact scE (Kd.C_below HR0_2.out HB.out)); (case side6 => exact HC0_2.out); rintro e w9 ⟨v104, v107, v110, rfl, ho0, ho1, ho2, hb⟩; refine ⟨_, rfl, ?_⟩; have HO105 := am (Kd.R_lower ho0 (qaf (au4 HB.out GE101.out GE102.out))); have HO108 := am (Kd.R_lower ho1 (qaf (au4 HB.out GE101.out GE102.out))); have HO111 := am (Kd.R_lower ho2 (qaf (au4 HB.out GE101.out GE102.out))); replace BK101 := am (qab (au1 BK101.out) hb); replace BK102 := am (qab (au1 BK102.out) hb); replace HB := am (qad (au4 HB.out GE101.out GE102.out) hb); (try clear hb); (try clear hb2); (try clear hk); (try clear hi); (try clear ho0); (try clear ho1); (try clear ho2); obtain ⟨Ao10, co10, eo10⟩ := Kd.R_slice HO105.out; subst eo10; have hcz11_0 : _ = some (Value.slice none 0 0) := bcE BK102.out 0; have hcz11_1 : _ = some (Value.slice none 0 0) := bcE BK102.out 1; have hcz11_2 : _ = some (Value.slice none 0 0) := bcE BK102.out 2; have hfz11_0 := qaa BK102.out 0; have hfz11_1 := qaa BK102.out 1; have hfz11_2 := qaa BK102.out 2; obtain ⟨Ao12, co12, eo12⟩ := Kd.R_slice HO108.out; subst eo12; obtain ⟨Ao13, co13, eo13⟩ := Kd.R_slice HO111.out; subst eo13))
 refine bodyPost_ret (qbd rfl _ _ gb102 31 #[.slice Ao10 t103.length co10, .slice Ao12 t106.length co12, .slice Ao13 t109.length co13] (0, 0) _ rfl (by refine au1 ?_; refine qam (cs := #[.slice Ao10 t103.length co10, .slice Ao12 t106.length co12, .slice none 0 0]) ?_ 2 _ rfl; refine au1 ?_; refine qam (cs := #[.slice Ao10 t103.length co10, .slice none 0 0, .slice none 0 0]) ?_ 1 _ rfl; refine au1 ?_; refine qam (cs := #[.slice none 0 0, .slice none 0 0, .slice none 0 0]) ?_ 0 _ rfl; refine au1 ?_; exact BK102.out) Try.underlying31 rfl (by kernel_rfl)) rfl ?_
 exact ⟨_, _, _, by first | rfl | (simp [qag, qah] <;> rfl) | (simp [*, qag, qah] <;> rfl), by refine au0 ?_; exact Kd.R_mono (Kd.R_far (p := ⟨gb102, 2, none⟩) (Kd.R_far (p := ⟨gb102, 1, none⟩) (Kd.R_far (p := ⟨gb102, 0, none⟩) (Kd.R_types HO105.out BK102.out (by decide)) k2E (.slice Ao10 t103.length co10)) k2E (.slice Ao12 t106.length co12)) k2E (.slice Ao13 t109.length co13)) (fun _ hk => hk.1), by refine au0 ?_; exact Kd.R_mono (Kd.R_far (p := ⟨gb102, 2, none⟩) (Kd.R_far (p := ⟨gb102, 1, none⟩) (Kd.R_far (p := ⟨gb102, 0, none⟩) (Kd.R_types HO108.out BK102.out (by decide)) k2E (.slice Ao10 t103.length co10)) k2E (.slice Ao12 t106.length co12)) k2E (.slice Ao13 t109.length co13)) (fun _ hk => hk.1), by refine au0 ?_; exact Kd.R_mono (Kd.R_far (p := ⟨gb102, 2, none⟩) (Kd.R_far (p := ⟨gb102, 1, none⟩) (Kd.R_far (p := ⟨gb102, 0, none⟩) (Kd.R_types HO111.out BK102.out (by decide)) k2E (.slice Ao10 t103.length co10)) k2E (.slice Ao12 t106.length co12)) k2E (.slice Ao13 t109.length co13)) (fun _ hk => trivial), (au4 HB.out GE101.out GE102.out)⟩

end

section
def laws_eqDOp.f (a0_0 : Int) (a0_1 : ByteArray) (a0_2 : ByteArray) (a0_3 : ByteArray) (a1_0 : Int) (a1_1 : ByteArray) (a1_2 : ByteArray) (a1_3 : ByteArray) : Option (Bool) := if a0_0 = a1_0 then (if a0_1.toList = a1_1.toList then (if a0_2.toList = a1_2.toList then (if a0_3.toList = a1_3.toList then (some true) else (none)) else (none)) else (none)) else (none)
set_option maxHeartbeats 8000000 in
set_option maxRecDepth 100000 in
theorem laws_eqDOp.calls (a0_0 : Int) (a0_1 : ByteArray) (a0_2 : ByteArray) (a0_3 : ByteArray) (a1_0 : Int) (a1_1 : ByteArray) (a1_2 : ByteArray) (a1_3 : ByteArray) (r : Bool) (w : World) (h : laws_eqDOp.f a0_0 a0_1 a0_2 a0_3 a1_0 a1_1 a1_2 a1_3 = some r) :
 Calls Try.prog 92 #[.agg #[.int .i64 a0_0, .string a0_1, .string a0_2, .string a0_3], .agg #[.int .i64 a1_0, .string a1_1, .string a1_2, .string a1_3]] w fun e w' => e = .returned (.bool r) ∧ Below w.heap.size w w' := by
 have hu73 := Try.underlying73
 have HB := am (Below.refl w.heap.size w)
 have H : (if a0_0 = a1_0 then (if a0_1.toList = a1_1.toList then (if a0_2.toList = a1_2.toList then (if a0_3.toList = a1_3.toList then (some true) else (none)) else (none)) else (none)) else (none)) = some r := h
 clear h
 by_cases c3 : a0_0 = a1_0
 ·
  rw [if_pos c3] at H
  have c3b0 : (a0_0 == a1_0) = true := beq_iff_eq.mpr c3
  have c3b1 : (a0_0 != a1_0) = false := bne_eq_false_iff_eq.mpr c3
  clear c3
  by_cases c4 : a0_1.toList = a1_1.toList
  ·
   rw [if_pos c4] at H
   have c4b0 : (a0_1.toList == a1_1.toList) = true := beq_iff_eq.mpr c4
   have c4b1 : (a0_1.toList != a1_1.toList) = false := bne_eq_false_iff_eq.mpr c4
   clear c4
   by_cases c5 : a0_2.toList = a1_2.toList
   ·
    rw [if_pos c5] at H
    have c5b0 : (a0_2.toList == a1_2.toList) = true := beq_iff_eq.mpr c5
    have c5b1 : (a0_2.toList != a1_2.toList) = false := bne_eq_false_iff_eq.mpr c5
    clear c5
    by_cases c6 : a0_3.toList = a1_3.toList
    ·
     rw [if_pos c6] at H
     have c6b0 : (a0_3.toList == a1_3.toList) = true := beq_iff_eq.mpr c6
     have c6b1 : (a0_3.toList != a1_3.toList) = false := bne_eq_false_iff_eq.mpr c6
     clear c6
     obtain rfl := Option.some.inj H
     go_enter Try.func92, Try.ntmps92
     go_wp2_with (first | ((with_reducible refine qal (N := 2) rfl ?_); refine bxE (N := 2) (cs := #[.int .i64 a0_0, .string a0_1, .string a0_2, .string a0_3]) (t := 73) ?_; intro gb101 hg w7 hbox hb; have BK101 := am (hbox); have GW101 := am (sgE hg (au3 HB.out) : w.heap.size ≤ gb101); have GE101 := GW101; replace HB := am (qad (au3 HB.out) hb); clear hb hbox hg) | ((with_reducible refine qal (N := 3) rfl ?_); refine bxE (N := 3) (cs := #[.int .i64 a1_0, .string a1_1, .string a1_2, .string a1_3]) (t := 73) ?_; intro gb102 hg w8 hbox hb; have BK102 := am (hbox); have GW102 := am (sgE hg (au7 HB.out GE101.out) : w.heap.size ≤ gb102); have GE102 := GW102; replace HB := am (qad (au7 HB.out GE101.out) hb); have NB101_102 := am ((sltE hg (qan (au1 BK101.out)))); have NB102_101 := am ((sgtE hg (qan (au1 BK101.out)))); replace BK101 := am (qab (au1 BK101.out) hb); clear hb hbox hg; have hnb9 := NB101_102.out; have hnc9 := NB102_101.out; have hcz10_0 : _ = some (Value.int .i64 a0_0) := bcE BK101.out 0; have hcz10_1 : _ = some (Value.string a0_1) := bcE BK101.out 1; have hcz10_2 : _ = some (Value.string a0_2) := bcE BK101.out 2; have hcz10_3 : _ = some (Value.string a0_3) := bcE BK101.out 3; have hfz10_0 := qaa BK101.out 0; have hfz10_1 := qaa BK101.out 1; have hfz10_2 := qaa BK101.out 2; have hfz10_3 := qaa BK101.out 3; have hcz11_0 : _ = some (Value.int .i64 a1_0) := bcE BK102.out 0; have hcz11_1 : _ = some (Value.string a1_1) := bcE BK102.out 1; have hcz11_2 : _ = some (Value.string a1_2) := bcE BK102.out 2; have hcz11_3 : _ = some (Value.string a1_3) := bcE BK102.out 3; have hfz11_0 := qaa BK102.out 0; have hfz11_1 := qaa BK102.out 1; have hfz11_2 := qaa BK102.out 2; have hfz11_3 := qaa BK102.out 3))
     go_ret
     exact ⟨by first | rfl | (simp [qag, qah] <;> rfl) | (simp [*, qag, qah] <;> rfl), (au4 HB.out GE101.out GE102.out)⟩
    ·
     rw [if_neg c6] at H
     exact absurd H (by simp)
   ·
    rw [if_neg c5] at H
    exact absurd H (by simp)
  ·
   rw [if_neg c4] at H
   exact absurd H (by simp)
 ·
  rw [if_neg c3] at H
  exact absurd H (by simp)

end

section
def laws_eqDOpS.l0 : Nat → List (S73) → List (S73) → Int → Option (Bool)
 | 0, _, _, _ => none
 | k + 1, x0, x1, x5 => if x5 < (x0.length : Int) then (if 0 ≤ x5 then (if x5 < (x1.length : Int) then ((laws_eqDOp.f ((qae x0 x5).f0) ((qae x0 x5).f1) ((qae x0 x5).f2) ((qae x0 x5).f3) ((qae x1 x5).f0) ((qae x1 x5).f1) ((qae x1 x5).f2) ((qae x1 x5).f3)).bind fun t103 => (if t103 = true then (laws_eqDOpS.l0 k x0 x1 (wrap64 (x5 + 1))) else (none))) else (none)) else (none)) else (some true)
def laws_eqDOpS.f (k : Nat) (l0 : List (S73)) (l1 : List (S73)) : Option (Bool) := if (l0.length : Int) = (l1.length : Int) then (laws_eqDOpS.l0 k l0 l1 0) else (none)
theorem laws_eqDOpS.mono_l : ∀ k, (∀ y0 y1 y2, LeO (laws_eqDOpS.l0 k y0 y1 y2) (laws_eqDOpS.l0 (k + 1) y0 y1 y2))
 | 0 => fun _ _ _ r h => by simp [laws_eqDOpS.l0] at h
 | k + 1 => by
  have ih0 := laws_eqDOpS.mono_l k
  ·
   intro y0 y1 y2
   unfold laws_eqDOpS.l0
   repeat' first
   | (with_reducible exact ih0 _ _ _)
   | (with_reducible exact LeO.refl _)
   | (with_reducible exact LeO.none _)
   | (with_reducible refine LeO.ite ?_ ?_)
   | (with_reducible refine LeO.bind ?_ (fun _ => ?_))
   | exact ih0 _ _ _
   | exact LeO.none _
   | refine LeO.ite ?_ ?_
   | refine LeO.bind ?_ (fun _ => ?_)
theorem laws_eqDOpS.mono : ∀ a0 a1 k, LeO (laws_eqDOpS.f k a0 a1) (laws_eqDOpS.f (k + 1) a0 a1) := by
 intro a0 a1 k
 have ih0 := laws_eqDOpS.mono_l k
 unfold laws_eqDOpS.f
 repeat' first
  | (with_reducible exact ih0 _ _ _)
  | (with_reducible exact LeO.refl _)
  | (with_reducible exact LeO.none _)
  | (with_reducible refine LeO.ite ?_ ?_)
  | (with_reducible refine LeO.bind ?_ (fun _ => ?_))
  | exact ih0 _ _ _
  | exact LeO.none _
  | refine LeO.ite ?_ ?_
  | refine LeO.bind ?_ (fun _ => ?_)
def laws_eqDOpS.T6 : Bool × List (List Nat × List Nat) := (true, [([], []), ([], []), ([0, 1], [0, 1]), ([2], [2]), ([], []), ([], []), ([4, 5], [4, 5]), ([6], [6]), ([3, 7], [3, 7]), ([8], [8])])
def laws_eqDOpS.B6 : List Nat := [0, 0, 3, 7, 0, 0, 48, 112, 255, 511]
theorem laws_eqDOpS.tab6 : rtab .any (opsOf Try.f51 6) = laws_eqDOpS.T6 := by kernel_rfl
theorem laws_eqDOpS.bits6 : qcf laws_eqDOpS.T6.2 laws_eqDOpS.B6 = true := by kernel_rfl
set_option maxHeartbeats 8000000 in
set_option maxRecDepth 100000 in
theorem laws_eqDOpS.calls (k : Nat) (A0 : Option Addr) (c0 : Nat) (l0 : List (S73)) (A1 : Option Addr) (c1 : Nat) (l1 : List (S73)) (r : Bool) (w : World) (hr0 : Kd.C k73 w A0 l0.length l0) (hc0 : l0.length ≤ c0) (hr1 : Kd.C k73 w A1 l1.length l1) (hc1 : l1.length ≤ c1) (h : laws_eqDOpS.f k l0 l1 = some r) :
 Calls Try.prog 51 #[.slice A0 l0.length c0, .slice A1 l1.length c1] w fun e w' => e = .returned (.bool r) ∧ Below w.heap.size w w' := by
 have hu73 := Try.underlying73
 have HR0 := am hr0
 have HC0 := am hc0
 clear hr0 hc0
 have HR1 := am hr1
 have HC1 := am hc1
 clear hr1 hc1
 have HB := am (Below.refl w.heap.size w)
 have H : (if (l0.length : Int) = (l1.length : Int) then (laws_eqDOpS.l0 k l0 l1 0) else (none)) = some r := h
 clear h
 by_cases c3 : (l0.length : Int) = (l1.length : Int)
 ·
  rw [if_pos c3] at H
  have c3b0 : ((l0.length : Int) == (l1.length : Int)) = true := beq_iff_eq.mpr c3
  have c3b1 : ((l0.length : Int) != (l1.length : Int)) = false := bne_eq_false_iff_eq.mpr c3
  have c3b2 : (l0.length == l1.length) = true := by first | simpa using c3 | (simp at c3 ⊢; omega)
  clear c3
  have H' := am H
  clear H
  go_enter Try.func51, Try.ntmps51
  go_wp2
  go_loopg [5] k (fun kq v5 w' => ∃ (x5_1 : Int), v5 = .int .i64 x5_1 ∧ Aside0 (laws_eqDOpS.l0 kq l0 l1 x5_1 = some r) ∧ Aside0 (kq ≤ k) ∧ Aside0 (Below w.heap.size w w'))
  case atStart => exact ⟨(0), au10, H', ⟨Nat.le_refl _⟩, ⟨(au3 HB.out)⟩⟩
  case round =>
   clear H'
   obtain ⟨x5_1, rfl, HA, HK1, HB⟩ := hrel
   cases gk with
   | zero => exact absurd HA.out (by simp [laws_eqDOpS.l0])
   | succ k1 =>
    have H := HA.out
    clear HA
    simp only [laws_eqDOpS.l0] at H
    by_cases c4 : x5_1 < (l0.length : Int)
    ·
     rw [if_pos c4] at H
     have c4b0 : decide (x5_1 < (l0.length : Int)) = true := decide_eq_true c4
     clear c4
     by_cases c5 : 0 ≤ x5_1
     ·
      rw [if_pos c5] at H
      have c5b0 : decide (0 ≤ x5_1) = true := decide_eq_true c5
      clear c5
      by_cases c6 : x5_1 < (l1.length : Int)
      ·
       rw [if_pos c6] at H
       have c6b0 : decide (x5_1 < (l1.length : Int)) = true := decide_eq_true c6
       clear c6
       replace H := Option.bind_eq_some_iff.mp H
       obtain ⟨t103, A70, H⟩ := H
       replace H : (if t103 = true then (laws_eqDOpS.l0 k1 l0 l1 (wrap64 (x5_1 + 1))) else (none)) = some r := H
       have A7 := am A70
       clear A70
       by_cases c8 : t103 = true
       ·
        subst c8
        have H1 : (laws_eqDOpS.l0 k1 l0 l1 (wrap64 (x5_1 + 1))) = some r := by rw [if_pos rfl] at H; exact H
        clear H
        have H := H1
        clear H1
        have H' := am H
        clear H
        try go_wp2
        replace HB := am (qay HB.out)
        have p101 : 0 ≤ (x5_1 : Int) := of_decide_eq_true au9
        have q101 : x5_1 < (l0.length : Int) := of_decide_eq_true au9
        obtain ⟨ad101, e101, hx101_0, hx101_1, hx101_2, hx101_3⟩ := qcu HR0.out x5_1 p101 q101
        have hw101_3 := hx101_3
        have hw101_2 := hx101_2
        have hw101_1 := hx101_1
        have hw101_0 := hx101_0
        cases e101
        replace hx101_0 := qac HB.out hx101_0
        replace hx101_1 := qac HB.out hx101_1
        replace hx101_2 := qac HB.out hx101_2
        replace hx101_3 := qac HB.out hx101_3
        replace p101 := eq_true p101
        replace q101 := eq_true q101
        have p102 : 0 ≤ (x5_1 : Int) := of_decide_eq_true au9
        have q102 : x5_1 < (l1.length : Int) := of_decide_eq_true au9
        obtain ⟨ad102, e102, hx102_0, hx102_1, hx102_2, hx102_3⟩ := qcu HR1.out x5_1 p102 q102
        have hw102_3 := hx102_3
        have hw102_2 := hx102_2
        have hw102_1 := hx102_1
        have hw102_0 := hx102_0
        cases e102
        replace hx102_0 := qac HB.out hx102_0
        replace hx102_1 := qac HB.out hx102_1
        replace hx102_2 := qac HB.out hx102_2
        replace hx102_3 := qac HB.out hx102_3
        replace p102 := eq_true p102
        replace q102 := eq_true q102
        refine qdm (n := 10) (S := fun w' => w'.cell? (ad101.add ((x5_1).toNat * 4)) = some (.int .i64 ((qae l0 x5_1).f0)) ∧ w'.cell? ⟨(ad101.add ((x5_1).toNat * 4)).block, (ad101.add ((x5_1).toNat * 4)).off + 1, none⟩ = some (.string ((qae l0 x5_1).f1)) ∧ w'.cell? ⟨(ad101.add ((x5_1).toNat * 4)).block, (ad101.add ((x5_1).toNat * 4)).off + 2, none⟩ = some (.string ((qae l0 x5_1).f2)) ∧ w'.cell? ⟨(ad101.add ((x5_1).toNat * 4)).block, (ad101.add ((x5_1).toNat * 4)).off + 3, none⟩ = some (.string ((qae l0 x5_1).f3)) ∧ w'.cell? (ad102.add ((x5_1).toNat * 4)) = some (.int .i64 ((qae l1 x5_1).f0)) ∧ w'.cell? ⟨(ad102.add ((x5_1).toNat * 4)).block, (ad102.add ((x5_1).toNat * 4)).off + 1, none⟩ = some (.string ((qae l1 x5_1).f1)) ∧ w'.cell? ⟨(ad102.add ((x5_1).toNat * 4)).block, (ad102.add ((x5_1).toNat * 4)).off + 2, none⟩ = some (.string ((qae l1 x5_1).f2)) ∧ w'.cell? ⟨(ad102.add ((x5_1).toNat * 4)).block, (ad102.add ((x5_1).toNat * 4)).off + 3, none⟩ = some (.string ((qae l1 x5_1).f3))) (ds := []) #[false, false, false, false, false, false, false, false, false, false] (by kernel_rfl) rfl rfl ⟨(qac HB.out hw101_0), (qac HB.out hw101_1), (qac HB.out hw101_2), (qac HB.out hw101_3), (qac HB.out hw102_0), (qac HB.out hw102_1), (qac HB.out hw102_2), (qac HB.out hw102_3)⟩ (fun hHeld => ?_); refine qbx laws_eqDOpS.tab6 laws_eqDOpS.bits6 (fun HT_ HW_ => ?_)
        generalize wr.drew = w9 at HB hx101_0 hx101_1 hx101_2 hx101_3 hx102_0 hx102_1 hx102_2 hx102_3 hHeld ⊢
        refine pure_ (i := 0) (N := some 17) (v := ?_) (a' := ?_) #[true, false, false, false, false, false, false, false, false, false] rfl rfl (qaz HT_.out (by kernel_rfl)) (fun _ _ _ h => h) (Or.inl ⟨by rfl, ?_⟩) ?_ ?_
        rotate_left
        ·
         intro w'
         go_simp
         with_reducible rfl
        rotate_left
        ·
         simp only [Act.put, qsA, qsZ, qsS, i64_w, i32_w]
         rfl
        refine pure_ (i := 1) (N := some 18) (v := ?_) (a' := ?_) #[true, true, false, false, false, false, false, false, false, false] rfl rfl (qaz HT_.out (by kernel_rfl)) (fun _ _ _ h => h) (Or.inl ⟨by rfl, ?_⟩) ?_ ?_
        rotate_left
        ·
         intro w'
         go_simp
         with_reducible rfl
        rotate_left
        ·
         simp only [Act.put, qsA, qsZ, qsS, i64_w, i32_w]
         rfl
        refine pure_ (i := 2) (N := some 19) (v := ?_) (a' := ?_) #[true, true, true, false, false, false, false, false, false, false] rfl rfl (qaz HT_.out (by kernel_rfl)) (fun _ _ _ h => h) (Or.inl ⟨by rfl, ?_⟩) ?_ ?_
        rotate_left
        ·
         intro w'
         go_simp
         with_reducible rfl
        rotate_left
        ·
         simp only [Act.put, qsA, qsZ, qsS, i64_w, i32_w]
         rfl
        refine pure_ (i := 4) (N := some 21) (v := ?_) (a' := ?_) #[true, true, true, false, true, false, false, false, false, false] rfl rfl (qaz HT_.out (by kernel_rfl)) (fun _ _ _ h => h) (Or.inl ⟨by rfl, ?_⟩) ?_ ?_
        rotate_left
        ·
         intro w'
         go_simp
         with_reducible rfl
        rotate_left
        ·
         simp only [Act.put, qsA, qsZ, qsS, i64_w, i32_w]
         rfl
        refine pure_ (i := 5) (N := some 22) (v := ?_) (a' := ?_) #[true, true, true, false, true, true, false, false, false, false] rfl rfl (qaz HT_.out (by kernel_rfl)) (fun _ _ _ h => h) (Or.inl ⟨by rfl, ?_⟩) ?_ ?_
        rotate_left
        ·
         intro w'
         go_simp
         with_reducible rfl
        rotate_left
        ·
         simp only [Act.put, qsA, qsZ, qsS, i64_w, i32_w]
         rfl
        refine pure_ (i := 6) (N := some 23) (v := ?_) (a' := ?_) #[true, true, true, false, true, true, true, false, false, false] rfl rfl (qaz HT_.out (by kernel_rfl)) (fun _ _ _ h => h) (Or.inl ⟨by rfl, ?_⟩) ?_ ?_
        rotate_left
        ·
         intro w'
         go_simp
         with_reducible rfl
        rotate_left
        ·
         simp only [Act.put, qsA, qsZ, qsS, i64_w, i32_w]
         rfl
        refine take_ (i := 3) (N := some 20) (v := ?_) (a' := ?_) #[true, true, true, true, true, true, true, false, false, false] rfl rfl (qbj HT_.out HW_.out (by kernel_rfl)) (fun _ _ _ h => h) (Or.inl ⟨by rfl, ?_⟩) hHeld ?_ ?_
        rotate_left
        ·
         rintro w' ⟨s0, s1, s2, s3, s4, s5, s6, s7⟩
         go_simp
         with_reducible rfl
        rotate_left
        ·
         simp only [Act.put, qsA, qsZ, qsS, i64_w, i32_w]
         rfl
        refine take_ (i := 7) (N := some 24) (v := ?_) (a' := ?_) #[true, true, true, true, true, true, true, true, false, false] rfl rfl (qbj HT_.out HW_.out (by kernel_rfl)) (fun _ _ _ h => h) (Or.inl ⟨by rfl, ?_⟩) hHeld ?_ ?_
        rotate_left
        ·
         rintro w' ⟨s0, s1, s2, s3, s4, s5, s6, s7⟩
         go_simp
         with_reducible rfl
        rotate_left
        ·
         simp only [Act.put, qsA, qsZ, qsS, i64_w, i32_w]
         rfl
        refine one_ (i := 8) (N := some 25) #[true, true, true, true, true, true, true, true, true, false] rfl rfl (qbw HT_.out (by kernel_rfl)) (by decide) (fun K hK => ?_)
        refine goes_ Try.func92 (by kernel_rfl) rfl #[.agg #[.int .i64 ((qae l0 x5_1).f0), .string ((qae l0 x5_1).f1), .string ((qae l0 x5_1).f2), .string ((qae l0 x5_1).f3)], .agg #[.int .i64 ((qae l1 x5_1).f0), .string ((qae l1 x5_1).f1), .string ((qae l1 x5_1).f2), .string ((qae l1 x5_1).f3)]] (by rfl) rfl rfl au6 ?_
        with_reducible refine (laws_eqDOp.calls ((qae l0 x5_1).f0) ((qae l0 x5_1).f1) ((qae l0 x5_1).f2) ((qae l0 x5_1).f3) ((qae l1 x5_1).f0) ((qae l1 x5_1).f1) ((qae l1 x5_1).f2) ((qae l1 x5_1).f3) true _ A7.out).mono ?_
        rintro e w10 ⟨rfl, hb⟩
        refine ⟨_, rfl, ?_⟩
        replace HB := am (qad (au3 HB.out) hb)
        (try clear hb)
        (try clear hb2)
        (try clear hk)
        (try clear hi)
        refine hK.out _ _ ⟨(qac HB.out hw101_0), (qac HB.out hw101_1), (qac HB.out hw101_2), (qac HB.out hw101_3), (qac HB.out hw102_0), (qac HB.out hw102_1), (qac HB.out hw102_2), (qac HB.out hw102_3)⟩ (fun hHeld => ?_)
        clear hK K
        refine norm_ (a' := ?_) ?_ ?_
        rotate_left
        ·
         show Act.put _ (some 25) _ = _
         simp only [Act.put, qsA, qsZ, qsS, i64_w, i32_w]
         rfl
        refine pure_ (i := 9) (N := some 26) (v := ?_) (a' := ?_) #[true, true, true, true, true, true, true, true, true, true] rfl rfl (qaz HT_.out (by kernel_rfl)) (fun _ _ _ h => h) (Or.inl ⟨by rfl, ?_⟩) ?_ ?_
        rotate_left
        ·
         intro w'
         go_simp
         with_reducible rfl
        rotate_left
        ·
         simp only [Act.put, qsA, qsZ, qsS, i64_w, i32_w]
         rfl
        refine done_ (qdd HT_.out (by kernel_rfl)) ?_
        try go_wp2
        go_roundg k1
        case measure => have := HK1.out; omega
        case rel => exact ⟨(wrap64 (x5_1 + 1)), au10, H', ⟨by have := HK1.out; omega⟩, ⟨(au3 HB.out)⟩⟩
       ·
        replace c8 := Bool.eq_false_iff.mpr c8
        subst c8
        have H1 : (none) = some r := by rw [if_neg (show ¬ (false = true) by decide)] at H; exact H
        clear H
        have H := H1
        clear H1
        exact absurd H (by simp)
      ·
       rw [if_neg c6] at H
       exact absurd H (by simp)
     ·
      rw [if_neg c5] at H
      exact absurd H (by simp)
    ·
     rw [if_neg c4] at H
     have c4b0 : decide (x5_1 < (l0.length : Int)) = false := decide_eq_false c4
     clear c4
     obtain rfl := Option.some.inj H
     go_wp2
     go_ret
     exact ⟨by first | rfl | (simp [qag, qah] <;> rfl) | (simp [*, qag, qah] <;> rfl), (au3 HB.out)⟩
 ·
  rw [if_neg c3] at H
  exact absurd H (by simp)

end

section
def laws_eqFile.f (a0_0 : ByteArray) (a0_1 : ByteArray) (a1_0 : ByteArray) (a1_1 : ByteArray) : Option (Bool) := if a0_0.toList = a1_0.toList then (if a0_1.toList = a1_1.toList then (some true) else (none)) else (none)
set_option maxHeartbeats 8000000 in
set_option maxRecDepth 100000 in
theorem laws_eqFile.calls (a0_0 : ByteArray) (a0_1 : ByteArray) (a1_0 : ByteArray) (a1_1 : ByteArray) (r : Bool) (w : World) (h : laws_eqFile.f a0_0 a0_1 a1_0 a1_1 = some r) :
 Calls Try.prog 91 #[.agg #[.string a0_0, .string a0_1], .agg #[.string a1_0, .string a1_1]] w fun e w' => e = .returned (.bool r) ∧ Below w.heap.size w w' := by
 have hu80 := Try.underlying80
 have HB := am (Below.refl w.heap.size w)
 have H : (if a0_0.toList = a1_0.toList then (if a0_1.toList = a1_1.toList then (some true) else (none)) else (none)) = some r := h
 clear h
 by_cases c3 : a0_0.toList = a1_0.toList
 ·
  rw [if_pos c3] at H
  have c3b0 : (a0_0.toList == a1_0.toList) = true := beq_iff_eq.mpr c3
  have c3b1 : (a0_0.toList != a1_0.toList) = false := bne_eq_false_iff_eq.mpr c3
  clear c3
  by_cases c4 : a0_1.toList = a1_1.toList
  ·
   rw [if_pos c4] at H
   have c4b0 : (a0_1.toList == a1_1.toList) = true := beq_iff_eq.mpr c4
   have c4b1 : (a0_1.toList != a1_1.toList) = false := bne_eq_false_iff_eq.mpr c4
   clear c4
   obtain rfl := Option.some.inj H
   go_enter Try.func91, Try.ntmps91
   go_wp2_with (first | ((with_reducible refine qal (N := 2) rfl ?_); refine bxE (N := 2) (cs := #[.string a0_0, .string a0_1]) (t := 80) ?_; intro gb101 hg w5 hbox hb; have BK101 := am (hbox); have GW101 := am (sgE hg (au3 HB.out) : w.heap.size ≤ gb101); have GE101 := GW101; replace HB := am (qad (au3 HB.out) hb); clear hb hbox hg) | ((with_reducible refine qal (N := 3) rfl ?_); refine bxE (N := 3) (cs := #[.string a1_0, .string a1_1]) (t := 80) ?_; intro gb102 hg w6 hbox hb; have BK102 := am (hbox); have GW102 := am (sgE hg (au7 HB.out GE101.out) : w.heap.size ≤ gb102); have GE102 := GW102; replace HB := am (qad (au7 HB.out GE101.out) hb); have NB101_102 := am ((sltE hg (qan (au1 BK101.out)))); have NB102_101 := am ((sgtE hg (qan (au1 BK101.out)))); replace BK101 := am (qab (au1 BK101.out) hb); clear hb hbox hg; have hnb7 := NB101_102.out; have hnc7 := NB102_101.out; have hcz8_0 : _ = some (Value.string a0_0) := bcE BK101.out 0; have hcz8_1 : _ = some (Value.string a0_1) := bcE BK101.out 1; have hfz8_0 := qaa BK101.out 0; have hfz8_1 := qaa BK101.out 1; have hcz9_0 : _ = some (Value.string a1_0) := bcE BK102.out 0; have hcz9_1 : _ = some (Value.string a1_1) := bcE BK102.out 1; have hfz9_0 := qaa BK102.out 0; have hfz9_1 := qaa BK102.out 1))
   go_ret
   exact ⟨by first | rfl | (simp [qag, qah] <;> rfl) | (simp [*, qag, qah] <;> rfl), (au4 HB.out GE101.out GE102.out)⟩
  ·
   rw [if_neg c4] at H
   exact absurd H (by simp)
 ·
  rw [if_neg c3] at H
  exact absurd H (by simp)

end

section
def laws_eqFileS.l0 : Nat → List (S80) → List (S80) → Int → Option (Bool)
 | 0, _, _, _ => none
 | k + 1, x0, x1, x5 => if x5 < (x0.length : Int) then (if 0 ≤ x5 then (if x5 < (x1.length : Int) then ((laws_eqFile.f ((qai x0 x5).f0) ((qai x0 x5).f1) ((qai x1 x5).f0) ((qai x1 x5).f1)).bind fun t103 => (if t103 = true then (laws_eqFileS.l0 k x0 x1 (wrap64 (x5 + 1))) else (none))) else (none)) else (none)) else (some true)
def laws_eqFileS.f (k : Nat) (l0 : List (S80)) (l1 : List (S80)) : Option (Bool) := if (l0.length : Int) = (l1.length : Int) then (laws_eqFileS.l0 k l0 l1 0) else (none)
theorem laws_eqFileS.mono_l : ∀ k, (∀ y0 y1 y2, LeO (laws_eqFileS.l0 k y0 y1 y2) (laws_eqFileS.l0 (k + 1) y0 y1 y2))
 | 0 => fun _ _ _ r h => by simp [laws_eqFileS.l0] at h
 | k + 1 => by
  have ih0 := laws_eqFileS.mono_l k
  ·
   intro y0 y1 y2
   unfold laws_eqFileS.l0
   repeat' first
   | (with_reducible exact ih0 _ _ _)
   | (with_reducible exact LeO.refl _)
   | (with_reducible exact LeO.none _)
   | (with_reducible refine LeO.ite ?_ ?_)
   | (with_reducible refine LeO.bind ?_ (fun _ => ?_))
   | exact ih0 _ _ _
   | exact LeO.none _
   | refine LeO.ite ?_ ?_
   | refine LeO.bind ?_ (fun _ => ?_)
theorem laws_eqFileS.mono : ∀ a0 a1 k, LeO (laws_eqFileS.f k a0 a1) (laws_eqFileS.f (k + 1) a0 a1) := by
 intro a0 a1 k
 have ih0 := laws_eqFileS.mono_l k
 unfold laws_eqFileS.f
 repeat' first
  | (with_reducible exact ih0 _ _ _)
  | (with_reducible exact LeO.refl _)
  | (with_reducible exact LeO.none _)
  | (with_reducible refine LeO.ite ?_ ?_)
  | (with_reducible refine LeO.bind ?_ (fun _ => ?_))
  | exact ih0 _ _ _
  | exact LeO.none _
  | refine LeO.ite ?_ ?_
  | refine LeO.bind ?_ (fun _ => ?_)
def laws_eqFileS.T6 : Bool × List (List Nat × List Nat) := (true, [([], []), ([], []), ([0, 1], [0, 1]), ([2], [2]), ([], []), ([], []), ([4, 5], [4, 5]), ([6], [6]), ([3, 7], [3, 7]), ([8], [8])])
def laws_eqFileS.B6 : List Nat := [0, 0, 3, 7, 0, 0, 48, 112, 255, 511]
theorem laws_eqFileS.tab6 : rtab .any (opsOf Try.f50 6) = laws_eqFileS.T6 := by kernel_rfl
theorem laws_eqFileS.bits6 : qcf laws_eqFileS.T6.2 laws_eqFileS.B6 = true := by kernel_rfl
set_option maxHeartbeats 8000000 in
set_option maxRecDepth 100000 in
theorem laws_eqFileS.calls (k : Nat) (A0 : Option Addr) (c0 : Nat) (l0 : List (S80)) (A1 : Option Addr) (c1 : Nat) (l1 : List (S80)) (r : Bool) (w : World) (hr0 : Kd.C k80 w A0 l0.length l0) (hc0 : l0.length ≤ c0) (hr1 : Kd.C k80 w A1 l1.length l1) (hc1 : l1.length ≤ c1) (h : laws_eqFileS.f k l0 l1 = some r) :
 Calls Try.prog 50 #[.slice A0 l0.length c0, .slice A1 l1.length c1] w fun e w' => e = .returned (.bool r) ∧ Below w.heap.size w w' := by
 have hu80 := Try.underlying80
 have HR0 := am hr0
 have HC0 := am hc0
 clear hr0 hc0
 have HR1 := am hr1
 have HC1 := am hc1
 clear hr1 hc1
 have HB := am (Below.refl w.heap.size w)
 have H : (if (l0.length : Int) = (l1.length : Int) then (laws_eqFileS.l0 k l0 l1 0) else (none)) = some r := h
 clear h
 by_cases c3 : (l0.length : Int) = (l1.length : Int)
 ·
  rw [if_pos c3] at H
  have c3b0 : ((l0.length : Int) == (l1.length : Int)) = true := beq_iff_eq.mpr c3
  have c3b1 : ((l0.length : Int) != (l1.length : Int)) = false := bne_eq_false_iff_eq.mpr c3
  have c3b2 : (l0.length == l1.length) = true := by first | simpa using c3 | (simp at c3 ⊢; omega)
  clear c3
  have H' := am H
  clear H
  go_enter Try.func50, Try.ntmps50
  go_wp2
  go_loopg [5] k (fun kq v5 w' => ∃ (x5_1 : Int), v5 = .int .i64 x5_1 ∧ Aside0 (laws_eqFileS.l0 kq l0 l1 x5_1 = some r) ∧ Aside0 (kq ≤ k) ∧ Aside0 (Below w.heap.size w w'))
  case atStart => exact ⟨(0), au10, H', ⟨Nat.le_refl _⟩, ⟨(au3 HB.out)⟩⟩
  case round =>
   clear H'
   obtain ⟨x5_1, rfl, HA, HK1, HB⟩ := hrel
   cases gk with
   | zero => exact absurd HA.out (by simp [laws_eqFileS.l0])
   | succ k1 =>
    have H := HA.out
    clear HA
    simp only [laws_eqFileS.l0] at H
    by_cases c4 : x5_1 < (l0.length : Int)
    ·
     rw [if_pos c4] at H
     have c4b0 : decide (x5_1 < (l0.length : Int)) = true := decide_eq_true c4
     clear c4
     by_cases c5 : 0 ≤ x5_1
     ·
      rw [if_pos c5] at H
      have c5b0 : decide (0 ≤ x5_1) = true := decide_eq_true c5
      clear c5
      by_cases c6 : x5_1 < (l1.length : Int)
      ·
       rw [if_pos c6] at H
       have c6b0 : decide (x5_1 < (l1.length : Int)) = true := decide_eq_true c6
       clear c6
       replace H := Option.bind_eq_some_iff.mp H
       obtain ⟨t103, A70, H⟩ := H
       replace H : (if t103 = true then (laws_eqFileS.l0 k1 l0 l1 (wrap64 (x5_1 + 1))) else (none)) = some r := H
       have A7 := am A70
       clear A70
       by_cases c8 : t103 = true
       ·
        subst c8
        have H1 : (laws_eqFileS.l0 k1 l0 l1 (wrap64 (x5_1 + 1))) = some r := by rw [if_pos rfl] at H; exact H
        clear H
        have H := H1
        clear H1
        have H' := am H
        clear H
        try go_wp2
        replace HB := am (qay HB.out)
        have p101 : 0 ≤ (x5_1 : Int) := of_decide_eq_true au9
        have q101 : x5_1 < (l0.length : Int) := of_decide_eq_true au9
        obtain ⟨ad101, e101, hx101_0, hx101_1⟩ := qax HR0.out x5_1 p101 q101
        have hw101_1 := hx101_1
        have hw101_0 := hx101_0
        cases e101
        replace hx101_0 := qac HB.out hx101_0
        replace hx101_1 := qac HB.out hx101_1
        replace p101 := eq_true p101
        replace q101 := eq_true q101
        have p102 : 0 ≤ (x5_1 : Int) := of_decide_eq_true au9
        have q102 : x5_1 < (l1.length : Int) := of_decide_eq_true au9
        obtain ⟨ad102, e102, hx102_0, hx102_1⟩ := qax HR1.out x5_1 p102 q102
        have hw102_1 := hx102_1
        have hw102_0 := hx102_0
        cases e102
        replace hx102_0 := qac HB.out hx102_0
        replace hx102_1 := qac HB.out hx102_1
        replace p102 := eq_true p102
        replace q102 := eq_true q102
        refine qdm (n := 10) (S := fun w' => w'.cell? (ad101.add ((x5_1).toNat * 2)) = some (.string ((qai l0 x5_1).f0)) ∧ w'.cell? ⟨(ad101.add ((x5_1).toNat * 2)).block, (ad101.add ((x5_1).toNat * 2)).off + 1, none⟩ = some (.string ((qai l0 x5_1).f1)) ∧ w'.cell? (ad102.add ((x5_1).toNat * 2)) = some (.string ((qai l1 x5_1).f0)) ∧ w'.cell? ⟨(ad102.add ((x5_1).toNat * 2)).block, (ad102.add ((x5_1).toNat * 2)).off + 1, none⟩ = some (.string ((qai l1 x5_1).f1))) (ds := []) #[false, false, false, false, false, false, false, false, false, false] (by kernel_rfl) rfl rfl ⟨(qac HB.out hw101_0), (qac HB.out hw101_1), (qac HB.out hw102_0), (qac HB.out hw102_1)⟩ (fun hHeld => ?_); refine qbx laws_eqFileS.tab6 laws_eqFileS.bits6 (fun HT_ HW_ => ?_)
        generalize wr.drew = w9 at HB hx101_0 hx101_1 hx102_0 hx102_1 hHeld ⊢
        refine pure_ (i := 0) (N := some 17) (v := ?_) (a' := ?_) #[true, false, false, false, false, false, false, false, false, false] rfl rfl (qaz HT_.out (by kernel_rfl)) (fun _ _ _ h => h) (Or.inl ⟨by rfl, ?_⟩) ?_ ?_
        rotate_left
        ·
         intro w'
         go_simp
         with_reducible rfl
        rotate_left
        ·
         simp only [Act.put, qsA, qsZ, qsS, i64_w, i32_w]
         rfl
        refine pure_ (i := 1) (N := some 18) (v := ?_) (a' := ?_) #[true, true, false, false, false, false, false, false, false, false] rfl rfl (qaz HT_.out (by kernel_rfl)) (fun _ _ _ h => h) (Or.inl ⟨by rfl, ?_⟩) ?_ ?_
        rotate_left
        ·
         intro w'
         go_simp
         with_reducible rfl
        rotate_left
        ·
         simp only [Act.put, qsA, qsZ, qsS, i64_w, i32_w]
         rfl
        refine pure_ (i := 2) (N := some 19) (v := ?_) (a' := ?_) #[true, true, true, false, false, false, false, false, false, false] rfl rfl (qaz HT_.out (by kernel_rfl)) (fun _ _ _ h => h) (Or.inl ⟨by rfl, ?_⟩) ?_ ?_
        rotate_left
        ·
         intro w'
         go_simp
         with_reducible rfl
        rotate_left
        ·
         simp only [Act.put, qsA, qsZ, qsS, i64_w, i32_w]
         rfl
        refine pure_ (i := 4) (N := some 21) (v := ?_) (a' := ?_) #[true, true, true, false, true, false, false, false, false, false] rfl rfl (qaz HT_.out (by kernel_rfl)) (fun _ _ _ h => h) (Or.inl ⟨by rfl, ?_⟩) ?_ ?_
        rotate_left
        ·
         intro w'
         go_simp
         with_reducible rfl
        rotate_left
        ·
         simp only [Act.put, qsA, qsZ, qsS, i64_w, i32_w]
         rfl
        refine pure_ (i := 5) (N := some 22) (v := ?_) (a' := ?_) #[true, true, true, false, true, true, false, false, false, false] rfl rfl (qaz HT_.out (by kernel_rfl)) (fun _ _ _ h => h) (Or.inl ⟨by rfl, ?_⟩) ?_ ?_
        rotate_left
        ·
         intro w'
         go_simp
         with_reducible rfl
        rotate_left
        ·
         simp only [Act.put, qsA, qsZ, qsS, i64_w, i32_w]
         rfl
        refine pure_ (i := 6) (N := some 23) (v := ?_) (a' := ?_) #[true, true, true, false, true, true, true, false, false, false] rfl rfl (qaz HT_.out (by kernel_rfl)) (fun _ _ _ h => h) (Or.inl ⟨by rfl, ?_⟩) ?_ ?_
        rotate_left
        ·
         intro w'
         go_simp
         with_reducible rfl
        rotate_left
        ·
         simp only [Act.put, qsA, qsZ, qsS, i64_w, i32_w]
         rfl
        refine take_ (i := 3) (N := some 20) (v := ?_) (a' := ?_) #[true, true, true, true, true, true, true, false, false, false] rfl rfl (qbj HT_.out HW_.out (by kernel_rfl)) (fun _ _ _ h => h) (Or.inl ⟨by rfl, ?_⟩) hHeld ?_ ?_
        rotate_left
        ·
         rintro w' ⟨s0, s1, s2, s3⟩
         go_simp
         with_reducible rfl
        rotate_left
        ·
         simp only [Act.put, qsA, qsZ, qsS, i64_w, i32_w]
         rfl
        refine take_ (i := 7) (N := some 24) (v := ?_) (a' := ?_) #[true, true, true, true, true, true, true, true, false, false] rfl rfl (qbj HT_.out HW_.out (by kernel_rfl)) (fun _ _ _ h => h) (Or.inl ⟨by rfl, ?_⟩) hHeld ?_ ?_
        rotate_left
        ·
         rintro w' ⟨s0, s1, s2, s3⟩
         go_simp
         with_reducible rfl
        rotate_left
        ·
         simp only [Act.put, qsA, qsZ, qsS, i64_w, i32_w]
         rfl
        refine one_ (i := 8) (N := some 25) #[true, true, true, true, true, true, true, true, true, false] rfl rfl (qbw HT_.out (by kernel_rfl)) (by decide) (fun K hK => ?_)
        refine goes_ Try.func91 (by kernel_rfl) rfl #[.agg #[.string ((qai l0 x5_1).f0), .string ((qai l0 x5_1).f1)], .agg #[.string ((qai l1 x5_1).f0), .string ((qai l1 x5_1).f1)]] (by rfl) rfl rfl au6 ?_
        with_reducible refine (laws_eqFile.calls ((qai l0 x5_1).f0) ((qai l0 x5_1).f1) ((qai l1 x5_1).f0) ((qai l1 x5_1).f1) true _ A7.out).mono ?_
        rintro e w10 ⟨rfl, hb⟩
        refine ⟨_, rfl, ?_⟩
        replace HB := am (qad (au3 HB.out) hb)
        (try clear hb)
        (try clear hb2)
        (try clear hk)
        (try clear hi)
        refine hK.out _ _ ⟨(qac HB.out hw101_0), (qac HB.out hw101_1), (qac HB.out hw102_0), (qac HB.out hw102_1)⟩ (fun hHeld => ?_)
        clear hK K
        refine norm_ (a' := ?_) ?_ ?_
        rotate_left
        ·
         show Act.put _ (some 25) _ = _
         simp only [Act.put, qsA, qsZ, qsS, i64_w, i32_w]
         rfl
        refine pure_ (i := 9) (N := some 26) (v := ?_) (a' := ?_) #[true, true, true, true, true, true, true, true, true, true] rfl rfl (qaz HT_.out (by kernel_rfl)) (fun _ _ _ h => h) (Or.inl ⟨by rfl, ?_⟩) ?_ ?_
        rotate_left
        ·
         intro w'
         go_simp
         with_reducible rfl
        rotate_left
        ·
         simp only [Act.put, qsA, qsZ, qsS, i64_w, i32_w]
         rfl
        refine done_ (qdd HT_.out (by kernel_rfl)) ?_
        try go_wp2
        go_roundg k1
        case measure => have := HK1.out; omega
        case rel => exact ⟨(wrap64 (x5_1 + 1)), au10, H', ⟨by have := HK1.out; omega⟩, ⟨(au3 HB.out)⟩⟩
       ·
        replace c8 := Bool.eq_false_iff.mpr c8
        subst c8
        have H1 : (none) = some r := by rw [if_neg (show ¬ (false = true) by decide)] at H; exact H
        clear H
        have H := H1
        clear H1
        exact absurd H (by simp)
      ·
       rw [if_neg c6] at H
       exact absurd H (by simp)
     ·
      rw [if_neg c5] at H
      exact absurd H (by simp)
    ·
     rw [if_neg c4] at H
     have c4b0 : decide (x5_1 < (l0.length : Int)) = false := decide_eq_false c4
     clear c4
     obtain rfl := Option.some.inj H
     go_wp2
     go_ret
     exact ⟨by first | rfl | (simp [qag, qah] <;> rfl) | (simp [*, qag, qah] <;> rfl), (au3 HB.out)⟩
 ·
  rw [if_neg c3] at H
  exact absurd H (by simp)

end

section
def laws_eqDisk.f (k : Nat) (l0_0 : List (S80)) (l0_1 : List (S80)) (l0_2 : List (S73)) (l1_0 : List (S80)) (l1_1 : List (S80)) (l1_2 : List (S73)) : Option (Bool) := (laws_eqFileS.f k l0_0 l1_0).bind fun t103 => (if t103 = true then ((laws_eqFileS.f k l0_1 l1_1).bind fun t104 => (if t104 = true then ((laws_eqDOpS.f k l0_2 l1_2).bind fun t105 => (if t105 = true then (some true) else (none))) else (none))) else (none))
theorem laws_eqDisk.mono : ∀ a0 a1 a2 a3 a4 a5 k, LeO (laws_eqDisk.f k a0 a1 a2 a3 a4 a5) (laws_eqDisk.f (k + 1) a0 a1 a2 a3 a4 a5) := by
 intro a0 a1 a2 a3 a4 a5 k
 unfold laws_eqDisk.f
 repeat' first
  | (with_reducible exact laws_eqDOpS.mono _ _ _)
  | (with_reducible exact laws_eqFileS.mono _ _ _)
  | (with_reducible exact LeO.refl _)
  | (with_reducible exact LeO.none _)
  | (with_reducible refine LeO.ite ?_ ?_)
  | (with_reducible refine LeO.bind ?_ (fun _ => ?_))
  | exact laws_eqDOpS.mono _ _ _
  | exact laws_eqFileS.mono _ _ _
  | exact LeO.none _
  | refine LeO.ite ?_ ?_
  | refine LeO.bind ?_ (fun _ => ?_)
set_option maxHeartbeats 8000000 in
set_option maxRecDepth 100000 in
theorem laws_eqDisk.calls (k : Nat) (A0_0 : Option Addr) (c0_0 : Nat) (l0_0 : List (S80)) (A0_1 : Option Addr) (c0_1 : Nat) (l0_1 : List (S80)) (A0_2 : Option Addr) (c0_2 : Nat) (l0_2 : List (S73)) (A1_0 : Option Addr) (c1_0 : Nat) (l1_0 : List (S80)) (A1_1 : Option Addr) (c1_1 : Nat) (l1_1 : List (S80)) (A1_2 : Option Addr) (c1_2 : Nat) (l1_2 : List (S73)) (r : Bool) (w : World) (hr0_0 : Kd.C k80 w A0_0 l0_0.length l0_0) (hc0_0 : l0_0.length ≤ c0_0) (hr0_1 : Kd.C k80 w A0_1 l0_1.length l0_1) (hc0_1 : l0_1.length ≤ c0_1) (hr0_2 : Kd.C k73 w A0_2 l0_2.length l0_2) (hc0_2 : l0_2.length ≤ c0_2) (hr1_0 : Kd.C k80 w A1_0 l1_0.length l1_0) (hc1_0 : l1_0.length ≤ c1_0) (hr1_1 : Kd.C k80 w A1_1 l1_1.length l1_1) (hc1_1 : l1_1.length ≤ c1_1) (hr1_2 : Kd.C k73 w A1_2 l1_2.length l1_2) (hc1_2 : l1_2.length ≤ c1_2) (h : laws_eqDisk.f k l0_0 l0_1 l0_2 l1_0 l1_1 l1_2 = some r) :
 Calls Try.prog 16 #[.agg #[.slice A0_0 l0_0.length c0_0, .slice A0_1 l0_1.length c0_1, .slice A0_2 l0_2.length c0_2], .agg #[.slice A1_0 l1_0.length c1_0, .slice A1_1 l1_1.length c1_1, .slice A1_2 l1_2.length c1_2]] w fun e w' => e = .returned (.bool r) ∧ Below w.heap.size w w' := by
 have hu31 := Try.underlying31
 have HR0_0 := am hr0_0
 have HC0_0 := am hc0_0
 clear hr0_0 hc0_0
 have HR0_1 := am hr0_1
 have HC0_1 := am hc0_1
 clear hr0_1 hc0_1
 have HR0_2 := am hr0_2
 have HC0_2 := am hc0_2
 clear hr0_2 hc0_2
 have HR1_0 := am hr1_0
 have HC1_0 := am hc1_0
 clear hr1_0 hc1_0
 have HR1_1 := am hr1_1
 have HC1_1 := am hc1_1
 clear hr1_1 hc1_1
 have HR1_2 := am hr1_2
 have HC1_2 := am hc1_2
 clear hr1_2 hc1_2
 have HB := am (Below.refl w.heap.size w)
 have H : ((laws_eqFileS.f k l0_0 l1_0).bind fun t103 => (if t103 = true then ((laws_eqFileS.f k l0_1 l1_1).bind fun t104 => (if t104 = true then ((laws_eqDOpS.f k l0_2 l1_2).bind fun t105 => (if t105 = true then (some true) else (none))) else (none))) else (none))) = some r := h
 clear h
 replace H := Option.bind_eq_some_iff.mp H
 obtain ⟨t103, A30, H⟩ := H
 replace H : (if t103 = true then ((laws_eqFileS.f k l0_1 l1_1).bind fun t104 => (if t104 = true then ((laws_eqDOpS.f k l0_2 l1_2).bind fun t105 => (if t105 = true then (some true) else (none))) else (none))) else (none)) = some r := H
 have A3 := am A30
 clear A30
 by_cases c4 : t103 = true
 ·
  subst c4
  have H1 : ((laws_eqFileS.f k l0_1 l1_1).bind fun t104 => (if t104 = true then ((laws_eqDOpS.f k l0_2 l1_2).bind fun t105 => (if t105 = true then (some true) else (none))) else (none))) = some r := by rw [if_pos rfl] at H; exact H
  clear H
  have H := H1
  clear H1
  replace H := Option.bind_eq_some_iff.mp H
  obtain ⟨t104, A50, H⟩ := H
  replace H : (if t104 = true then ((laws_eqDOpS.f k l0_2 l1_2).bind fun t105 => (if t105 = true then (some true) else (none))) else (none)) = some r := H
  have A5 := am A50
  clear A50
  by_cases c6 : t104 = true
  ·
   subst c6
   have H1 : ((laws_eqDOpS.f k l0_2 l1_2).bind fun t105 => (if t105 = true then (some true) else (none))) = some r := by rw [if_pos rfl] at H; exact H
   clear H
   have H := H1
   clear H1
   replace H := Option.bind_eq_some_iff.mp H
   obtain ⟨t105, A70, H⟩ := H
   replace H : (if t105 = true then (some true) else (none)) = some r := H
   have A7 := am A70
   clear A70
   by_cases c8 : t105 = true
   ·
    subst c8
    have H1 : (some true) = some r := by rw [if_pos rfl] at H; exact H
    clear H
    have H := H1
    clear H1
    obtain rfl := Option.some.inj H
    go_enter Try.func16, Try.ntmps16
    go_wp2_with (first | ((with_reducible refine qal (N := 2) rfl ?_); refine bxE (N := 2) (cs := #[.slice A0_0 l0_0.length c0_0, .slice A0_1 l0_1.length c0_1, .slice A0_2 l0_2.length c0_2]) (t := 31) ?_; intro gb101 hg w9 hbox hb; have BK101 := am (hbox); have GW101 := am (sgE hg (au3 HB.out) : w.heap.size ≤ gb101); have GE101 := GW101; replace HB := am (qad (au3 HB.out) hb); clear hb hbox hg) | ((with_reducible refine qal (N := 3) rfl ?_); refine bxE (N := 3) (cs := #[.slice A1_0 l1_0.length c1_0, .slice A1_1 l1_1.length c1_1, .slice A1_2 l1_2.length c1_2]) (t := 31) ?_; intro gb102 hg w10 hbox hb; have BK102 := am (hbox); have GW102 := am (sgE hg (au7 HB.out GE101.out) : w.heap.size ≤ gb102); have GE102 := GW102; replace HB := am (qad (au7 HB.out GE101.out) hb); have NB101_102 := am ((sltE hg (qan (au1 BK101.out)))); have NB102_101 := am ((sgtE hg (qan (au1 BK101.out)))); replace BK101 := am (qab (au1 BK101.out) hb); clear hb hbox hg; have hnb11 := NB101_102.out; have hnc11 := NB102_101.out; have hcz12_0 : _ = some (Value.slice A0_0 l0_0.length c0_0) := bcE BK101.out 0; have hcz12_1 : _ = some (Value.slice A0_1 l0_1.length c0_1) := bcE BK101.out 1; have hcz12_2 : _ = some (Value.slice A0_2 l0_2.length c0_2) := bcE BK101.out 2; have hfz12_0 := qaa BK101.out 0; have hfz12_1 := qaa BK101.out 1; have hfz12_2 := qaa BK101.out 2; have hcz13_0 : _ = some (Value.slice A1_0 l1_0.length c1_0) := bcE BK102.out 0; have hcz13_1 : _ = some (Value.slice A1_1 l1_1.length c1_1) := bcE BK102.out 1; have hcz13_2 : _ = some (Value.slice A1_2 l1_2.length c1_2) := bcE BK102.out 2; have hfz13_0 := qaa BK102.out 0; have hfz13_1 := qaa BK102.out 1; have hfz13_2 := qaa BK102.out 2) | ((with_reducible refine qaj (f := 50) rfl ?_); refine qap (some 9) rfl rfl Try.func50 (by kernel_rfl) rfl #[.slice A0_0 l0_0.length c0_0, .slice A1_0 l1_0.length c1_0] rfl au6 ?_; (with_reducible refine (laws_eqFileS.calls k _ _ l0_0 _ _ l1_0 true _ ?side1 ?side2 ?side3 ?side4 A3.out).mono ?_); (case side1 => exact scE (Kd.C_below HR0_0.out HB.out)); (case side2 => exact HC0_0.out); (case side3 => exact scE (Kd.C_below HR1_0.out HB.out)); (case side4 => exact HC1_0.out); rintro e w14 ⟨rfl, hb⟩; refine ⟨_, rfl, ?_⟩; replace BK101 := am (qab (au1 BK101.out) hb); replace BK102 := am (qab (au1 BK102.out) hb); replace HB := am (qad (au4 HB.out GE101.out GE102.out) hb); (try clear hb); (try clear hb2); (try clear hk); (try clear hi); have hcz15_0 : _ = some (Value.slice A0_0 l0_0.length c0_0) := bcE BK101.out 0; have hcz15_1 : _ = some (Value.slice A0_1 l0_1.length c0_1) := bcE BK101.out 1; have hcz15_2 : _ = some (Value.slice A0_2 l0_2.length c0_2) := bcE BK101.out 2; have hfz15_0 := qaa BK101.out 0; have hfz15_1 := qaa BK101.out 1; have hfz15_2 := qaa BK101.out 2; have hcz16_0 : _ = some (Value.slice A1_0 l1_0.length c1_0) := bcE BK102.out 0; have hcz16_1 : _ = some (Value.slice A1_1 l1_1.length c1_1) := bcE BK102.out 1; have hcz16_2 : _ = some (Value.slice A1_2 l1_2.length c1_2) := bcE BK102.out 2; have hfz16_0 := qaa BK102.out 0; have hfz16_1 := qaa BK102.out 1; have hfz16_2 := qaa BK102.out 2) | ((with_reducible refine qaj (f := 50) rfl ?_); refine qap (some 15) rfl rfl Try.func50 (by kernel_rfl) rfl #[.slice A0_1 l0_1.length c0_1, .slice A1_1 l1_1.length c1_1] rfl au6 ?_; (with_reducible refine (laws_eqFileS.calls k _ _ l0_1 _ _ l1_1 true _ ?side1 ?side2 ?side3 ?side4 A5.out).mono ?_); (case side1 => exact scE (Kd.C_below HR0_1.out HB.out)); (case side2 => exact HC0_1.out); (case side3 => exact scE (Kd.C_below HR1_1.out HB.out)); (case side4 => exact HC1_1.out); rintro e w17 ⟨rfl, hb⟩; refine ⟨_, rfl, ?_⟩; replace BK101 := am (qab (au1 BK101.out) hb); replace BK102 := am (qab (au1 BK102.out) hb); replace HB := am (qad (au4 HB.out GE101.out GE102.out) hb); (try clear hb); (try clear hb2); (try clear hk); (try clear hi); have hcz18_0 : _ = some (Value.slice A0_0 l0_0.length c0_0) := bcE BK101.out 0; have hcz18_1 : _ = some (Value.slice A0_1 l0_1.length c0_1) := bcE BK101.out 1; have hcz18_2 : _ = some (Value.slice A0_2 l0_2.length c0_2) := bcE BK101.out 2; have hfz18_0 := qaa BK101.out 0; have hfz18_1 := qaa BK101.out 1; have hfz18_2 := qaa BK101.out 2; have hcz19_0 : _ = some (Value.slice A1_0 l1_0.length c1_0) := bcE BK102.out 0; have hcz19_1 : _ = some (Value.slice A1_1 l1_1.length c1_1) := bcE BK102.out 1; have hcz19_2 : _ = some (Value.slice A1_2 l1_2.length c1_2) := bcE BK102.out 2; have hfz19_0 := qaa BK102.out 0; have hfz19_1 := qaa BK102.out 1; have hfz19_2 := qaa BK102.out 2) | ((with_reducible refine qaj (f := 51) rfl ?_); refine qap (some 21) rfl rfl Try.func51 (by kernel_rfl) rfl #[.slice A0_2 l0_2.length c0_2, .slice A1_2 l1_2.length c1_2] rfl au6 ?_; (with_reducible refine (laws_eqDOpS.calls k _ _ l0_2 _ _ l1_2 true _ ?side1 ?side2 ?side3 ?side4 A7.out).mono ?_); (case side1 => exact scE (Kd.C_below HR0_2.out HB.out)); (case side2 => exact HC0_2.out); (case side3 => exact scE (Kd.C_below HR1_2.out HB.out)); (case side4 => exact HC1_2.out); rintro e w20 ⟨rfl, hb⟩; refine ⟨_, rfl, ?_⟩; replace BK101 := am (qab (au1 BK101.out) hb); replace BK102 := am (qab (au1 BK102.out) hb); replace HB := am (qad (au4 HB.out GE101.out GE102.out) hb); (try clear hb); (try clear hb2); (try clear hk); (try clear hi)))
    go_ret
    exact ⟨by first | rfl | (simp [qag, qah] <;> rfl) | (simp [*, qag, qah] <;> rfl), (au4 HB.out GE101.out GE102.out)⟩
   ·
    replace c8 := Bool.eq_false_iff.mpr c8
    subst c8
    have H1 : (none) = some r := by rw [if_neg (show ¬ (false = true) by decide)] at H; exact H
    clear H
    have H := H1
    clear H1
    exact absurd H (by simp)
  ·
   replace c6 := Bool.eq_false_iff.mpr c6
   subst c6
   have H1 : (none) = some r := by rw [if_neg (show ¬ (false = true) by decide)] at H; exact H
   clear H
   have H := H1
   clear H1
   exact absurd H (by simp)
 ·
  replace c4 := Bool.eq_false_iff.mpr c4
  subst c4
  have H1 : (none) = some r := by rw [if_neg (show ¬ (false = true) by decide)] at H; exact H
  clear H
  have H := H1
  clear H1
  exact absurd H (by simp)

end

end Go.Proofs.Ytfjoamlgbegpgaa.Q
