/- Part 4 of what the row of FnExactReplace needs: functions of the program as plain Lean functions, their contracts, and lemmas; made by a program of this session out of its texts. -/
import Derived.Deep.Slices
import Derived.ChangeArms
import Derived.DataReads
import Derived.DataElems
import Derived.Test.YtfjoamlgbegpgaaCFnExactReplace0
import Derived.Test.YtfjoamlgbegpgaaCFnExactReplace1
import Derived.Test.YtfjoamlgbegpgaaCFnExactReplace2
import Derived.Test.YtfjoamlgbegpgaaCFnExactReplace3
namespace Go.Proofs.Ytfjoamlgbegpgaa.Q
open Go.RowKit Go.Proofs.YtfjoamlgbegpgaaW.PrintWords Go.Proofs.YtfjoamlgbegpgaaW.PrintLast Go.Proofs.YtfjoamlgbegpgaaW.PrintMore
attribute [local go_sem] max2_int min2_int max_two min_two max_three min_three max_four min_four   -- for this text's walks alone
set_option linter.unusedVariables false
set_option linter.unusedSimpArgs false
section
mutual
def laws_FnExactReplace.j0 : Nat → ByteArray → ByteArray → Int → Int → Bool → List (S106) → List (S106) → List (S108) → List (S80) → List (S80) → List (S73) → List (S80) → List (S80) → List (S73) → List (S80) → List (S80) → List (S73) → Option (Bool)
 | 0, _, _, _, _, _, _, _, _, _, _, _, _, _, _, _, _, _ => none
 | k + 1, x1, x2, x9, x12, x54, x102000, x102001, x102002, x123000, x123001, x123002, x133000, x133001, x133002, x144000, x144001, x144002 => if x54 = true then (some false) else ((laws_toDisk.f k x102000 x102001 x102002).bind fun bt145 => ((laws_eqDisk.f k x133000 x133001 x133002 bt145.1 bt145.2.1 bt145.2.2).bind fun t154 => (if t154 = true then ((laws_markDisk.f k x133000 x133001 x133002 1).bind fun bt155 => (if bt155.1 < 0 then (laws_FnExactReplace.j1 k x1 x2 x9 true x102000 x102001 x102002 x123000 x123001 x123002 x144000 x144001 x144002) else ((laws_eqDisk.f k x144000 x144001 x144002 x123000 x123001 x123002).bind fun t159 => (if t159 = true then (laws_FnExactReplace.j1 k x1 x2 x9 (x12 != x9) x102000 x102001 x102002 x123000 x123001 x123002 x144000 x144001 x144002) else (laws_FnExactReplace.j1 k x1 x2 x9 true x102000 x102001 x102002 x123000 x123001 x123002 x144000 x144001 x144002))))) else (some false))))
def laws_FnExactReplace.j1 : Nat → ByteArray → ByteArray → Int → Bool → List (S106) → List (S106) → List (S108) → List (S80) → List (S80) → List (S73) → List (S80) → List (S80) → List (S73) → Option (Bool)
 | 0, _, _, _, _, _, _, _, _, _, _, _, _, _ => none
 | k + 1, x1, x2, x9, x75, x102000, x102001, x102002, x123000, x123001, x123002, x144000, x144001, x144002 => if x75 = true then (some false) else ((laws_markDisk.f k x144000 x144001 x144002 1).bind fun bt160 => ((laws_heldDisk.f k bt160.2.1 bt160.2.2.1 bt160.2.2.2 1).bind fun t164 => (if t164 < 0 then (some false) else (if t164 = bt160.1 then ((laws_toDisk.f k x102000 x102001 x102002).bind fun bt165 => ((impl_Replace.f k bt165.1 bt165.2.1 bt165.2.2 x1 x2).bind fun bt174 => ((laws_eqDisk.f k bt174.1 bt174.2.1 bt174.2.2.1 x123000 x123001 x123002).bind fun t185 => (if t185 = true then (laws_FnExactReplace.j2 k bt160.1 (bt174.2.2.2 != x9) bt160.2.1 bt160.2.2.1 bt160.2.2.2) else (laws_FnExactReplace.j2 k bt160.1 true bt160.2.1 bt160.2.2.1 bt160.2.2.2))))) else (some false)))))
def laws_FnExactReplace.j2 : Nat → Int → Bool → List (S80) → List (S80) → List (S73) → Option (Bool)
 | 0, _, _, _, _, _ => none
 | k + 1, x14, x103, x144000, x144001, x144002 => if x103 = true then (some false) else ((laws_heldDisk.f k x144000 x144001 x144002 1).bind fun t186 => (if t186 < 0 then (some false) else (if t186 = x14 then (some true) else (some false))))
end
def laws_FnExactReplace.f (k : Nat) (l0_0 : List (S106)) (l0_1 : List (S106)) (l0_2 : List (S108)) (a1 : ByteArray) (a2 : ByteArray) : Option (Bool) := if (a1.size : Int) > 1048576 then (some true) else (if (a2.size : Int) > 1048576 then (some true) else ((laws_szDisk.f k l0_0 l0_1 l0_2 1048576).bind fun t102 => (if t102 < 0 then (some true) else ((laws_toDisk.f k l0_0 l0_1 l0_2).bind fun bt103 => ((spec_Replace.f k bt103.1 bt103.2.1 bt103.2.2 a1 a2).bind fun bt112 => ((laws_toDisk.f k l0_0 l0_1 l0_2).bind fun bt123 => ((impl_Replace.f k bt123.1 bt123.2.1 bt123.2.2 a1 a2).bind fun bt133 => ((laws_eqDisk.f k bt133.1 bt133.2.1 bt133.2.2.1 bt112.1 bt112.2.1 bt112.2.2.1).bind fun t144 => (if t144 = true then (laws_FnExactReplace.j0 k a1 a2 bt112.2.2.2 bt133.2.2.2 (bt133.2.2.2 != bt112.2.2.2) l0_0 l0_1 l0_2 bt112.1 bt112.2.1 bt112.2.2.1 bt123.1 bt123.2.1 bt123.2.2 bt133.1 bt133.2.1 bt133.2.2.1) else (laws_FnExactReplace.j0 k a1 a2 bt112.2.2.2 bt133.2.2.2 true l0_0 l0_1 l0_2 bt112.1 bt112.2.1 bt112.2.2.1 bt123.1 bt123.2.1 bt123.2.2 bt133.1 bt133.2.1 bt133.2.2.1))))))))))
theorem laws_FnExactReplace.mono_l : ∀ k, (∀ y0 y1 y2 y3 y4 y5 y6 y7 y8 y9 y10 y11 y12 y13 y14 y15 y16, LeO (laws_FnExactReplace.j0 k y0 y1 y2 y3 y4 y5 y6 y7 y8 y9 y10 y11 y12 y13 y14 y15 y16) (laws_FnExactReplace.j0 (k + 1) y0 y1 y2 y3 y4 y5 y6 y7 y8 y9 y10 y11 y12 y13 y14 y15 y16)) ∧ (∀ y0 y1 y2 y3 y4 y5 y6 y7 y8 y9 y10 y11 y12, LeO (laws_FnExactReplace.j1 k y0 y1 y2 y3 y4 y5 y6 y7 y8 y9 y10 y11 y12) (laws_FnExactReplace.j1 (k + 1) y0 y1 y2 y3 y4 y5 y6 y7 y8 y9 y10 y11 y12)) ∧ (∀ y0 y1 y2 y3 y4, LeO (laws_FnExactReplace.j2 k y0 y1 y2 y3 y4) (laws_FnExactReplace.j2 (k + 1) y0 y1 y2 y3 y4))
 | 0 => ⟨fun _ _ _ _ _ _ _ _ _ _ _ _ _ _ _ _ _ r h => by simp [laws_FnExactReplace.j0] at h, fun _ _ _ _ _ _ _ _ _ _ _ _ _ r h => by simp [laws_FnExactReplace.j1] at h, fun _ _ _ _ _ r h => by simp [laws_FnExactReplace.j2] at h⟩
 | k + 1 => by
  obtain ⟨ih0, ih1, ih2⟩ := laws_FnExactReplace.mono_l k
  refine ⟨?_, ?_, ?_⟩
  ·
   intro y0 y1 y2 y3 y4 y5 y6 y7 y8 y9 y10 y11 y12 y13 y14 y15 y16
   unfold laws_FnExactReplace.j0
   repeat' first
   | (with_reducible exact ih0 _ _ _ _ _ _ _ _ _ _ _ _ _ _ _ _ _)
   | (with_reducible exact ih1 _ _ _ _ _ _ _ _ _ _ _ _ _)
   | (with_reducible exact ih2 _ _ _ _ _)
   | (with_reducible exact impl_Replace.mono _ _ _ _ _ _)
   | (with_reducible exact laws_eqDisk.mono _ _ _ _ _ _ _)
   | (with_reducible exact laws_heldDisk.mono _ _ _ _ _)
   | (with_reducible exact laws_markDisk.mono _ _ _ _ _)
   | (with_reducible exact laws_szDisk.mono _ _ _ _ _)
   | (with_reducible exact laws_toDisk.mono _ _ _ _)
   | (with_reducible exact spec_Replace.mono _ _ _ _ _ _)
   | (with_reducible exact LeO.refl _)
   | (with_reducible exact LeO.none _)
   | (with_reducible refine LeO.ite ?_ ?_)
   | (with_reducible refine LeO.bind ?_ (fun _ => ?_))
   | exact ih0 _ _ _ _ _ _ _ _ _ _ _ _ _ _ _ _ _
   | exact ih1 _ _ _ _ _ _ _ _ _ _ _ _ _
   | exact ih2 _ _ _ _ _
   | exact impl_Replace.mono _ _ _ _ _ _
   | exact laws_eqDisk.mono _ _ _ _ _ _ _
   | exact laws_heldDisk.mono _ _ _ _ _
   | exact laws_markDisk.mono _ _ _ _ _
   | exact laws_szDisk.mono _ _ _ _ _
   | exact laws_toDisk.mono _ _ _ _
   | exact spec_Replace.mono _ _ _ _ _ _
   | exact LeO.none _
   | refine LeO.ite ?_ ?_
   | refine LeO.bind ?_ (fun _ => ?_)
  ·
   intro y0 y1 y2 y3 y4 y5 y6 y7 y8 y9 y10 y11 y12
   unfold laws_FnExactReplace.j1
   repeat' first
   | (with_reducible exact ih0 _ _ _ _ _ _ _ _ _ _ _ _ _ _ _ _ _)
   | (with_reducible exact ih1 _ _ _ _ _ _ _ _ _ _ _ _ _)
   | (with_reducible exact ih2 _ _ _ _ _)
   | (with_reducible exact impl_Replace.mono _ _ _ _ _ _)
   | (with_reducible exact laws_eqDisk.mono _ _ _ _ _ _ _)
   | (with_reducible exact laws_heldDisk.mono _ _ _ _ _)
   | (with_reducible exact laws_markDisk.mono _ _ _ _ _)
   | (with_reducible exact laws_szDisk.mono _ _ _ _ _)
   | (with_reducible exact laws_toDisk.mono _ _ _ _)
   | (with_reducible exact spec_Replace.mono _ _ _ _ _ _)
   | (with_reducible exact LeO.refl _)
   | (with_reducible exact LeO.none _)
   | (with_reducible refine LeO.ite ?_ ?_)
   | (with_reducible refine LeO.bind ?_ (fun _ => ?_))
   | exact ih0 _ _ _ _ _ _ _ _ _ _ _ _ _ _ _ _ _
   | exact ih1 _ _ _ _ _ _ _ _ _ _ _ _ _
   | exact ih2 _ _ _ _ _
   | exact impl_Replace.mono _ _ _ _ _ _
   | exact laws_eqDisk.mono _ _ _ _ _ _ _
   | exact laws_heldDisk.mono _ _ _ _ _
   | exact laws_markDisk.mono _ _ _ _ _
   | exact laws_szDisk.mono _ _ _ _ _
   | exact laws_toDisk.mono _ _ _ _
   | exact spec_Replace.mono _ _ _ _ _ _
   | exact LeO.none _
   | refine LeO.ite ?_ ?_
   | refine LeO.bind ?_ (fun _ => ?_)
  ·
   intro y0 y1 y2 y3 y4
   unfold laws_FnExactReplace.j2
   repeat' first
   | (with_reducible exact ih0 _ _ _ _ _ _ _ _ _ _ _ _ _ _ _ _ _)
   | (with_reducible exact ih1 _ _ _ _ _ _ _ _ _ _ _ _ _)
   | (with_reducible exact ih2 _ _ _ _ _)
   | (with_reducible exact impl_Replace.mono _ _ _ _ _ _)
   | (with_reducible exact laws_eqDisk.mono _ _ _ _ _ _ _)
   | (with_reducible exact laws_heldDisk.mono _ _ _ _ _)
   | (with_reducible exact laws_markDisk.mono _ _ _ _ _)
   | (with_reducible exact laws_szDisk.mono _ _ _ _ _)
   | (with_reducible exact laws_toDisk.mono _ _ _ _)
   | (with_reducible exact spec_Replace.mono _ _ _ _ _ _)
   | (with_reducible exact LeO.refl _)
   | (with_reducible exact LeO.none _)
   | (with_reducible refine LeO.ite ?_ ?_)
   | (with_reducible refine LeO.bind ?_ (fun _ => ?_))
   | exact ih0 _ _ _ _ _ _ _ _ _ _ _ _ _ _ _ _ _
   | exact ih1 _ _ _ _ _ _ _ _ _ _ _ _ _
   | exact ih2 _ _ _ _ _
   | exact impl_Replace.mono _ _ _ _ _ _
   | exact laws_eqDisk.mono _ _ _ _ _ _ _
   | exact laws_heldDisk.mono _ _ _ _ _
   | exact laws_markDisk.mono _ _ _ _ _
   | exact laws_szDisk.mono _ _ _ _ _
   | exact laws_toDisk.mono _ _ _ _
   | exact spec_Replace.mono _ _ _ _ _ _
   | exact LeO.none _
   | refine LeO.ite ?_ ?_
   | refine LeO.bind ?_ (fun _ => ?_)
theorem laws_FnExactReplace.mono : ∀ a0 a1 a2 a3 a4 k, LeO (laws_FnExactReplace.f k a0 a1 a2 a3 a4) (laws_FnExactReplace.f (k + 1) a0 a1 a2 a3 a4) := by
 intro a0 a1 a2 a3 a4 k
 obtain ⟨ih0, ih1, ih2⟩ := laws_FnExactReplace.mono_l k
 unfold laws_FnExactReplace.f
 repeat' first
  | (with_reducible exact ih0 _ _ _ _ _ _ _ _ _ _ _ _ _ _ _ _ _)
  | (with_reducible exact ih1 _ _ _ _ _ _ _ _ _ _ _ _ _)
  | (with_reducible exact ih2 _ _ _ _ _)
  | (with_reducible exact impl_Replace.mono _ _ _ _ _ _)
  | (with_reducible exact laws_eqDisk.mono _ _ _ _ _ _ _)
  | (with_reducible exact laws_heldDisk.mono _ _ _ _ _)
  | (with_reducible exact laws_markDisk.mono _ _ _ _ _)
  | (with_reducible exact laws_szDisk.mono _ _ _ _ _)
  | (with_reducible exact laws_toDisk.mono _ _ _ _)
  | (with_reducible exact spec_Replace.mono _ _ _ _ _ _)
  | (with_reducible exact LeO.refl _)
  | (with_reducible exact LeO.none _)
  | (with_reducible refine LeO.ite ?_ ?_)
  | (with_reducible refine LeO.bind ?_ (fun _ => ?_))
  | exact ih0 _ _ _ _ _ _ _ _ _ _ _ _ _ _ _ _ _
  | exact ih1 _ _ _ _ _ _ _ _ _ _ _ _ _
  | exact ih2 _ _ _ _ _
  | exact impl_Replace.mono _ _ _ _ _ _
  | exact laws_eqDisk.mono _ _ _ _ _ _ _
  | exact laws_heldDisk.mono _ _ _ _ _
  | exact laws_markDisk.mono _ _ _ _ _
  | exact laws_szDisk.mono _ _ _ _ _
  | exact laws_toDisk.mono _ _ _ _
  | exact spec_Replace.mono _ _ _ _ _ _
  | exact LeO.none _
  | refine LeO.ite ?_ ?_
  | refine LeO.bind ?_ (fun _ => ?_)
set_option maxHeartbeats 8000000 in
set_option maxRecDepth 100000 in
theorem laws_FnExactReplace.calls (k : Nat) (A0_0 : Option Addr) (c0_0 : Nat) (l0_0 : List (S106)) (A0_1 : Option Addr) (c0_1 : Nat) (l0_1 : List (S106)) (A0_2 : Option Addr) (c0_2 : Nat) (l0_2 : List (S108)) (a1 : ByteArray) (a2 : ByteArray) (w : World) (hr0_0 : Kd.C k106 w A0_0 l0_0.length l0_0) (hc0_0 : l0_0.length ≤ c0_0) (hr0_1 : Kd.C k106 w A0_1 l0_1.length l0_1) (hc0_1 : l0_1.length ≤ c0_1) (hr0_2 : Kd.C k108 w A0_2 l0_2.length l0_2) (hc0_2 : l0_2.length ≤ c0_2) (h : laws_FnExactReplace.f k l0_0 l0_1 l0_2 a1 a2 = some true) :
 Calls Try.prog 9 #[.agg #[.slice A0_0 l0_0.length c0_0, .slice A0_1 l0_1.length c0_1, .slice A0_2 l0_2.length c0_2], .string a1, .string a2] w fun e w' => e = .returned (.bool true) ∧ Below w.heap.size w w' := by
 have hu25 := Try.underlying25
 have hu31 := Try.underlying31
 have HR0_0 := am hr0_0
 have HC0_0 := am hc0_0
 clear hr0_0 hc0_0
 have HR0_1 := am hr0_1
 have HC0_1 := am hc0_1
 clear hr0_1 hc0_1
 have HR0_2 := am hr0_2
 have HC0_2 := am hc0_2
 clear hr0_2 hc0_2
 have HB := am (Below.refl w.heap.size w)
 have H : (if (a1.size : Int) > 1048576 then (some true) else (if (a2.size : Int) > 1048576 then (some true) else ((laws_szDisk.f k l0_0 l0_1 l0_2 1048576).bind fun t102 => (if t102 < 0 then (some true) else ((laws_toDisk.f k l0_0 l0_1 l0_2).bind fun bt103 => ((spec_Replace.f k bt103.1 bt103.2.1 bt103.2.2 a1 a2).bind fun bt112 => ((laws_toDisk.f k l0_0 l0_1 l0_2).bind fun bt123 => ((impl_Replace.f k bt123.1 bt123.2.1 bt123.2.2 a1 a2).bind fun bt133 => ((laws_eqDisk.f k bt133.1 bt133.2.1 bt133.2.2.1 bt112.1 bt112.2.1 bt112.2.2.1).bind fun t144 => (if t144 = true then (laws_FnExactReplace.j0 k a1 a2 bt112.2.2.2 bt133.2.2.2 (bt133.2.2.2 != bt112.2.2.2) l0_0 l0_1 l0_2 bt112.1 bt112.2.1 bt112.2.2.1 bt123.1 bt123.2.1 bt123.2.2 bt133.1 bt133.2.1 bt133.2.2.1) else (laws_FnExactReplace.j0 k a1 a2 bt112.2.2.2 bt133.2.2.2 true l0_0 l0_1 l0_2 bt112.1 bt112.2.1 bt112.2.2.1 bt123.1 bt123.2.1 bt123.2.2 bt133.1 bt133.2.1 bt133.2.2.1))))))))))) = some true := h
 clear h
 by_cases c4 : (a1.size : Int) > 1048576
 ·
  rw [if_pos c4] at H
  have c4b0 : decide (1048576 < (a1.size : Int)) = true := decide_eq_true c4
  have c4b1 : decide (1048576 < a1.size) = true := decide_eq_true (by omega)
  clear c4
  clear H
  go_enter Try.func9, Try.ntmps9
  go_wp2_with (first | ((with_reducible refine qal (N := 3) rfl ?_); refine bxE (N := 3) (cs := #[.slice A0_0 l0_0.length c0_0, .slice A0_1 l0_1.length c0_1, .slice A0_2 l0_2.length c0_2]) (t := 25) ?_; intro gb101 hg w5 hbox hb; have BK101 := am (hbox); have GW101 := am (sgE hg (au3 HB.out) : w.heap.size ≤ gb101); have GE101 := GW101; replace HB := am (qad (au3 HB.out) hb); clear hb hbox hg))
  go_ret
  exact ⟨by first | rfl | (simp [qag, qah] <;> rfl) | (simp [*, qag, qah] <;> rfl), (au7 HB.out GE101.out)⟩
 ·
  rw [if_neg c4] at H
  have c4b0 : decide (1048576 < (a1.size : Int)) = false := decide_eq_false c4
  have c4b1 : decide (1048576 < a1.size) = false := decide_eq_false (by omega)
  clear c4
  by_cases c6 : (a2.size : Int) > 1048576
  ·
   rw [if_pos c6] at H
   have c6b0 : decide (1048576 < (a2.size : Int)) = true := decide_eq_true c6
   have c6b1 : decide (1048576 < a2.size) = true := decide_eq_true (by omega)
   clear c6
   clear H
   go_enter Try.func9, Try.ntmps9
   go_wp2_with (first | ((with_reducible refine qal (N := 3) rfl ?_); refine bxE (N := 3) (cs := #[.slice A0_0 l0_0.length c0_0, .slice A0_1 l0_1.length c0_1, .slice A0_2 l0_2.length c0_2]) (t := 25) ?_; intro gb101 hg w7 hbox hb; have BK101 := am (hbox); have GW101 := am (sgE hg (au3 HB.out) : w.heap.size ≤ gb101); have GE101 := GW101; replace HB := am (qad (au3 HB.out) hb); clear hb hbox hg))
   go_ret
   exact ⟨by first | rfl | (simp [qag, qah] <;> rfl) | (simp [*, qag, qah] <;> rfl), (au7 HB.out GE101.out)⟩
  ·
   rw [if_neg c6] at H
   have c6b0 : decide (1048576 < (a2.size : Int)) = false := decide_eq_false c6
   have c6b1 : decide (1048576 < a2.size) = false := decide_eq_false (by omega)
   clear c6
   replace H := Option.bind_eq_some_iff.mp H
   obtain ⟨t102, A80, H⟩ := H
   replace H : (if t102 < 0 then (some true) else ((laws_toDisk.f k l0_0 l0_1 l0_2).bind fun bt103 => ((spec_Replace.f k bt103.1 bt103.2.1 bt103.2.2 a1 a2).bind fun bt112 => ((laws_toDisk.f k l0_0 l0_1 l0_2).bind fun bt123 => ((impl_Replace.f k bt123.1 bt123.2.1 bt123.2.2 a1 a2).bind fun bt133 => ((laws_eqDisk.f k bt133.1 bt133.2.1 bt133.2.2.1 bt112.1 bt112.2.1 bt112.2.2.1).bind fun t144 => (if t144 = true then (laws_FnExactReplace.j0 k a1 a2 bt112.2.2.2 bt133.2.2.2 (bt133.2.2.2 != bt112.2.2.2) l0_0 l0_1 l0_2 bt112.1 bt112.2.1 bt112.2.2.1 bt123.1 bt123.2.1 bt123.2.2 bt133.1 bt133.2.1 bt133.2.2.1) else (laws_FnExactReplace.j0 k a1 a2 bt112.2.2.2 bt133.2.2.2 true l0_0 l0_1 l0_2 bt112.1 bt112.2.1 bt112.2.2.1 bt123.1 bt123.2.1 bt123.2.2 bt133.1 bt133.2.1 bt133.2.2.1)))))))) = some true := H
   have A8 := am A80
   clear A80
   by_cases c9 : t102 < 0
   ·
    rw [if_pos c9] at H
    have c9b0 : decide (t102 < 0) = true := decide_eq_true c9
    clear c9
    clear H
    go_enter Try.func9, Try.ntmps9
    go_wp2_with (first | ((with_reducible refine qal (N := 3) rfl ?_); refine bxE (N := 3) (cs := #[.slice A0_0 l0_0.length c0_0, .slice A0_1 l0_1.length c0_1, .slice A0_2 l0_2.length c0_2]) (t := 25) ?_; intro gb101 hg w10 hbox hb; have BK101 := am (hbox); have GW101 := am (sgE hg (au3 HB.out) : w.heap.size ≤ gb101); have GE101 := GW101; replace HB := am (qad (au3 HB.out) hb); clear hb hbox hg; have hcz11_0 : _ = some (Value.slice A0_0 l0_0.length c0_0) := bcE BK101.out 0; have hcz11_1 : _ = some (Value.slice A0_1 l0_1.length c0_1) := bcE BK101.out 1; have hcz11_2 : _ = some (Value.slice A0_2 l0_2.length c0_2) := bcE BK101.out 2; have hfz11_0 := qaa BK101.out 0; have hfz11_1 := qaa BK101.out 1; have hfz11_2 := qaa BK101.out 2) | ((with_reducible refine qaj (f := 12) rfl ?_); refine qap (some 26) rfl rfl Try.func12 (by kernel_rfl) rfl #[.agg #[.slice A0_0 l0_0.length c0_0, .slice A0_1 l0_1.length c0_1, .slice A0_2 l0_2.length c0_2], .int .i64 1048576] rfl au6 ?_; (with_reducible refine (laws_szDisk.calls k _ _ l0_0 _ _ l0_1 _ _ l0_2 1048576 t102 _ ?side1 ?side2 ?side3 ?side4 ?side5 ?side6 A8.out).mono ?_); (case side1 => exact scE (Kd.C_below HR0_0.out HB.out)); (case side2 => exact HC0_0.out); (case side3 => exact scE (Kd.C_below HR0_1.out HB.out)); (case side4 => exact HC0_1.out); (case side5 => exact scE (Kd.C_below HR0_2.out HB.out)); (case side6 => exact HC0_2.out); rintro e w12 ⟨rfl, hb⟩; refine ⟨_, rfl, ?_⟩; replace BK101 := am (qab (au1 BK101.out) hb); replace HB := am (qad (au7 HB.out GE101.out) hb); (try clear hb); (try clear hb2); (try clear hk); (try clear hi)))
    go_ret
    exact ⟨by first | rfl | (simp [qag, qah] <;> rfl) | (simp [*, qag, qah] <;> rfl), (au7 HB.out GE101.out)⟩
   ·
    rw [if_neg c9] at H
    have c9b0 : decide (t102 < 0) = false := decide_eq_false c9
    clear c9
    replace H := Option.bind_eq_some_iff.mp H
    obtain ⟨⟨t103, t106, t109⟩, A130, H⟩ := H
    replace H : ((spec_Replace.f k t103 t106 t109 a1 a2).bind fun bt112 => ((laws_toDisk.f k l0_0 l0_1 l0_2).bind fun bt123 => ((impl_Replace.f k bt123.1 bt123.2.1 bt123.2.2 a1 a2).bind fun bt133 => ((laws_eqDisk.f k bt133.1 bt133.2.1 bt133.2.2.1 bt112.1 bt112.2.1 bt112.2.2.1).bind fun t144 => (if t144 = true then (laws_FnExactReplace.j0 k a1 a2 bt112.2.2.2 bt133.2.2.2 (bt133.2.2.2 != bt112.2.2.2) l0_0 l0_1 l0_2 bt112.1 bt112.2.1 bt112.2.2.1 bt123.1 bt123.2.1 bt123.2.2 bt133.1 bt133.2.1 bt133.2.2.1) else (laws_FnExactReplace.j0 k a1 a2 bt112.2.2.2 bt133.2.2.2 true l0_0 l0_1 l0_2 bt112.1 bt112.2.1 bt112.2.2.1 bt123.1 bt123.2.1 bt123.2.2 bt133.1 bt133.2.1 bt133.2.2.1)))))) = some true := H
    have A13 := am A130
    clear A130
    replace H := Option.bind_eq_some_iff.mp H
    obtain ⟨⟨t112, t115, t118, t121⟩, A140, H⟩ := H
    replace H : ((laws_toDisk.f k l0_0 l0_1 l0_2).bind fun bt123 => ((impl_Replace.f k bt123.1 bt123.2.1 bt123.2.2 a1 a2).bind fun bt133 => ((laws_eqDisk.f k bt133.1 bt133.2.1 bt133.2.2.1 t112 t115 t118).bind fun t144 => (if t144 = true then (laws_FnExactReplace.j0 k a1 a2 t121 bt133.2.2.2 (bt133.2.2.2 != t121) l0_0 l0_1 l0_2 t112 t115 t118 bt123.1 bt123.2.1 bt123.2.2 bt133.1 bt133.2.1 bt133.2.2.1) else (laws_FnExactReplace.j0 k a1 a2 t121 bt133.2.2.2 true l0_0 l0_1 l0_2 t112 t115 t118 bt123.1 bt123.2.1 bt123.2.2 bt133.1 bt133.2.1 bt133.2.2.1))))) = some true := H
    have A14 := am A140
    clear A140
    replace H := Option.bind_eq_some_iff.mp H
    obtain ⟨⟨t123, t126, t129⟩, A150, H⟩ := H
    replace H : ((impl_Replace.f k t123 t126 t129 a1 a2).bind fun bt133 => ((laws_eqDisk.f k bt133.1 bt133.2.1 bt133.2.2.1 t112 t115 t118).bind fun t144 => (if t144 = true then (laws_FnExactReplace.j0 k a1 a2 t121 bt133.2.2.2 (bt133.2.2.2 != t121) l0_0 l0_1 l0_2 t112 t115 t118 t123 t126 t129 bt133.1 bt133.2.1 bt133.2.2.1) else (laws_FnExactReplace.j0 k a1 a2 t121 bt133.2.2.2 true l0_0 l0_1 l0_2 t112 t115 t118 t123 t126 t129 bt133.1 bt133.2.1 bt133.2.2.1)))) = some true := H
    have A15 := am A150
    clear A150
    replace H := Option.bind_eq_some_iff.mp H
    obtain ⟨⟨t133, t136, t139, t142⟩, A160, H⟩ := H
    replace H : ((laws_eqDisk.f k t133 t136 t139 t112 t115 t118).bind fun t144 => (if t144 = true then (laws_FnExactReplace.j0 k a1 a2 t121 t142 (t142 != t121) l0_0 l0_1 l0_2 t112 t115 t118 t123 t126 t129 t133 t136 t139) else (laws_FnExactReplace.j0 k a1 a2 t121 t142 true l0_0 l0_1 l0_2 t112 t115 t118 t123 t126 t129 t133 t136 t139))) = some true := H
    have A16 := am A160
    clear A160
    have HC17 := am H
    clear H
    go_enter Try.func9, Try.ntmps9
    go_upto_region 12 with (first | ((with_reducible refine qal (N := 3) rfl ?_); refine bxE (N := 3) (cs := #[.slice A0_0 l0_0.length c0_0, .slice A0_1 l0_1.length c0_1, .slice A0_2 l0_2.length c0_2]) (t := 25) ?_; intro gb101 hg w18 hbox hb; have BK101 := am (hbox); have GW101 := am (sgE hg (au3 HB.out) : w.heap.size ≤ gb101); have GE101 := GW101; replace HB := am (qad (au3 HB.out) hb); clear hb hbox hg; have hcz19_0 : _ = some (Value.slice A0_0 l0_0.length c0_0) := bcE BK101.out 0; have hcz19_1 : _ = some (Value.slice A0_1 l0_1.length c0_1) := bcE BK101.out 1; have hcz19_2 : _ = some (Value.slice A0_2 l0_2.length c0_2) := bcE BK101.out 2; have hfz19_0 := qaa BK101.out 0; have hfz19_1 := qaa BK101.out 1; have hfz19_2 := qaa BK101.out 2) | ((with_reducible refine qaj (f := 12) rfl ?_); refine qap (some 26) rfl rfl Try.func12 (by kernel_rfl) rfl #[.agg #[.slice A0_0 l0_0.length c0_0, .slice A0_1 l0_1.length c0_1, .slice A0_2 l0_2.length c0_2], .int .i64 1048576] rfl au6 ?_; (with_reducible refine (laws_szDisk.calls k _ _ l0_0 _ _ l0_1 _ _ l0_2 1048576 t102 _ ?side1 ?side2 ?side3 ?side4 ?side5 ?side6 A8.out).mono ?_); (case side1 => exact scE (Kd.C_below HR0_0.out HB.out)); (case side2 => exact HC0_0.out); (case side3 => exact scE (Kd.C_below HR0_1.out HB.out)); (case side4 => exact HC0_1.out); (case side5 => exact scE (Kd.C_below HR0_2.out HB.out)); (case side6 => exact HC0_2.out); rintro e w20 ⟨rfl, hb⟩; refine ⟨_, rfl, ?_⟩; replace BK101 := am (qab (au1 BK101.out) hb); replace HB := am (qad (au7 HB.out GE101.out) hb); (try clear hb); (try clear hb2); (try clear hk); (try clear hi); have hcz21_0 : _ = some (Value.slice A0_0 l0_0.length c0_0) := bcE BK101.out 0; have hcz21_1 : _ = some (Value.slice A0_1 l0_1.length c0_1) := bcE BK101.out 1; have hcz21_2 : _ = some (Value.slice A0_2 l0_2.length c0_2) := bcE BK101.out 2; have hfz21_0 := qaa BK101.out 0; have hfz21_1 := qaa BK101.out 1; have hfz21_2 := qaa BK101.out 2) | ((with_reducible refine qaj (f := 14) rfl ?_); refine qap (some 31) rfl rfl Try.func14 (by kernel_rfl) rfl #[.agg #[.slice A0_0 l0_0.length c0_0, .slice A0_1 l0_1.length c0_1, .slice A0_2 l0_2.length c0_2]] rfl au6 ?_; (with_reducible refine (laws_toDisk.calls k _ _ l0_0 _ _ l0_1 _ _ l0_2 t103 t106 t109 _ ?side1 ?side2 ?side3 ?side4 ?side5 ?side6 A13.out).mono ?_); (case side1 => exact scE (Kd.C_below HR0_0.out HB.out)); (case side2 => exact HC0_0.out); (case side3 => exact scE (Kd.C_below HR0_1.out HB.out)); (case side4 => exact HC0_1.out); (case side5 => exact scE (Kd.C_below HR0_2.out HB.out)); (case side6 => exact HC0_2.out); rintro e w22 ⟨v104, v107, v110, rfl, ho0, ho1, ho2, hb⟩; refine ⟨_, rfl, ?_⟩; have HO105 := am (Kd.R_lower ho0 (qaf (au7 HB.out GE101.out))); have HO108 := am (Kd.R_lower ho1 (qaf (au7 HB.out GE101.out))); have HO111 := am (Kd.R_lower ho2 (qaf (au7 HB.out GE101.out))); replace BK101 := am (qab (au1 BK101.out) hb); replace HB := am (qad (au7 HB.out GE101.out) hb); (try clear hb); (try clear hb2); (try clear hk); (try clear hi); (try clear ho0); (try clear ho1); (try clear ho2); obtain ⟨Ao23, co23, eo23⟩ := Kd.R_slice HO105.out; subst eo23; obtain ⟨Ao24, co24, eo24⟩ := Kd.R_slice HO108.out; subst eo24; obtain ⟨Ao25, co25, eo25⟩ := Kd.R_slice HO111.out; subst eo25) | ((with_reducible refine qaj (f := 26) rfl ?_); refine qap (some 34) rfl rfl Try.func26 (by kernel_rfl) rfl #[.agg #[.slice Ao23 t103.length co23, .slice Ao24 t106.length co24, .slice Ao25 t109.length co25], .string a1, .string a2] rfl au6 ?_; (with_reducible refine (spec_Replace.calls k (fun k_ => some k_ = (.slice Ao23 t103.length co23 : Value).ownBlock) _ _ t103 (fun k_ => some k_ = (.slice Ao24 t106.length co24 : Value).ownBlock) _ _ t106 (fun k_ => some k_ = (.slice Ao25 t109.length co25 : Value).ownBlock) _ _ t109 a1 a2 t112 t115 t118 t121 _ ?side1 ?side2 ?side3 A14.out).mono ?_); (case side1 => exact Kd.R_V (Kd.R_tight rfl (Kd.R_types (Kd.R_apart' (HO105.out) (Kd.R_typed HO111.out) (by decide)) BK101.out (by decide)))); (case side2 => exact Kd.R_V (Kd.R_tight rfl (Kd.R_types (Kd.R_apart' (HO108.out) (Kd.R_typed HO111.out) (by decide)) BK101.out (by decide)))); (case side3 => exact Kd.R_V (Kd.R_tight rfl (Kd.R_types (Kd.R_apart' (Kd.R_apart' (HO111.out) (Kd.R_typed HO105.out) (by decide)) (Kd.R_typed HO108.out) (by decide)) BK101.out (by decide)))); rintro e w26 ⟨v113, v116, v119, rfl, ho0, ho1, ho2, hb⟩; refine ⟨_, rfl, ?_⟩; have HO114 := am (Kd.R_lower (Kd.R_new' (Kd.R_new' (Kd.R_mono (ok' := fun k_ => some k_ ≠ (v116 : Value).ownBlock) ho0 (fun _ hk_ => hk_.2)) (Kd.R_lt (au0 HO105.out))) (Kd.R_lt (au0 HO108.out))) (qaf (au7 HB.out GE101.out))); have HO117 := am (Kd.R_lower (Kd.R_new' (Kd.R_new' (Kd.R_mono (ok' := fun k_ => some k_ ≠ (v113 : Value).ownBlock) ho1 (fun _ hk_ => hk_.2)) (Kd.R_lt (au0 HO105.out))) (Kd.R_lt (au0 HO108.out))) (qaf (au7 HB.out GE101.out))); replace HO105 := am (Kd.R_mono (Kd.R_told (Kd.R_told (Kd.R_old (au0 HO105.out) hb) (Kd.R_base ho0)) (Kd.R_base ho1)) k1E); replace HO108 := am (Kd.R_mono (Kd.R_told (Kd.R_told (Kd.R_old (au0 HO108.out) hb) (Kd.R_base ho0)) (Kd.R_base ho1)) k1E); have HO120 := am (Kd.R_lower (Kd.R_new' (Kd.R_mono (ok' := fun k_ => True) ho2 (fun _ hk_ => trivial)) (Kd.R_lt (au0 HO111.out))) (qaf (au7 HB.out GE101.out))); replace HO111 := am (Kd.R_elder' (au0 HO111.out) (Kd.R_base ho2) hb); replace BK101 := am (qab (au1 BK101.out) hb); replace HB := am (qad (au7 HB.out GE101.out) hb); (try clear hb); (try clear hb2); (try clear hk); (try clear hi); (try clear ho0); (try clear ho1); (try clear ho2)) | ((with_reducible refine qal (N := 8) rfl ?_); refine bxE (N := 8) (cs := #[.slice none 0 0, .slice none 0 0, .slice none 0 0]) (t := 31) ?_; intro gb122 hg w27 hbox hb; replace HO105 := am (Kd.R_below (au0 HO105.out) hb); replace HO108 := am (Kd.R_below (au0 HO108.out) hb); replace HO111 := am (Kd.R_below (au0 HO111.out) hb); replace HO114 := am (Kd.R_below (au0 HO114.out) hb); replace HO117 := am (Kd.R_below (au0 HO117.out) hb); replace HO120 := am (Kd.R_below (au0 HO120.out) hb); have BK122 := am (hbox); have GW122 := am (sgE hg (au7 HB.out GE101.out) : w.heap.size ≤ gb122); have GE122 := GW122; replace HB := am (qad (au7 HB.out GE101.out) hb); have NB101_122 := am ((sltE hg (qan (au1 BK101.out)))); have NB122_101 := am ((sgtE hg (qan (au1 BK101.out)))); replace BK101 := am (qab (au1 BK101.out) hb); clear hb hbox hg; obtain ⟨Ao28, co28, eo28⟩ := Kd.R_slice HO114.out; subst eo28; have hnb29 := NB122_101.out; have hnc29 := NB101_122.out; have hcz30_0 : _ = some (Value.slice none 0 0) := bcE BK122.out 0; have hcz30_1 : _ = some (Value.slice none 0 0) := bcE BK122.out 1; have hcz30_2 : _ = some (Value.slice none 0 0) := bcE BK122.out 2; have hfz30_0 := qaa BK122.out 0; have hfz30_1 := qaa BK122.out 1; have hfz30_2 := qaa BK122.out 2; obtain ⟨Ao31, co31, eo31⟩ := Kd.R_slice HO117.out; subst eo31; obtain ⟨Ao32, co32, eo32⟩ := Kd.R_slice HO120.out; subst eo32; have hcz33_0 : _ = some (Value.slice A0_0 l0_0.length c0_0) := bcE BK101.out 0; have hcz33_1 : _ = some (Value.slice A0_1 l0_1.length c0_1) := bcE BK101.out 1; have hcz33_2 : _ = some (Value.slice A0_2 l0_2.length c0_2) := bcE BK101.out 2; have hfz33_0 := qaa BK101.out 0; have hfz33_1 := qaa BK101.out 1; have hfz33_2 := qaa BK101.out 2) | ((with_reducible refine qaj (f := 14) rfl ?_); refine qap (some 38) rfl rfl Try.func14 (by kernel_rfl) rfl #[.agg #[.slice A0_0 l0_0.length c0_0, .slice A0_1 l0_1.length c0_1, .slice A0_2 l0_2.length c0_2]] rfl au6 ?_; (with_reducible refine (laws_toDisk.calls k _ _ l0_0 _ _ l0_1 _ _ l0_2 t123 t126 t129 _ ?side1 ?side2 ?side3 ?side4 ?side5 ?side6 A15.out).mono ?_); (case side1 => exact Kd.C_below HR0_0.out (au4 HB.out GE101.out GE122.out)); (case side2 => exact HC0_0.out); (case side3 => exact Kd.C_below HR0_1.out (au4 HB.out GE101.out GE122.out)); (case side4 => exact HC0_1.out); (case side5 => exact Kd.C_below HR0_2.out (au4 HB.out GE101.out GE122.out)); (case side6 => exact HC0_2.out); rintro e w34 ⟨v124, v127, v130, rfl, ho0, ho1, ho2, hb⟩; refine ⟨_, rfl, ?_⟩; have HO125 := am (Kd.R_lower (Kd.R_new' (Kd.R_new' (Kd.R_new' (Kd.R_new' ho0 (Kd.R_lt (by refine au0 ?_; exact (Kd.R_mono (Kd.R_far (p := ⟨gb122, 2, none⟩) (Kd.R_far (p := ⟨gb122, 1, none⟩) (Kd.R_far (p := ⟨gb122, 0, none⟩) (Kd.R_types HO105.out BK122.out (by decide)) k2E (.slice Ao28 t112.length co28)) k2E (.slice Ao31 t115.length co31)) k2E (.slice Ao32 t118.length co32)) k1E)))) (Kd.R_lt (by refine au0 ?_; exact (Kd.R_mono (Kd.R_far (p := ⟨gb122, 2, none⟩) (Kd.R_far (p := ⟨gb122, 1, none⟩) (Kd.R_far (p := ⟨gb122, 0, none⟩) (Kd.R_types HO108.out BK122.out (by decide)) k2E (.slice Ao28 t112.length co28)) k2E (.slice Ao31 t115.length co31)) k2E (.slice Ao32 t118.length co32)) k1E)))) (Kd.R_lt (by refine au0 ?_; exact (Kd.R_mono (Kd.R_far (p := ⟨gb122, 2, none⟩) (Kd.R_far (p := ⟨gb122, 1, none⟩) (Kd.R_far (p := ⟨gb122, 0, none⟩) (Kd.R_types HO114.out BK122.out (by decide)) k2E (.slice Ao28 t112.length co28)) k2E (.slice Ao31 t115.length co31)) k2E (.slice Ao32 t118.length co32)) k1E)))) (Kd.R_lt (by refine au0 ?_; exact (Kd.R_mono (Kd.R_far (p := ⟨gb122, 2, none⟩) (Kd.R_far (p := ⟨gb122, 1, none⟩) (Kd.R_far (p := ⟨gb122, 0, none⟩) (Kd.R_types HO117.out BK122.out (by decide)) k2E (.slice Ao28 t112.length co28)) k2E (.slice Ao31 t115.length co31)) k2E (.slice Ao32 t118.length co32)) k1E)))) (qaf (au4 HB.out GE101.out GE122.out))); have HO128 := am (Kd.R_lower (Kd.R_new' (Kd.R_new' (Kd.R_new' (Kd.R_new' ho1 (Kd.R_lt (by refine au0 ?_; exact (Kd.R_mono (Kd.R_far (p := ⟨gb122, 2, none⟩) (Kd.R_far (p := ⟨gb122, 1, none⟩) (Kd.R_far (p := ⟨gb122, 0, none⟩) (Kd.R_types HO105.out BK122.out (by decide)) k2E (.slice Ao28 t112.length co28)) k2E (.slice Ao31 t115.length co31)) k2E (.slice Ao32 t118.length co32)) k1E)))) (Kd.R_lt (by refine au0 ?_; exact (Kd.R_mono (Kd.R_far (p := ⟨gb122, 2, none⟩) (Kd.R_far (p := ⟨gb122, 1, none⟩) (Kd.R_far (p := ⟨gb122, 0, none⟩) (Kd.R_types HO108.out BK122.out (by decide)) k2E (.slice Ao28 t112.length co28)) k2E (.slice Ao31 t115.length co31)) k2E (.slice Ao32 t118.length co32)) k1E)))) (Kd.R_lt (by refine au0 ?_; exact (Kd.R_mono (Kd.R_far (p := ⟨gb122, 2, none⟩) (Kd.R_far (p := ⟨gb122, 1, none⟩) (Kd.R_far (p := ⟨gb122, 0, none⟩) (Kd.R_types HO114.out BK122.out (by decide)) k2E (.slice Ao28 t112.length co28)) k2E (.slice Ao31 t115.length co31)) k2E (.slice Ao32 t118.length co32)) k1E)))) (Kd.R_lt (by refine au0 ?_; exact (Kd.R_mono (Kd.R_far (p := ⟨gb122, 2, none⟩) (Kd.R_far (p := ⟨gb122, 1, none⟩) (Kd.R_far (p := ⟨gb122, 0, none⟩) (Kd.R_types HO117.out BK122.out (by decide)) k2E (.slice Ao28 t112.length co28)) k2E (.slice Ao31 t115.length co31)) k2E (.slice Ao32 t118.length co32)) k1E)))) (qaf (au4 HB.out GE101.out GE122.out))); replace HO105 := am (Kd.R_mono (Kd.R_told (Kd.R_told (Kd.R_old (by refine au0 ?_; exact (Kd.R_mono (Kd.R_far (p := ⟨gb122, 2, none⟩) (Kd.R_far (p := ⟨gb122, 1, none⟩) (Kd.R_far (p := ⟨gb122, 0, none⟩) (Kd.R_types HO105.out BK122.out (by decide)) k2E (.slice Ao28 t112.length co28)) k2E (.slice Ao31 t115.length co31)) k2E (.slice Ao32 t118.length co32)) k1E)) hb) (Kd.R_base ho0)) (Kd.R_base ho1)) k1E); replace HO108 := am (Kd.R_mono (Kd.R_told (Kd.R_told (Kd.R_old (by refine au0 ?_; exact (Kd.R_mono (Kd.R_far (p := ⟨gb122, 2, none⟩) (Kd.R_far (p := ⟨gb122, 1, none⟩) (Kd.R_far (p := ⟨gb122, 0, none⟩) (Kd.R_types HO108.out BK122.out (by decide)) k2E (.slice Ao28 t112.length co28)) k2E (.slice Ao31 t115.length co31)) k2E (.slice Ao32 t118.length co32)) k1E)) hb) (Kd.R_base ho0)) (Kd.R_base ho1)) k1E); replace HO114 := am (Kd.R_mono (Kd.R_told (Kd.R_told (Kd.R_old (by refine au0 ?_; exact (Kd.R_mono (Kd.R_far (p := ⟨gb122, 2, none⟩) (Kd.R_far (p := ⟨gb122, 1, none⟩) (Kd.R_far (p := ⟨gb122, 0, none⟩) (Kd.R_types HO114.out BK122.out (by decide)) k2E (.slice Ao28 t112.length co28)) k2E (.slice Ao31 t115.length co31)) k2E (.slice Ao32 t118.length co32)) k1E)) hb) (Kd.R_base ho0)) (Kd.R_base ho1)) k1E); replace HO117 := am (Kd.R_mono (Kd.R_told (Kd.R_told (Kd.R_old (by refine au0 ?_; exact (Kd.R_mono (Kd.R_far (p := ⟨gb122, 2, none⟩) (Kd.R_far (p := ⟨gb122, 1, none⟩) (Kd.R_far (p := ⟨gb122, 0, none⟩) (Kd.R_types HO117.out BK122.out (by decide)) k2E (.slice Ao28 t112.length co28)) k2E (.slice Ao31 t115.length co31)) k2E (.slice Ao32 t118.length co32)) k1E)) hb) (Kd.R_base ho0)) (Kd.R_base ho1)) k1E); have HO131 := am (Kd.R_lower (Kd.R_new' (Kd.R_new' ho2 (Kd.R_lt (by refine au0 ?_; exact (Kd.R_mono (Kd.R_far (p := ⟨gb122, 2, none⟩) (Kd.R_far (p := ⟨gb122, 1, none⟩) (Kd.R_far (p := ⟨gb122, 0, none⟩) (Kd.R_types HO111.out BK122.out (by decide)) k2E (.slice Ao28 t112.length co28)) k2E (.slice Ao31 t115.length co31)) k2E (.slice Ao32 t118.length co32)) k1E)))) (Kd.R_lt (by refine au0 ?_; exact (Kd.R_mono (Kd.R_far (p := ⟨gb122, 2, none⟩) (Kd.R_far (p := ⟨gb122, 1, none⟩) (Kd.R_far (p := ⟨gb122, 0, none⟩) (Kd.R_types HO120.out BK122.out (by decide)) k2E (.slice Ao28 t112.length co28)) k2E (.slice Ao31 t115.length co31)) k2E (.slice Ao32 t118.length co32)) k1E)))) (qaf (au4 HB.out GE101.out GE122.out))); replace HO111 := am (Kd.R_elder' (by refine au0 ?_; exact (Kd.R_mono (Kd.R_far (p := ⟨gb122, 2, none⟩) (Kd.R_far (p := ⟨gb122, 1, none⟩) (Kd.R_far (p := ⟨gb122, 0, none⟩) (Kd.R_types HO111.out BK122.out (by decide)) k2E (.slice Ao28 t112.length co28)) k2E (.slice Ao31 t115.length co31)) k2E (.slice Ao32 t118.length co32)) k1E)) (Kd.R_base ho2) hb); replace HO120 := am (Kd.R_elder' (by refine au0 ?_; exact (Kd.R_mono (Kd.R_far (p := ⟨gb122, 2, none⟩) (Kd.R_far (p := ⟨gb122, 1, none⟩) (Kd.R_far (p := ⟨gb122, 0, none⟩) (Kd.R_types HO120.out BK122.out (by decide)) k2E (.slice Ao28 t112.length co28)) k2E (.slice Ao31 t115.length co31)) k2E (.slice Ao32 t118.length co32)) k1E)) (Kd.R_base ho2) hb); replace BK101 := am (qab (g := gb101) (o := .cells #[.slice A0_0 l0_0.length c0_0, .slice A0_1 l0_1.length c0_1, .slice A0_2 l0_2.length c0_2] 25 (0, 0)) (au14 NB101_122.out BK101.out) hb); replace BK122 := am (qab (g := gb122) (o := .cells #[.slice Ao28 t112.length co28, .slice Ao31 t115.length co31, .slice Ao32 t118.length co32] 31 (0, 0)) (by refine au1 ?_; refine qam (cs := #[.slice Ao28 t112.length co28, .slice Ao31 t115.length co31, .slice none 0 0]) ?_ 2 _ rfl; refine au1 ?_; refine qam (cs := #[.slice Ao28 t112.length co28, .slice none 0 0, .slice none 0 0]) ?_ 1 _ rfl; refine au1 ?_; refine qam (cs := #[.slice none 0 0, .slice none 0 0, .slice none 0 0]) ?_ 0 _ rfl; refine au1 ?_; exact BK122.out) hb); replace HB := am (qad (au4 HB.out GE101.out GE122.out) hb); (try clear hb); (try clear hb2); (try clear hk); (try clear hi); (try clear ho0); (try clear ho1); (try clear ho2)) | ((with_reducible refine qal (N := 10) rfl ?_); refine bxE (N := 10) (cs := #[.slice none 0 0, .slice none 0 0, .slice none 0 0]) (t := 31) ?_; intro gb132 hg w35 hbox hb; replace HO105 := am (Kd.R_below (au0 HO105.out) hb); replace HO108 := am (Kd.R_below (au0 HO108.out) hb); replace HO111 := am (Kd.R_below (au0 HO111.out) hb); replace HO114 := am (Kd.R_below (au0 HO114.out) hb); replace HO117 := am (Kd.R_below (au0 HO117.out) hb); replace HO120 := am (Kd.R_below (au0 HO120.out) hb); replace HO125 := am (Kd.R_below (au0 HO125.out) hb); replace HO128 := am (Kd.R_below (au0 HO128.out) hb); replace HO131 := am (Kd.R_below (au0 HO131.out) hb); have BK132 := am (hbox); have GW132 := am (sgE hg (au4 HB.out GE101.out GE122.out) : w.heap.size ≤ gb132); have GE132 := GW132; replace HB := am (qad (au4 HB.out GE101.out GE122.out) hb); have NB101_132 := am ((sltE hg (qan (au1 BK101.out)))); have NB132_101 := am ((sgtE hg (qan (au1 BK101.out)))); replace BK101 := am (qab (au1 BK101.out) hb); have NB122_132 := am ((sltE hg (qan (au1 BK122.out)))); have NB132_122 := am ((sgtE hg (qan (au1 BK122.out)))); replace BK122 := am (qab (au1 BK122.out) hb); clear hb hbox hg; obtain ⟨Ao36, co36, eo36⟩ := Kd.R_slice HO125.out; subst eo36; have hnb37 := NB132_101.out; have hnc37 := NB101_132.out; have hnb38 := NB132_122.out; have hnc38 := NB122_132.out; have hcz39_0 : _ = some (Value.slice none 0 0) := bcE BK132.out 0; have hcz39_1 : _ = some (Value.slice none 0 0) := bcE BK132.out 1; have hcz39_2 : _ = some (Value.slice none 0 0) := bcE BK132.out 2; have hfz39_0 := qaa BK132.out 0; have hfz39_1 := qaa BK132.out 1; have hfz39_2 := qaa BK132.out 2; obtain ⟨Ao40, co40, eo40⟩ := Kd.R_slice HO128.out; subst eo40; obtain ⟨Ao41, co41, eo41⟩ := Kd.R_slice HO131.out; subst eo41) | ((with_reducible refine qaj (f := 27) rfl ?_); refine qap (some 43) rfl rfl Try.func27 (by kernel_rfl) rfl #[.agg #[.slice Ao36 t123.length co36, .slice Ao40 t126.length co40, .slice Ao41 t129.length co41], .string a1, .string a2] rfl au6 ?_; (with_reducible refine (impl_Replace.calls k _ _ t123 _ _ t126 _ _ t129 a1 a2 t133 t136 t139 t142 _ ?side1 ?side2 ?side3 ?side4 ?side5 ?side6 A16.out).mono ?_); (case side1 => refine (Kd.R_reads' (e := 80) (base := w.heap.size) (ok := fun k_ => ((((some k_ ≠ (.slice Ao40 t126.length co40 : Value).ownBlock ∧ some k_ ≠ (.slice Ao23 t103.length co23 : Value).ownBlock) ∧ some k_ ≠ (.slice Ao24 t106.length co24 : Value).ownBlock) ∧ some k_ ≠ (.slice Ao28 t112.length co28 : Value).ownBlock) ∧ some k_ ≠ (.slice Ao31 t115.length co31 : Value).ownBlock)) (n := t123.length) (c := co36) ?_).2.2; exact (by refine au0 ?_; exact (Kd.R_mono (Kd.R_far (p := ⟨gb132, 2, none⟩) (Kd.R_far (p := ⟨gb132, 1, none⟩) (Kd.R_far (p := ⟨gb132, 0, none⟩) (Kd.R_types HO125.out BK132.out (by decide)) k2E (.slice Ao36 t123.length co36)) k2E (.slice Ao40 t126.length co40)) k2E (.slice Ao41 t129.length co41)) k1E))); (case side2 => exact (Kd.R_reads' HO125.out).2.1); (case side3 => refine (Kd.R_reads' (e := 80) (base := w.heap.size) (ok := fun k_ => ((((some k_ ≠ (.slice Ao36 t123.length co36 : Value).ownBlock ∧ some k_ ≠ (.slice Ao23 t103.length co23 : Value).ownBlock) ∧ some k_ ≠ (.slice Ao24 t106.length co24 : Value).ownBlock) ∧ some k_ ≠ (.slice Ao28 t112.length co28 : Value).ownBlock) ∧ some k_ ≠ (.slice Ao31 t115.length co31 : Value).ownBlock)) (n := t126.length) (c := co40) ?_).2.2; exact (by refine au0 ?_; exact (Kd.R_mono (Kd.R_far (p := ⟨gb132, 2, none⟩) (Kd.R_far (p := ⟨gb132, 1, none⟩) (Kd.R_far (p := ⟨gb132, 0, none⟩) (Kd.R_types HO128.out BK132.out (by decide)) k2E (.slice Ao36 t123.length co36)) k2E (.slice Ao40 t126.length co40)) k2E (.slice Ao41 t129.length co41)) k1E))); (case side4 => exact (Kd.R_reads' HO128.out).2.1); (case side5 => refine (Kd.R_reads' (e := 73) (base := w.heap.size) (ok := fun k_ => ((True ∧ some k_ ≠ (.slice Ao25 t109.length co25 : Value).ownBlock) ∧ some k_ ≠ (.slice Ao32 t118.length co32 : Value).ownBlock)) (n := t129.length) (c := co41) ?_).2.2; exact (by refine au0 ?_; exact (Kd.R_mono (Kd.R_far (p := ⟨gb132, 2, none⟩) (Kd.R_far (p := ⟨gb132, 1, none⟩) (Kd.R_far (p := ⟨gb132, 0, none⟩) (Kd.R_types HO131.out BK132.out (by decide)) k2E (.slice Ao36 t123.length co36)) k2E (.slice Ao40 t126.length co40)) k2E (.slice Ao41 t129.length co41)) k1E))); (case side6 => exact (Kd.R_reads' HO131.out).2.1); rintro e w42 ⟨v134, v137, v140, rfl, ho0, ho1, ho2, hb⟩; refine ⟨_, rfl, ?_⟩; have HO135 := am (Kd.R_lower (Kd.R_new' (Kd.R_new' (Kd.R_new' (Kd.R_new' (Kd.R_new' (Kd.R_new' ho0 (Kd.R_lt (by refine au0 ?_; exact (Kd.R_mono (Kd.R_far (p := ⟨gb132, 2, none⟩) (Kd.R_far (p := ⟨gb132, 1, none⟩) (Kd.R_far (p := ⟨gb132, 0, none⟩) (Kd.R_types HO105.out BK132.out (by decide)) k2E (.slice Ao36 t123.length co36)) k2E (.slice Ao40 t126.length co40)) k2E (.slice Ao41 t129.length co41)) k1E)))) (Kd.R_lt (by refine au0 ?_; exact (Kd.R_mono (Kd.R_far (p := ⟨gb132, 2, none⟩) (Kd.R_far (p := ⟨gb132, 1, none⟩) (Kd.R_far (p := ⟨gb132, 0, none⟩) (Kd.R_types HO108.out BK132.out (by decide)) k2E (.slice Ao36 t123.length co36)) k2E (.slice Ao40 t126.length co40)) k2E (.slice Ao41 t129.length co41)) k1E)))) (Kd.R_lt (by refine au0 ?_; exact (Kd.R_mono (Kd.R_far (p := ⟨gb132, 2, none⟩) (Kd.R_far (p := ⟨gb132, 1, none⟩) (Kd.R_far (p := ⟨gb132, 0, none⟩) (Kd.R_types HO114.out BK132.out (by decide)) k2E (.slice Ao36 t123.length co36)) k2E (.slice Ao40 t126.length co40)) k2E (.slice Ao41 t129.length co41)) k1E)))) (Kd.R_lt (by refine au0 ?_; exact (Kd.R_mono (Kd.R_far (p := ⟨gb132, 2, none⟩) (Kd.R_far (p := ⟨gb132, 1, none⟩) (Kd.R_far (p := ⟨gb132, 0, none⟩) (Kd.R_types HO117.out BK132.out (by decide)) k2E (.slice Ao36 t123.length co36)) k2E (.slice Ao40 t126.length co40)) k2E (.slice Ao41 t129.length co41)) k1E)))) (Kd.R_lt (by refine au0 ?_; exact (Kd.R_mono (Kd.R_far (p := ⟨gb132, 2, none⟩) (Kd.R_far (p := ⟨gb132, 1, none⟩) (Kd.R_far (p := ⟨gb132, 0, none⟩) (Kd.R_types HO125.out BK132.out (by decide)) k2E (.slice Ao36 t123.length co36)) k2E (.slice Ao40 t126.length co40)) k2E (.slice Ao41 t129.length co41)) k1E)))) (Kd.R_lt (by refine au0 ?_; exact (Kd.R_mono (Kd.R_far (p := ⟨gb132, 2, none⟩) (Kd.R_far (p := ⟨gb132, 1, none⟩) (Kd.R_far (p := ⟨gb132, 0, none⟩) (Kd.R_types HO128.out BK132.out (by decide)) k2E (.slice Ao36 t123.length co36)) k2E (.slice Ao40 t126.length co40)) k2E (.slice Ao41 t129.length co41)) k1E)))) (qaf (au11 HB.out GE101.out GE122.out GE132.out))); have HO138 := am (Kd.R_lower (Kd.R_new' (Kd.R_new' (Kd.R_new' (Kd.R_new' (Kd.R_new' (Kd.R_new' ho1 (Kd.R_lt (by refine au0 ?_; exact (Kd.R_mono (Kd.R_far (p := ⟨gb132, 2, none⟩) (Kd.R_far (p := ⟨gb132, 1, none⟩) (Kd.R_far (p := ⟨gb132, 0, none⟩) (Kd.R_types HO105.out BK132.out (by decide)) k2E (.slice Ao36 t123.length co36)) k2E (.slice Ao40 t126.length co40)) k2E (.slice Ao41 t129.length co41)) k1E)))) (Kd.R_lt (by refine au0 ?_; exact (Kd.R_mono (Kd.R_far (p := ⟨gb132, 2, none⟩) (Kd.R_far (p := ⟨gb132, 1, none⟩) (Kd.R_far (p := ⟨gb132, 0, none⟩) (Kd.R_types HO108.out BK132.out (by decide)) k2E (.slice Ao36 t123.length co36)) k2E (.slice Ao40 t126.length co40)) k2E (.slice Ao41 t129.length co41)) k1E)))) (Kd.R_lt (by refine au0 ?_; exact (Kd.R_mono (Kd.R_far (p := ⟨gb132, 2, none⟩) (Kd.R_far (p := ⟨gb132, 1, none⟩) (Kd.R_far (p := ⟨gb132, 0, none⟩) (Kd.R_types HO114.out BK132.out (by decide)) k2E (.slice Ao36 t123.length co36)) k2E (.slice Ao40 t126.length co40)) k2E (.slice Ao41 t129.length co41)) k1E)))) (Kd.R_lt (by refine au0 ?_; exact (Kd.R_mono (Kd.R_far (p := ⟨gb132, 2, none⟩) (Kd.R_far (p := ⟨gb132, 1, none⟩) (Kd.R_far (p := ⟨gb132, 0, none⟩) (Kd.R_types HO117.out BK132.out (by decide)) k2E (.slice Ao36 t123.length co36)) k2E (.slice Ao40 t126.length co40)) k2E (.slice Ao41 t129.length co41)) k1E)))) (Kd.R_lt (by refine au0 ?_; exact (Kd.R_mono (Kd.R_far (p := ⟨gb132, 2, none⟩) (Kd.R_far (p := ⟨gb132, 1, none⟩) (Kd.R_far (p := ⟨gb132, 0, none⟩) (Kd.R_types HO125.out BK132.out (by decide)) k2E (.slice Ao36 t123.length co36)) k2E (.slice Ao40 t126.length co40)) k2E (.slice Ao41 t129.length co41)) k1E)))) (Kd.R_lt (by refine au0 ?_; exact (Kd.R_mono (Kd.R_far (p := ⟨gb132, 2, none⟩) (Kd.R_far (p := ⟨gb132, 1, none⟩) (Kd.R_far (p := ⟨gb132, 0, none⟩) (Kd.R_types HO128.out BK132.out (by decide)) k2E (.slice Ao36 t123.length co36)) k2E (.slice Ao40 t126.length co40)) k2E (.slice Ao41 t129.length co41)) k1E)))) (qaf (au11 HB.out GE101.out GE122.out GE132.out))); replace HO105 := am (Kd.R_mono (Kd.R_told (Kd.R_told (Kd.R_old (by refine au0 ?_; exact (Kd.R_mono (Kd.R_far (p := ⟨gb132, 2, none⟩) (Kd.R_far (p := ⟨gb132, 1, none⟩) (Kd.R_far (p := ⟨gb132, 0, none⟩) (Kd.R_types HO105.out BK132.out (by decide)) k2E (.slice Ao36 t123.length co36)) k2E (.slice Ao40 t126.length co40)) k2E (.slice Ao41 t129.length co41)) k1E)) hb) (Kd.R_base ho0)) (Kd.R_base ho1)) k1E); replace HO108 := am (Kd.R_mono (Kd.R_told (Kd.R_told (Kd.R_old (by refine au0 ?_; exact (Kd.R_mono (Kd.R_far (p := ⟨gb132, 2, none⟩) (Kd.R_far (p := ⟨gb132, 1, none⟩) (Kd.R_far (p := ⟨gb132, 0, none⟩) (Kd.R_types HO108.out BK132.out (by decide)) k2E (.slice Ao36 t123.length co36)) k2E (.slice Ao40 t126.length co40)) k2E (.slice Ao41 t129.length co41)) k1E)) hb) (Kd.R_base ho0)) (Kd.R_base ho1)) k1E); replace HO114 := am (Kd.R_mono (Kd.R_told (Kd.R_told (Kd.R_old (by refine au0 ?_; exact (Kd.R_mono (Kd.R_far (p := ⟨gb132, 2, none⟩) (Kd.R_far (p := ⟨gb132, 1, none⟩) (Kd.R_far (p := ⟨gb132, 0, none⟩) (Kd.R_types HO114.out BK132.out (by decide)) k2E (.slice Ao36 t123.length co36)) k2E (.slice Ao40 t126.length co40)) k2E (.slice Ao41 t129.length co41)) k1E)) hb) (Kd.R_base ho0)) (Kd.R_base ho1)) k1E); replace HO117 := am (Kd.R_mono (Kd.R_told (Kd.R_told (Kd.R_old (by refine au0 ?_; exact (Kd.R_mono (Kd.R_far (p := ⟨gb132, 2, none⟩) (Kd.R_far (p := ⟨gb132, 1, none⟩) (Kd.R_far (p := ⟨gb132, 0, none⟩) (Kd.R_types HO117.out BK132.out (by decide)) k2E (.slice Ao36 t123.length co36)) k2E (.slice Ao40 t126.length co40)) k2E (.slice Ao41 t129.length co41)) k1E)) hb) (Kd.R_base ho0)) (Kd.R_base ho1)) k1E); replace HO125 := am (Kd.R_mono (Kd.R_told (Kd.R_told (Kd.R_old (by refine au0 ?_; exact (Kd.R_mono (Kd.R_far (p := ⟨gb132, 2, none⟩) (Kd.R_far (p := ⟨gb132, 1, none⟩) (Kd.R_far (p := ⟨gb132, 0, none⟩) (Kd.R_types HO125.out BK132.out (by decide)) k2E (.slice Ao36 t123.length co36)) k2E (.slice Ao40 t126.length co40)) k2E (.slice Ao41 t129.length co41)) k1E)) hb) (Kd.R_base ho0)) (Kd.R_base ho1)) k1E); replace HO128 := am (Kd.R_mono (Kd.R_told (Kd.R_told (Kd.R_old (by refine au0 ?_; exact (Kd.R_mono (Kd.R_far (p := ⟨gb132, 2, none⟩) (Kd.R_far (p := ⟨gb132, 1, none⟩) (Kd.R_far (p := ⟨gb132, 0, none⟩) (Kd.R_types HO128.out BK132.out (by decide)) k2E (.slice Ao36 t123.length co36)) k2E (.slice Ao40 t126.length co40)) k2E (.slice Ao41 t129.length co41)) k1E)) hb) (Kd.R_base ho0)) (Kd.R_base ho1)) k1E); have HO141 := am (Kd.R_lower (Kd.R_new' (Kd.R_new' (Kd.R_new' ho2 (Kd.R_lt (by refine au0 ?_; exact (Kd.R_mono (Kd.R_far (p := ⟨gb132, 2, none⟩) (Kd.R_far (p := ⟨gb132, 1, none⟩) (Kd.R_far (p := ⟨gb132, 0, none⟩) (Kd.R_types HO111.out BK132.out (by decide)) k2E (.slice Ao36 t123.length co36)) k2E (.slice Ao40 t126.length co40)) k2E (.slice Ao41 t129.length co41)) k1E)))) (Kd.R_lt (by refine au0 ?_; exact (Kd.R_mono (Kd.R_far (p := ⟨gb132, 2, none⟩) (Kd.R_far (p := ⟨gb132, 1, none⟩) (Kd.R_far (p := ⟨gb132, 0, none⟩) (Kd.R_types HO120.out BK132.out (by decide)) k2E (.slice Ao36 t123.length co36)) k2E (.slice Ao40 t126.length co40)) k2E (.slice Ao41 t129.length co41)) k1E)))) (Kd.R_lt (by refine au0 ?_; exact (Kd.R_mono (Kd.R_far (p := ⟨gb132, 2, none⟩) (Kd.R_far (p := ⟨gb132, 1, none⟩) (Kd.R_far (p := ⟨gb132, 0, none⟩) (Kd.R_types HO131.out BK132.out (by decide)) k2E (.slice Ao36 t123.length co36)) k2E (.slice Ao40 t126.length co40)) k2E (.slice Ao41 t129.length co41)) k1E)))) (qaf (au11 HB.out GE101.out GE122.out GE132.out))); replace HO111 := am (Kd.R_elder' (by refine au0 ?_; exact (Kd.R_mono (Kd.R_far (p := ⟨gb132, 2, none⟩) (Kd.R_far (p := ⟨gb132, 1, none⟩) (Kd.R_far (p := ⟨gb132, 0, none⟩) (Kd.R_types HO111.out BK132.out (by decide)) k2E (.slice Ao36 t123.length co36)) k2E (.slice Ao40 t126.length co40)) k2E (.slice Ao41 t129.length co41)) k1E)) (Kd.R_base ho2) hb); replace HO120 := am (Kd.R_elder' (by refine au0 ?_; exact (Kd.R_mono (Kd.R_far (p := ⟨gb132, 2, none⟩) (Kd.R_far (p := ⟨gb132, 1, none⟩) (Kd.R_far (p := ⟨gb132, 0, none⟩) (Kd.R_types HO120.out BK132.out (by decide)) k2E (.slice Ao36 t123.length co36)) k2E (.slice Ao40 t126.length co40)) k2E (.slice Ao41 t129.length co41)) k1E)) (Kd.R_base ho2) hb); replace HO131 := am (Kd.R_elder' (by refine au0 ?_; exact (Kd.R_mono (Kd.R_far (p := ⟨gb132, 2, none⟩) (Kd.R_far (p := ⟨gb132, 1, none⟩) (Kd.R_far (p := ⟨gb132, 0, none⟩) (Kd.R_types HO131.out BK132.out (by decide)) k2E (.slice Ao36 t123.length co36)) k2E (.slice Ao40 t126.length co40)) k2E (.slice Ao41 t129.length co41)) k1E)) (Kd.R_base ho2) hb); replace BK101 := am (qab (g := gb101) (o := .cells #[.slice A0_0 l0_0.length c0_0, .slice A0_1 l0_1.length c0_1, .slice A0_2 l0_2.length c0_2] 25 (0, 0)) (au14 NB101_132.out BK101.out) hb); replace BK122 := am (qab (g := gb122) (o := .cells #[.slice Ao28 t112.length co28, .slice Ao31 t115.length co31, .slice Ao32 t118.length co32] 31 (0, 0)) (au14 NB122_132.out BK122.out) hb); replace BK132 := am (qab (g := gb132) (o := .cells #[.slice Ao36 t123.length co36, .slice Ao40 t126.length co40, .slice Ao41 t129.length co41] 31 (0, 0)) (by refine au1 ?_; refine qam (cs := #[.slice Ao36 t123.length co36, .slice Ao40 t126.length co40, .slice none 0 0]) ?_ 2 _ rfl; refine au1 ?_; refine qam (cs := #[.slice Ao36 t123.length co36, .slice none 0 0, .slice none 0 0]) ?_ 1 _ rfl; refine au1 ?_; refine qam (cs := #[.slice none 0 0, .slice none 0 0, .slice none 0 0]) ?_ 0 _ rfl; refine au1 ?_; exact BK132.out) hb); replace HB := am (qad (au11 HB.out GE101.out GE122.out GE132.out) hb); (try clear hb); (try clear hb2); (try clear hk); (try clear hi); (try clear ho0); (try clear ho1); (try clear ho2)) | ((with_reducible refine qal (N := 11) rfl ?_); refine bxE (N := 11) (cs := #[.slice none 0 0, .slice none 0 0, .slice none 0 0]) (t := 31) ?_; intro gb143 hg w43 hbox hb; replace HO105 := am (Kd.R_below (au0 HO105.out) hb); replace HO108 := am (Kd.R_below (au0 HO108.out) hb); replace HO111 := am (Kd.R_below (au0 HO111.out) hb); replace HO114 := am (Kd.R_below (au0 HO114.out) hb); replace HO117 := am (Kd.R_below (au0 HO117.out) hb); replace HO120 := am (Kd.R_below (au0 HO120.out) hb); replace HO125 := am (Kd.R_below (au0 HO125.out) hb); replace HO128 := am (Kd.R_below (au0 HO128.out) hb); replace HO131 := am (Kd.R_below (au0 HO131.out) hb); replace HO135 := am (Kd.R_below (au0 HO135.out) hb); replace HO138 := am (Kd.R_below (au0 HO138.out) hb); replace HO141 := am (Kd.R_below (au0 HO141.out) hb); have BK143 := am (hbox); have GW143 := am (sgE hg (au11 HB.out GE101.out GE122.out GE132.out) : w.heap.size ≤ gb143); have GE143 := GW143; replace HB := am (qad (au11 HB.out GE101.out GE122.out GE132.out) hb); have NB101_143 := am ((sltE hg (qan (au1 BK101.out)))); have NB143_101 := am ((sgtE hg (qan (au1 BK101.out)))); replace BK101 := am (qab (au1 BK101.out) hb); have NB122_143 := am ((sltE hg (qan (au1 BK122.out)))); have NB143_122 := am ((sgtE hg (qan (au1 BK122.out)))); replace BK122 := am (qab (au1 BK122.out) hb); have NB132_143 := am ((sltE hg (qan (au1 BK132.out)))); have NB143_132 := am ((sgtE hg (qan (au1 BK132.out)))); replace BK132 := am (qab (au1 BK132.out) hb); clear hb hbox hg; obtain ⟨Ao44, co44, eo44⟩ := Kd.R_slice HO135.out; subst eo44; have hnb45 := NB143_101.out; have hnc45 := NB101_143.out; have hnb46 := NB143_122.out; have hnc46 := NB122_143.out; have hnb47 := NB143_132.out; have hnc47 := NB132_143.out; have hcz48_0 : _ = some (Value.slice none 0 0) := bcE BK143.out 0; have hcz48_1 : _ = some (Value.slice none 0 0) := bcE BK143.out 1; have hcz48_2 : _ = some (Value.slice none 0 0) := bcE BK143.out 2; have hfz48_0 := qaa BK143.out 0; have hfz48_1 := qaa BK143.out 1; have hfz48_2 := qaa BK143.out 2; obtain ⟨Ao49, co49, eo49⟩ := Kd.R_slice HO138.out; subst eo49; obtain ⟨Ao50, co50, eo50⟩ := Kd.R_slice HO141.out; subst eo50))
    (try simp only [Act.put, qsA, qsZ, qsS])
    go_cut [54] (fun v54 wc => ∃ (kq : Nat) (x54_16 : Bool), v54 = .bool x54_16 ∧ Aside0 (laws_FnExactReplace.j0 kq a1 a2 t121 t142 x54_16 l0_0 l0_1 l0_2 t112 t115 t118 t123 t126 t129 t133 t136 t139 = some true) ∧ Aside0 (kq ≤ k) ∧ Aside0 (Kd.R k80 80 wc w.heap.size (fun k_ => some k_ ≠ ((.slice Ao31 t115.length co31) : Value).ownBlock ∧ some k_ ≠ ((.slice Ao36 t123.length co36) : Value).ownBlock ∧ some k_ ≠ ((.slice Ao40 t126.length co40) : Value).ownBlock ∧ some k_ ≠ ((.slice Ao44 t133.length co44) : Value).ownBlock ∧ some k_ ≠ ((.slice Ao49 t136.length co49) : Value).ownBlock) (.slice Ao28 t112.length co28) t112) ∧ Aside0 (Kd.R k80 80 wc w.heap.size (fun k_ => some k_ ≠ ((.slice Ao28 t112.length co28) : Value).ownBlock ∧ some k_ ≠ ((.slice Ao36 t123.length co36) : Value).ownBlock ∧ some k_ ≠ ((.slice Ao40 t126.length co40) : Value).ownBlock ∧ some k_ ≠ ((.slice Ao44 t133.length co44) : Value).ownBlock ∧ some k_ ≠ ((.slice Ao49 t136.length co49) : Value).ownBlock) (.slice Ao31 t115.length co31) t115) ∧ Aside0 (Kd.R k73 73 wc w.heap.size (fun k_ => some k_ ≠ ((.slice Ao41 t129.length co41) : Value).ownBlock ∧ some k_ ≠ ((.slice Ao50 t139.length co50) : Value).ownBlock) (.slice Ao32 t118.length co32) t118) ∧ Aside0 (Kd.R k80 80 wc w.heap.size (fun k_ => some k_ ≠ ((.slice Ao28 t112.length co28) : Value).ownBlock ∧ some k_ ≠ ((.slice Ao31 t115.length co31) : Value).ownBlock ∧ some k_ ≠ ((.slice Ao40 t126.length co40) : Value).ownBlock ∧ some k_ ≠ ((.slice Ao44 t133.length co44) : Value).ownBlock ∧ some k_ ≠ ((.slice Ao49 t136.length co49) : Value).ownBlock) (.slice Ao36 t123.length co36) t123) ∧ Aside0 (Kd.R k80 80 wc w.heap.size (fun k_ => some k_ ≠ ((.slice Ao28 t112.length co28) : Value).ownBlock ∧ some k_ ≠ ((.slice Ao31 t115.length co31) : Value).ownBlock ∧ some k_ ≠ ((.slice Ao36 t123.length co36) : Value).ownBlock ∧ some k_ ≠ ((.slice Ao44 t133.length co44) : Value).ownBlock ∧ some k_ ≠ ((.slice Ao49 t136.length co49) : Value).ownBlock) (.slice Ao40 t126.length co40) t126) ∧ Aside0 (Kd.R k73 73 wc w.heap.size (fun k_ => some k_ ≠ ((.slice Ao32 t118.length co32) : Value).ownBlock ∧ some k_ ≠ ((.slice Ao50 t139.length co50) : Value).ownBlock) (.slice Ao41 t129.length co41) t129) ∧ Aside0 (Kd.R k80 80 wc w.heap.size (fun k_ => some k_ ≠ ((.slice Ao28 t112.length co28) : Value).ownBlock ∧ some k_ ≠ ((.slice Ao31 t115.length co31) : Value).ownBlock ∧ some k_ ≠ ((.slice Ao36 t123.length co36) : Value).ownBlock ∧ some k_ ≠ ((.slice Ao40 t126.length co40) : Value).ownBlock ∧ some k_ ≠ ((.slice Ao49 t136.length co49) : Value).ownBlock) (.slice Ao44 t133.length co44) t133) ∧ Aside0 (Kd.R k80 80 wc w.heap.size (fun k_ => some k_ ≠ ((.slice Ao28 t112.length co28) : Value).ownBlock ∧ some k_ ≠ ((.slice Ao31 t115.length co31) : Value).ownBlock ∧ some k_ ≠ ((.slice Ao36 t123.length co36) : Value).ownBlock ∧ some k_ ≠ ((.slice Ao40 t126.length co40) : Value).ownBlock ∧ some k_ ≠ ((.slice Ao44 t133.length co44) : Value).ownBlock) (.slice Ao49 t136.length co49) t136) ∧ Aside0 (Kd.R k73 73 wc w.heap.size (fun k_ => some k_ ≠ ((.slice Ao32 t118.length co32) : Value).ownBlock ∧ some k_ ≠ ((.slice Ao41 t129.length co41) : Value).ownBlock) (.slice Ao50 t139.length co50) t139) ∧ Aside0 (wc.heap[gb101]? = some (.cells #[(.slice A0_0 l0_0.length c0_0), (.slice A0_1 l0_1.length c0_1), (.slice A0_2 l0_2.length c0_2)] 25 (0, 0))) ∧ Aside0 (wc.heap[gb122]? = some (.cells #[(.slice Ao28 t112.length co28), (.slice Ao31 t115.length co31), (.slice Ao32 t118.length co32)] 31 (0, 0))) ∧ Aside0 (wc.heap[gb132]? = some (.cells #[(.slice Ao36 t123.length co36), (.slice Ao40 t126.length co40), (.slice Ao41 t129.length co41)] 31 (0, 0))) ∧ Aside0 (wc.heap[gb143]? = some (.cells #[(.slice Ao44 t133.length co44), (.slice Ao49 t136.length co49), (.slice Ao50 t139.length co50)] 31 (0, 0))) ∧ Aside0 (Below w.heap.size w wc))
    case first =>
     have H := HC17.out
     clear HC17
     replace H := Option.bind_eq_some_iff.mp H
     obtain ⟨t144, A510, H⟩ := H
     replace H : (if t144 = true then (laws_FnExactReplace.j0 k a1 a2 t121 t142 (t142 != t121) l0_0 l0_1 l0_2 t112 t115 t118 t123 t126 t129 t133 t136 t139) else (laws_FnExactReplace.j0 k a1 a2 t121 t142 true l0_0 l0_1 l0_2 t112 t115 t118 t123 t126 t129 t133 t136 t139)) = some true := H
     have A51 := am A510
     clear A510
     by_cases c52 : t144 = true
     ·
      subst c52
      have H1 : (laws_FnExactReplace.j0 k a1 a2 t121 t142 (t142 != t121) l0_0 l0_1 l0_2 t112 t115 t118 t123 t126 t129 t133 t136 t139) = some true := by first | (with_reducible rfl) | (rw [if_pos rfl] at H; exact H)
      clear H
      have H := H1
      clear H1
      have H' := am H
      clear H
      have hnb53 := NB143_101.out
      have hnc53 := NB101_143.out
      have hnb54 := NB143_122.out
      have hnc54 := NB122_143.out
      have hnb55 := NB143_132.out
      have hnc55 := NB132_143.out
      have hcz56_0 : _ = some (Value.slice none 0 0) := bcE BK143.out 0
      have hcz56_1 : _ = some (Value.slice none 0 0) := bcE BK143.out 1
      have hcz56_2 : _ = some (Value.slice none 0 0) := bcE BK143.out 2
      have hfz56_0 := qaa BK143.out 0
      have hfz56_1 := qaa BK143.out 1
      have hfz56_2 := qaa BK143.out 2
      have hnb57 := NB122_101.out
      have hnc57 := NB101_122.out
      have hnb58 := NB122_132.out
      have hnc58 := NB132_122.out
      have hcz59_0 : _ = some (Value.slice Ao28 t112.length co28) := bcE BK122.out 0
      have hcz59_1 : _ = some (Value.slice Ao31 t115.length co31) := bcE BK122.out 1
      have hcz59_2 : _ = some (Value.slice Ao32 t118.length co32) := bcE BK122.out 2
      have hfz59_0 := qaa BK122.out 0
      have hfz59_1 := qaa BK122.out 1
      have hfz59_2 := qaa BK122.out 2
      go_wp2_with (first | ((with_reducible refine qaj (f := 16) rfl ?_); refine qap (some 48) rfl rfl Try.func16 (by kernel_rfl) rfl #[.agg #[.slice Ao44 t133.length co44, .slice Ao49 t136.length co49, .slice Ao50 t139.length co50], .agg #[.slice Ao28 t112.length co28, .slice Ao31 t115.length co31, .slice Ao32 t118.length co32]] rfl au6 ?_; (with_reducible refine (laws_eqDisk.calls k _ _ t133 _ _ t136 _ _ t139 _ _ t112 _ _ t115 _ _ t118 true _ ?side1 ?side2 ?side3 ?side4 ?side5 ?side6 ?side7 ?side8 ?side9 ?side10 ?side11 ?side12 A51.out).mono ?_); (case side1 => refine (Kd.R_reads' (e := 80) (base := w.heap.size) (ok := fun k_ => ((((((some k_ ≠ (.slice Ao49 t136.length co49 : Value).ownBlock ∧ some k_ ≠ (.slice Ao23 t103.length co23 : Value).ownBlock) ∧ some k_ ≠ (.slice Ao24 t106.length co24 : Value).ownBlock) ∧ some k_ ≠ (.slice Ao28 t112.length co28 : Value).ownBlock) ∧ some k_ ≠ (.slice Ao31 t115.length co31 : Value).ownBlock) ∧ some k_ ≠ (.slice Ao36 t123.length co36 : Value).ownBlock) ∧ some k_ ≠ (.slice Ao40 t126.length co40 : Value).ownBlock)) (n := t133.length) (c := co44) ?_).2.2; exact (by refine au0 ?_; exact (Kd.R_mono (Kd.R_far (p := ⟨gb143, 2, none⟩) (Kd.R_far (p := ⟨gb143, 1, none⟩) (Kd.R_far (p := ⟨gb143, 0, none⟩) (Kd.R_types HO135.out BK143.out (by decide)) k2E (.slice Ao44 t133.length co44)) k2E (.slice Ao49 t136.length co49)) k2E (.slice Ao50 t139.length co50)) k1E))); (case side2 => exact (Kd.R_reads' HO135.out).2.1); (case side3 => refine (Kd.R_reads' (e := 80) (base := w.heap.size) (ok := fun k_ => ((((((some k_ ≠ (.slice Ao44 t133.length co44 : Value).ownBlock ∧ some k_ ≠ (.slice Ao23 t103.length co23 : Value).ownBlock) ∧ some k_ ≠ (.slice Ao24 t106.length co24 : Value).ownBlock) ∧ some k_ ≠ (.slice Ao28 t112.length co28 : Value).ownBlock) ∧ some k_ ≠ (.slice Ao31 t115.length co31 : Value).ownBlock) ∧ some k_ ≠ (.slice Ao36 t123.length co36 : Value).ownBlock) ∧ some k_ ≠ (.slice Ao40 t126.length co40 : Value).ownBlock)) (n := t136.length) (c := co49) ?_).2.2; exact (by refine au0 ?_; exact (Kd.R_mono (Kd.R_far (p := ⟨gb143, 2, none⟩) (Kd.R_far (p := ⟨gb143, 1, none⟩) (Kd.R_far (p := ⟨gb143, 0, none⟩) (Kd.R_types HO138.out BK143.out (by decide)) k2E (.slice Ao44 t133.length co44)) k2E (.slice Ao49 t136.length co49)) k2E (.slice Ao50 t139.length co50)) k1E))); (case side4 => exact (Kd.R_reads' HO138.out).2.1); (case side5 => refine (Kd.R_reads' (e := 73) (base := w.heap.size) (ok := fun k_ => (((True ∧ some k_ ≠ (.slice Ao25 t109.length co25 : Value).ownBlock) ∧ some k_ ≠ (.slice Ao32 t118.length co32 : Value).ownBlock) ∧ some k_ ≠ (.slice Ao41 t129.length co41 : Value).ownBlock)) (n := t139.length) (c := co50) ?_).2.2; exact (by refine au0 ?_; exact (Kd.R_mono (Kd.R_far (p := ⟨gb143, 2, none⟩) (Kd.R_far (p := ⟨gb143, 1, none⟩) (Kd.R_far (p := ⟨gb143, 0, none⟩) (Kd.R_types HO141.out BK143.out (by decide)) k2E (.slice Ao44 t133.length co44)) k2E (.slice Ao49 t136.length co49)) k2E (.slice Ao50 t139.length co50)) k1E))); (case side6 => exact (Kd.R_reads' HO141.out).2.1); (case side7 => refine (Kd.R_reads' (e := 80) (base := w.heap.size) (ok := fun k_ => ((((((some k_ ≠ (.slice Ao31 t115.length co31 : Value).ownBlock ∧ some k_ ≠ (.slice Ao23 t103.length co23 : Value).ownBlock) ∧ some k_ ≠ (.slice Ao24 t106.length co24 : Value).ownBlock) ∧ some k_ ≠ (.slice Ao36 t123.length co36 : Value).ownBlock) ∧ some k_ ≠ (.slice Ao40 t126.length co40 : Value).ownBlock) ∧ some k_ ≠ (.slice Ao44 t133.length co44 : Value).ownBlock) ∧ some k_ ≠ (.slice Ao49 t136.length co49 : Value).ownBlock)) (n := t112.length) (c := co28) ?_).2.2; exact (by refine au0 ?_; exact (Kd.R_mono (Kd.R_far (p := ⟨gb143, 2, none⟩) (Kd.R_far (p := ⟨gb143, 1, none⟩) (Kd.R_far (p := ⟨gb143, 0, none⟩) (Kd.R_types HO114.out BK143.out (by decide)) k2E (.slice Ao44 t133.length co44)) k2E (.slice Ao49 t136.length co49)) k2E (.slice Ao50 t139.length co50)) k1E))); (case side8 => exact (Kd.R_reads' HO114.out).2.1); (case side9 => refine (Kd.R_reads' (e := 80) (base := w.heap.size) (ok := fun k_ => ((((((some k_ ≠ (.slice Ao28 t112.length co28 : Value).ownBlock ∧ some k_ ≠ (.slice Ao23 t103.length co23 : Value).ownBlock) ∧ some k_ ≠ (.slice Ao24 t106.length co24 : Value).ownBlock) ∧ some k_ ≠ (.slice Ao36 t123.length co36 : Value).ownBlock) ∧ some k_ ≠ (.slice Ao40 t126.length co40 : Value).ownBlock) ∧ some k_ ≠ (.slice Ao44 t133.length co44 : Value).ownBlock) ∧ some k_ ≠ (.slice Ao49 t136.length co49 : Value).ownBlock)) (n := t115.length) (c := co31) ?_).2.2; exact (by refine au0 ?_; exact (Kd.R_mono (Kd.R_far (p := ⟨gb143, 2, none⟩) (Kd.R_far (p := ⟨gb143, 1, none⟩) (Kd.R_far (p := ⟨gb143, 0, none⟩) (Kd.R_types HO117.out BK143.out (by decide)) k2E (.slice Ao44 t133.length co44)) k2E (.slice Ao49 t136.length co49)) k2E (.slice Ao50 t139.length co50)) k1E))); (case side10 => exact (Kd.R_reads' HO117.out).2.1); (case side11 => refine (Kd.R_reads' (e := 73) (base := w.heap.size) (ok := fun k_ => (((True ∧ some k_ ≠ (.slice Ao25 t109.length co25 : Value).ownBlock) ∧ some k_ ≠ (.slice Ao41 t129.length co41 : Value).ownBlock) ∧ some k_ ≠ (.slice Ao50 t139.length co50 : Value).ownBlock)) (n := t118.length) (c := co32) ?_).2.2; exact (by refine au0 ?_; exact (Kd.R_mono (Kd.R_far (p := ⟨gb143, 2, none⟩) (Kd.R_far (p := ⟨gb143, 1, none⟩) (Kd.R_far (p := ⟨gb143, 0, none⟩) (Kd.R_types HO120.out BK143.out (by decide)) k2E (.slice Ao44 t133.length co44)) k2E (.slice Ao49 t136.length co49)) k2E (.slice Ao50 t139.length co50)) k1E))); (case side12 => exact (Kd.R_reads' HO120.out).2.1); rintro e w60 ⟨rfl, hb⟩; refine ⟨_, rfl, ?_⟩; replace HO105 := am (Kd.R_below (by refine au0 ?_; exact (Kd.R_mono (Kd.R_far (p := ⟨gb143, 2, none⟩) (Kd.R_far (p := ⟨gb143, 1, none⟩) (Kd.R_far (p := ⟨gb143, 0, none⟩) (Kd.R_types HO105.out BK143.out (by decide)) k2E (.slice Ao44 t133.length co44)) k2E (.slice Ao49 t136.length co49)) k2E (.slice Ao50 t139.length co50)) k1E)) hb); replace HO108 := am (Kd.R_below (by refine au0 ?_; exact (Kd.R_mono (Kd.R_far (p := ⟨gb143, 2, none⟩) (Kd.R_far (p := ⟨gb143, 1, none⟩) (Kd.R_far (p := ⟨gb143, 0, none⟩) (Kd.R_types HO108.out BK143.out (by decide)) k2E (.slice Ao44 t133.length co44)) k2E (.slice Ao49 t136.length co49)) k2E (.slice Ao50 t139.length co50)) k1E)) hb); replace HO111 := am (Kd.R_below (by refine au0 ?_; exact (Kd.R_mono (Kd.R_far (p := ⟨gb143, 2, none⟩) (Kd.R_far (p := ⟨gb143, 1, none⟩) (Kd.R_far (p := ⟨gb143, 0, none⟩) (Kd.R_types HO111.out BK143.out (by decide)) k2E (.slice Ao44 t133.length co44)) k2E (.slice Ao49 t136.length co49)) k2E (.slice Ao50 t139.length co50)) k1E)) hb); replace HO114 := am (Kd.R_below (by refine au0 ?_; exact (Kd.R_mono (Kd.R_far (p := ⟨gb143, 2, none⟩) (Kd.R_far (p := ⟨gb143, 1, none⟩) (Kd.R_far (p := ⟨gb143, 0, none⟩) (Kd.R_types HO114.out BK143.out (by decide)) k2E (.slice Ao44 t133.length co44)) k2E (.slice Ao49 t136.length co49)) k2E (.slice Ao50 t139.length co50)) k1E)) hb); replace HO117 := am (Kd.R_below (by refine au0 ?_; exact (Kd.R_mono (Kd.R_far (p := ⟨gb143, 2, none⟩) (Kd.R_far (p := ⟨gb143, 1, none⟩) (Kd.R_far (p := ⟨gb143, 0, none⟩) (Kd.R_types HO117.out BK143.out (by decide)) k2E (.slice Ao44 t133.length co44)) k2E (.slice Ao49 t136.length co49)) k2E (.slice Ao50 t139.length co50)) k1E)) hb); replace HO120 := am (Kd.R_below (by refine au0 ?_; exact (Kd.R_mono (Kd.R_far (p := ⟨gb143, 2, none⟩) (Kd.R_far (p := ⟨gb143, 1, none⟩) (Kd.R_far (p := ⟨gb143, 0, none⟩) (Kd.R_types HO120.out BK143.out (by decide)) k2E (.slice Ao44 t133.length co44)) k2E (.slice Ao49 t136.length co49)) k2E (.slice Ao50 t139.length co50)) k1E)) hb); replace HO125 := am (Kd.R_below (by refine au0 ?_; exact (Kd.R_mono (Kd.R_far (p := ⟨gb143, 2, none⟩) (Kd.R_far (p := ⟨gb143, 1, none⟩) (Kd.R_far (p := ⟨gb143, 0, none⟩) (Kd.R_types HO125.out BK143.out (by decide)) k2E (.slice Ao44 t133.length co44)) k2E (.slice Ao49 t136.length co49)) k2E (.slice Ao50 t139.length co50)) k1E)) hb); replace HO128 := am (Kd.R_below (by refine au0 ?_; exact (Kd.R_mono (Kd.R_far (p := ⟨gb143, 2, none⟩) (Kd.R_far (p := ⟨gb143, 1, none⟩) (Kd.R_far (p := ⟨gb143, 0, none⟩) (Kd.R_types HO128.out BK143.out (by decide)) k2E (.slice Ao44 t133.length co44)) k2E (.slice Ao49 t136.length co49)) k2E (.slice Ao50 t139.length co50)) k1E)) hb); replace HO131 := am (Kd.R_below (by refine au0 ?_; exact (Kd.R_mono (Kd.R_far (p := ⟨gb143, 2, none⟩) (Kd.R_far (p := ⟨gb143, 1, none⟩) (Kd.R_far (p := ⟨gb143, 0, none⟩) (Kd.R_types HO131.out BK143.out (by decide)) k2E (.slice Ao44 t133.length co44)) k2E (.slice Ao49 t136.length co49)) k2E (.slice Ao50 t139.length co50)) k1E)) hb); replace HO135 := am (Kd.R_below (by refine au0 ?_; exact (Kd.R_mono (Kd.R_far (p := ⟨gb143, 2, none⟩) (Kd.R_far (p := ⟨gb143, 1, none⟩) (Kd.R_far (p := ⟨gb143, 0, none⟩) (Kd.R_types HO135.out BK143.out (by decide)) k2E (.slice Ao44 t133.length co44)) k2E (.slice Ao49 t136.length co49)) k2E (.slice Ao50 t139.length co50)) k1E)) hb); replace HO138 := am (Kd.R_below (by refine au0 ?_; exact (Kd.R_mono (Kd.R_far (p := ⟨gb143, 2, none⟩) (Kd.R_far (p := ⟨gb143, 1, none⟩) (Kd.R_far (p := ⟨gb143, 0, none⟩) (Kd.R_types HO138.out BK143.out (by decide)) k2E (.slice Ao44 t133.length co44)) k2E (.slice Ao49 t136.length co49)) k2E (.slice Ao50 t139.length co50)) k1E)) hb); replace HO141 := am (Kd.R_below (by refine au0 ?_; exact (Kd.R_mono (Kd.R_far (p := ⟨gb143, 2, none⟩) (Kd.R_far (p := ⟨gb143, 1, none⟩) (Kd.R_far (p := ⟨gb143, 0, none⟩) (Kd.R_types HO141.out BK143.out (by decide)) k2E (.slice Ao44 t133.length co44)) k2E (.slice Ao49 t136.length co49)) k2E (.slice Ao50 t139.length co50)) k1E)) hb); replace BK101 := am (qab (g := gb101) (o := .cells #[.slice A0_0 l0_0.length c0_0, .slice A0_1 l0_1.length c0_1, .slice A0_2 l0_2.length c0_2] 25 (0, 0)) (au14 NB101_143.out BK101.out) hb); replace BK122 := am (qab (g := gb122) (o := .cells #[.slice Ao28 t112.length co28, .slice Ao31 t115.length co31, .slice Ao32 t118.length co32] 31 (0, 0)) (au14 NB122_143.out BK122.out) hb); replace BK132 := am (qab (g := gb132) (o := .cells #[.slice Ao36 t123.length co36, .slice Ao40 t126.length co40, .slice Ao41 t129.length co41] 31 (0, 0)) (au14 NB132_143.out BK132.out) hb); replace BK143 := am (qab (g := gb143) (o := .cells #[.slice Ao44 t133.length co44, .slice Ao49 t136.length co49, .slice Ao50 t139.length co50] 31 (0, 0)) (by refine au1 ?_; refine qam (cs := #[.slice Ao44 t133.length co44, .slice Ao49 t136.length co49, .slice none 0 0]) ?_ 2 _ rfl; refine au1 ?_; refine qam (cs := #[.slice Ao44 t133.length co44, .slice none 0 0, .slice none 0 0]) ?_ 1 _ rfl; refine au1 ?_; refine qam (cs := #[.slice none 0 0, .slice none 0 0, .slice none 0 0]) ?_ 0 _ rfl; refine au1 ?_; exact BK143.out) hb); replace HB := am (qad (au12 HB.out GE101.out GE122.out GE132.out GE143.out) hb); (try clear hb); (try clear hb2); (try clear hk); (try clear hi)))
      go_meet
      case rel => exact ⟨_, ((t142 != t121)), au10, H', ⟨by first | omega | exact Nat.le_refl _⟩, ⟨by refine au0 ?_; exact Kd.R_mono HO114.out (fun _ hk => ⟨hk.1.1.1.1.1.1, ⟨hk.1.1.1.2, ⟨hk.1.1.2, ⟨hk.1.2, hk.2⟩⟩⟩⟩)⟩, ⟨by refine au0 ?_; exact Kd.R_mono HO117.out (fun _ hk => ⟨hk.1.1.1.1.1.1, ⟨hk.1.1.1.2, ⟨hk.1.1.2, ⟨hk.1.2, hk.2⟩⟩⟩⟩)⟩, ⟨by refine au0 ?_; exact Kd.R_mono HO120.out (fun _ hk => ⟨hk.1.2, hk.2⟩)⟩, ⟨by refine au0 ?_; exact Kd.R_mono HO125.out (fun _ hk => ⟨hk.1.1.1.2, ⟨hk.1.1.2, ⟨hk.1.1.1.1.1.1, ⟨hk.1.2, hk.2⟩⟩⟩⟩)⟩, ⟨by refine au0 ?_; exact Kd.R_mono HO128.out (fun _ hk => ⟨hk.1.1.1.2, ⟨hk.1.1.2, ⟨hk.1.1.1.1.1.1, ⟨hk.1.2, hk.2⟩⟩⟩⟩)⟩, ⟨by refine au0 ?_; exact Kd.R_mono HO131.out (fun _ hk => ⟨hk.1.2, hk.2⟩)⟩, ⟨by refine au0 ?_; exact Kd.R_mono HO135.out (fun _ hk => ⟨hk.1.1.1.2, ⟨hk.1.1.2, ⟨hk.1.2, ⟨hk.2, hk.1.1.1.1.1.1⟩⟩⟩⟩)⟩, ⟨by refine au0 ?_; exact Kd.R_mono HO138.out (fun _ hk => ⟨hk.1.1.1.2, ⟨hk.1.1.2, ⟨hk.1.2, ⟨hk.2, hk.1.1.1.1.1.1⟩⟩⟩⟩)⟩, ⟨by refine au0 ?_; exact Kd.R_mono HO141.out (fun _ hk => ⟨hk.1.2, hk.2⟩)⟩, ⟨au1 BK101.out⟩, ⟨au1 BK122.out⟩, ⟨au1 BK132.out⟩, ⟨au1 BK143.out⟩, ⟨(au12 HB.out GE101.out GE122.out GE132.out GE143.out)⟩⟩
     ·
      replace c52 := Bool.eq_false_iff.mpr c52
      subst c52
      have H1 : (laws_FnExactReplace.j0 k a1 a2 t121 t142 true l0_0 l0_1 l0_2 t112 t115 t118 t123 t126 t129 t133 t136 t139) = some true := by rw [if_neg (show ¬ (false = true) by decide)] at H; exact H
      clear H
      have H := H1
      clear H1
      have H' := am H
      clear H
      have hnb61 := NB143_101.out
      have hnc61 := NB101_143.out
      have hnb62 := NB143_122.out
      have hnc62 := NB122_143.out
      have hnb63 := NB143_132.out
      have hnc63 := NB132_143.out
      have hcz64_0 : _ = some (Value.slice none 0 0) := bcE BK143.out 0
      have hcz64_1 : _ = some (Value.slice none 0 0) := bcE BK143.out 1
      have hcz64_2 : _ = some (Value.slice none 0 0) := bcE BK143.out 2
      have hfz64_0 := qaa BK143.out 0
      have hfz64_1 := qaa BK143.out 1
      have hfz64_2 := qaa BK143.out 2
      have hnb65 := NB122_101.out
      have hnc65 := NB101_122.out
      have hnb66 := NB122_132.out
      have hnc66 := NB132_122.out
      have hcz67_0 : _ = some (Value.slice Ao28 t112.length co28) := bcE BK122.out 0
      have hcz67_1 : _ = some (Value.slice Ao31 t115.length co31) := bcE BK122.out 1
      have hcz67_2 : _ = some (Value.slice Ao32 t118.length co32) := bcE BK122.out 2
      have hfz67_0 := qaa BK122.out 0
      have hfz67_1 := qaa BK122.out 1
      have hfz67_2 := qaa BK122.out 2
      go_wp2_with (first | ((with_reducible refine qaj (f := 16) rfl ?_); refine qap (some 48) rfl rfl Try.func16 (by kernel_rfl) rfl #[.agg #[.slice Ao44 t133.length co44, .slice Ao49 t136.length co49, .slice Ao50 t139.length co50], .agg #[.slice Ao28 t112.length co28, .slice Ao31 t115.length co31, .slice Ao32 t118.length co32]] rfl au6 ?_; (with_reducible refine (laws_eqDisk.calls k _ _ t133 _ _ t136 _ _ t139 _ _ t112 _ _ t115 _ _ t118 false _ ?side1 ?side2 ?side3 ?side4 ?side5 ?side6 ?side7 ?side8 ?side9 ?side10 ?side11 ?side12 A51.out).mono ?_); (case side1 => refine (Kd.R_reads' (e := 80) (base := w.heap.size) (ok := fun k_ => ((((((some k_ ≠ (.slice Ao49 t136.length co49 : Value).ownBlock ∧ some k_ ≠ (.slice Ao23 t103.length co23 : Value).ownBlock) ∧ some k_ ≠ (.slice Ao24 t106.length co24 : Value).ownBlock) ∧ some k_ ≠ (.slice Ao28 t112.length co28 : Value).ownBlock) ∧ some k_ ≠ (.slice Ao31 t115.length co31 : Value).ownBlock) ∧ some k_ ≠ (.slice Ao36 t123.length co36 : Value).ownBlock) ∧ some k_ ≠ (.slice Ao40 t126.length co40 : Value).ownBlock)) (n := t133.length) (c := co44) ?_).2.2; exact (by refine au0 ?_; exact (Kd.R_mono (Kd.R_far (p := ⟨gb143, 2, none⟩) (Kd.R_far (p := ⟨gb143, 1, none⟩) (Kd.R_far (p := ⟨gb143, 0, none⟩) (Kd.R_types HO135.out BK143.out (by decide)) k2E (.slice Ao44 t133.length co44)) k2E (.slice Ao49 t136.length co49)) k2E (.slice Ao50 t139.length co50)) k1E))); (case side2 => exact (Kd.R_reads' HO135.out).2.1); (case side3 => refine (Kd.R_reads' (e := 80) (base := w.heap.size) (ok := fun k_ => ((((((some k_ ≠ (.slice Ao44 t133.length co44 : Value).ownBlock ∧ some k_ ≠ (.slice Ao23 t103.length co23 : Value).ownBlock) ∧ some k_ ≠ (.slice Ao24 t106.length co24 : Value).ownBlock) ∧ some k_ ≠ (.slice Ao28 t112.length co28 : Value).ownBlock) ∧ some k_ ≠ (.slice Ao31 t115.length co31 : Value).ownBlock) ∧ some k_ ≠ (.slice Ao36 t123.length co36 : Value).ownBlock) ∧ some k_ ≠ (.slice Ao40 t126.length co40 : Value).ownBlock)) (n := t136.length) (c := co49) ?_).2.2; exact (by refine au0 ?_; exact (Kd.R_mono (Kd.R_far (p := ⟨gb143, 2, none⟩) (Kd.R_far (p := ⟨gb143, 1, none⟩) (Kd.R_far (p := ⟨gb143, 0, none⟩) (Kd.R_types HO138.out BK143.out (by decide)) k2E (.slice Ao44 t133.length co44)) k2E (.slice Ao49 t136.length co49)) k2E (.slice Ao50 t139.length co50)) k1E))); (case side4 => exact (Kd.R_reads' HO138.out).2.1); (case side5 => refine (Kd.R_reads' (e := 73) (base := w.heap.size) (ok := fun k_ => (((True ∧ some k_ ≠ (.slice Ao25 t109.length co25 : Value).ownBlock) ∧ some k_ ≠ (.slice Ao32 t118.length co32 : Value).ownBlock) ∧ some k_ ≠ (.slice Ao41 t129.length co41 : Value).ownBlock)) (n := t139.length) (c := co50) ?_).2.2; exact (by refine au0 ?_; exact (Kd.R_mono (Kd.R_far (p := ⟨gb143, 2, none⟩) (Kd.R_far (p := ⟨gb143, 1, none⟩) (Kd.R_far (p := ⟨gb143, 0, none⟩) (Kd.R_types HO141.out BK143.out (by decide)) k2E (.slice Ao44 t133.length co44)) k2E (.slice Ao49 t136.length co49)) k2E (.slice Ao50 t139.length co50)) k1E))); (case side6 => exact (Kd.R_reads' HO141.out).2.1); (case side7 => refine (Kd.R_reads' (e := 80) (base := w.heap.size) (ok := fun k_ => ((((((some k_ ≠ (.slice Ao31 t115.length co31 : Value).ownBlock ∧ some k_ ≠ (.slice Ao23 t103.length co23 : Value).ownBlock) ∧ some k_ ≠ (.slice Ao24 t106.length co24 : Value).ownBlock) ∧ some k_ ≠ (.slice Ao36 t123.length co36 : Value).ownBlock) ∧ some k_ ≠ (.slice Ao40 t126.length co40 : Value).ownBlock) ∧ some k_ ≠ (.slice Ao44 t133.length co44 : Value).ownBlock) ∧ some k_ ≠ (.slice Ao49 t136.length co49 : Value).ownBlock)) (n := t112.length) (c := co28) ?_).2.2; exact (by refine au0 ?_; exact (Kd.R_mono (Kd.R_far (p := ⟨gb143, 2, none⟩) (Kd.R_far (p := ⟨gb143, 1, none⟩) (Kd.R_far (p := ⟨gb143, 0, none⟩) (Kd.R_types HO114.out BK143.out (by decide)) k2E (.slice Ao44 t133.length co44)) k2E (.slice Ao49 t136.length co49)) k2E (.slice Ao50 t139.length co50)) k1E))); (case side8 => exact (Kd.R_reads' HO114.out).2.1); (case side9 => refine (Kd.R_reads' (e := 80) (base := w.heap.size) (ok := fun k_ => ((((((some k_ ≠ (.slice Ao28 t112.length co28 : Value).ownBlock ∧ some k_ ≠ (.slice Ao23 t103.length co23 : Value).ownBlock) ∧ some k_ ≠ (.slice Ao24 t106.length co24 : Value).ownBlock) ∧ some k_ ≠ (.slice Ao36 t123.length co36 : Value).ownBlock) ∧ some k_ ≠ (.slice Ao40 t126.length co40 : Value).ownBlock) ∧ some k_ ≠ (.slice Ao44 t133.length co44 : Value).ownBlock) ∧ some k_ ≠ (.slice Ao49 t136.length co49 : Value).ownBlock)) (n := t115.length) (c := co31) ?_).2.2; exact (by refine au0 ?_; exact (Kd.R_mono (Kd.R_far (p := ⟨gb143, 2, none⟩) (Kd.R_far (p := ⟨gb143, 1, none⟩) (Kd.R_far (p := ⟨gb143, 0, none⟩) (Kd.R_types HO117.out BK143.out (by decide)) k2E (.slice Ao44 t133.length co44)) k2E (.slice Ao49 t136.length co49)) k2E (.slice Ao50 t139.length co50)) k1E))); (case side10 => exact (Kd.R_reads' HO117.out).2.1); (case side11 => refine (Kd.R_reads' (e := 73) (base := w.heap.size) (ok := fun k_ => (((True ∧ some k_ ≠ (.slice Ao25 t109.length co25 : Value).ownBlock) ∧ some k_ ≠ (.slice Ao41 t129.length co41 : Value).ownBlock) ∧ some k_ ≠ (.slice Ao50 t139.length co50 : Value).ownBlock)) (n := t118.length) (c := co32) ?_).2.2; exact (by refine au0 ?_; exact (Kd.R_mono (Kd.R_far (p := ⟨gb143, 2, none⟩) (Kd.R_far (p := ⟨gb143, 1, none⟩) (Kd.R_far (p := ⟨gb143, 0, none⟩) (Kd.R_types HO120.out BK143.out (by decide)) k2E (.slice Ao44 t133.length co44)) k2E (.slice Ao49 t136.length co49)) k2E (.slice Ao50 t139.length co50)) k1E))); (case side12 => exact (Kd.R_reads' HO120.out).2.1); rintro e w68 ⟨rfl, hb⟩; refine ⟨_, rfl, ?_⟩; replace HO105 := am (Kd.R_below (by refine au0 ?_; exact (Kd.R_mono (Kd.R_far (p := ⟨gb143, 2, none⟩) (Kd.R_far (p := ⟨gb143, 1, none⟩) (Kd.R_far (p := ⟨gb143, 0, none⟩) (Kd.R_types HO105.out BK143.out (by decide)) k2E (.slice Ao44 t133.length co44)) k2E (.slice Ao49 t136.length co49)) k2E (.slice Ao50 t139.length co50)) k1E)) hb); replace HO108 := am (Kd.R_below (by refine au0 ?_; exact (Kd.R_mono (Kd.R_far (p := ⟨gb143, 2, none⟩) (Kd.R_far (p := ⟨gb143, 1, none⟩) (Kd.R_far (p := ⟨gb143, 0, none⟩) (Kd.R_types HO108.out BK143.out (by decide)) k2E (.slice Ao44 t133.length co44)) k2E (.slice Ao49 t136.length co49)) k2E (.slice Ao50 t139.length co50)) k1E)) hb); replace HO111 := am (Kd.R_below (by refine au0 ?_; exact (Kd.R_mono (Kd.R_far (p := ⟨gb143, 2, none⟩) (Kd.R_far (p := ⟨gb143, 1, none⟩) (Kd.R_far (p := ⟨gb143, 0, none⟩) (Kd.R_types HO111.out BK143.out (by decide)) k2E (.slice Ao44 t133.length co44)) k2E (.slice Ao49 t136.length co49)) k2E (.slice Ao50 t139.length co50)) k1E)) hb); replace HO114 := am (Kd.R_below (by refine au0 ?_; exact (Kd.R_mono (Kd.R_far (p := ⟨gb143, 2, none⟩) (Kd.R_far (p := ⟨gb143, 1, none⟩) (Kd.R_far (p := ⟨gb143, 0, none⟩) (Kd.R_types HO114.out BK143.out (by decide)) k2E (.slice Ao44 t133.length co44)) k2E (.slice Ao49 t136.length co49)) k2E (.slice Ao50 t139.length co50)) k1E)) hb); replace HO117 := am (Kd.R_below (by refine au0 ?_; exact (Kd.R_mono (Kd.R_far (p := ⟨gb143, 2, none⟩) (Kd.R_far (p := ⟨gb143, 1, none⟩) (Kd.R_far (p := ⟨gb143, 0, none⟩) (Kd.R_types HO117.out BK143.out (by decide)) k2E (.slice Ao44 t133.length co44)) k2E (.slice Ao49 t136.length co49)) k2E (.slice Ao50 t139.length co50)) k1E)) hb); replace HO120 := am (Kd.R_below (by refine au0 ?_; exact (Kd.R_mono (Kd.R_far (p := ⟨gb143, 2, none⟩) (Kd.R_far (p := ⟨gb143, 1, none⟩) (Kd.R_far (p := ⟨gb143, 0, none⟩) (Kd.R_types HO120.out BK143.out (by decide)) k2E (.slice Ao44 t133.length co44)) k2E (.slice Ao49 t136.length co49)) k2E (.slice Ao50 t139.length co50)) k1E)) hb); replace HO125 := am (Kd.R_below (by refine au0 ?_; exact (Kd.R_mono (Kd.R_far (p := ⟨gb143, 2, none⟩) (Kd.R_far (p := ⟨gb143, 1, none⟩) (Kd.R_far (p := ⟨gb143, 0, none⟩) (Kd.R_types HO125.out BK143.out (by decide)) k2E (.slice Ao44 t133.length co44)) k2E (.slice Ao49 t136.length co49)) k2E (.slice Ao50 t139.length co50)) k1E)) hb); replace HO128 := am (Kd.R_below (by refine au0 ?_; exact (Kd.R_mono (Kd.R_far (p := ⟨gb143, 2, none⟩) (Kd.R_far (p := ⟨gb143, 1, none⟩) (Kd.R_far (p := ⟨gb143, 0, none⟩) (Kd.R_types HO128.out BK143.out (by decide)) k2E (.slice Ao44 t133.length co44)) k2E (.slice Ao49 t136.length co49)) k2E (.slice Ao50 t139.length co50)) k1E)) hb); replace HO131 := am (Kd.R_below (by refine au0 ?_; exact (Kd.R_mono (Kd.R_far (p := ⟨gb143, 2, none⟩) (Kd.R_far (p := ⟨gb143, 1, none⟩) (Kd.R_far (p := ⟨gb143, 0, none⟩) (Kd.R_types HO131.out BK143.out (by decide)) k2E (.slice Ao44 t133.length co44)) k2E (.slice Ao49 t136.length co49)) k2E (.slice Ao50 t139.length co50)) k1E)) hb); replace HO135 := am (Kd.R_below (by refine au0 ?_; exact (Kd.R_mono (Kd.R_far (p := ⟨gb143, 2, none⟩) (Kd.R_far (p := ⟨gb143, 1, none⟩) (Kd.R_far (p := ⟨gb143, 0, none⟩) (Kd.R_types HO135.out BK143.out (by decide)) k2E (.slice Ao44 t133.length co44)) k2E (.slice Ao49 t136.length co49)) k2E (.slice Ao50 t139.length co50)) k1E)) hb); replace HO138 := am (Kd.R_below (by refine au0 ?_; exact (Kd.R_mono (Kd.R_far (p := ⟨gb143, 2, none⟩) (Kd.R_far (p := ⟨gb143, 1, none⟩) (Kd.R_far (p := ⟨gb143, 0, none⟩) (Kd.R_types HO138.out BK143.out (by decide)) k2E (.slice Ao44 t133.length co44)) k2E (.slice Ao49 t136.length co49)) k2E (.slice Ao50 t139.length co50)) k1E)) hb); replace HO141 := am (Kd.R_below (by refine au0 ?_; exact (Kd.R_mono (Kd.R_far (p := ⟨gb143, 2, none⟩) (Kd.R_far (p := ⟨gb143, 1, none⟩) (Kd.R_far (p := ⟨gb143, 0, none⟩) (Kd.R_types HO141.out BK143.out (by decide)) k2E (.slice Ao44 t133.length co44)) k2E (.slice Ao49 t136.length co49)) k2E (.slice Ao50 t139.length co50)) k1E)) hb); replace BK101 := am (qab (g := gb101) (o := .cells #[.slice A0_0 l0_0.length c0_0, .slice A0_1 l0_1.length c0_1, .slice A0_2 l0_2.length c0_2] 25 (0, 0)) (au14 NB101_143.out BK101.out) hb); replace BK122 := am (qab (g := gb122) (o := .cells #[.slice Ao28 t112.length co28, .slice Ao31 t115.length co31, .slice Ao32 t118.length co32] 31 (0, 0)) (au14 NB122_143.out BK122.out) hb); replace BK132 := am (qab (g := gb132) (o := .cells #[.slice Ao36 t123.length co36, .slice Ao40 t126.length co40, .slice Ao41 t129.length co41] 31 (0, 0)) (au14 NB132_143.out BK132.out) hb); replace BK143 := am (qab (g := gb143) (o := .cells #[.slice Ao44 t133.length co44, .slice Ao49 t136.length co49, .slice Ao50 t139.length co50] 31 (0, 0)) (by refine au1 ?_; refine qam (cs := #[.slice Ao44 t133.length co44, .slice Ao49 t136.length co49, .slice none 0 0]) ?_ 2 _ rfl; refine au1 ?_; refine qam (cs := #[.slice Ao44 t133.length co44, .slice none 0 0, .slice none 0 0]) ?_ 1 _ rfl; refine au1 ?_; refine qam (cs := #[.slice none 0 0, .slice none 0 0, .slice none 0 0]) ?_ 0 _ rfl; refine au1 ?_; exact BK143.out) hb); replace HB := am (qad (au12 HB.out GE101.out GE122.out GE132.out GE143.out) hb); (try clear hb); (try clear hb2); (try clear hk); (try clear hi)))
      go_meet
      case rel => exact ⟨_, (true), au10, H', ⟨by first | omega | exact Nat.le_refl _⟩, ⟨by refine au0 ?_; exact Kd.R_mono HO114.out (fun _ hk => ⟨hk.1.1.1.1.1.1, ⟨hk.1.1.1.2, ⟨hk.1.1.2, ⟨hk.1.2, hk.2⟩⟩⟩⟩)⟩, ⟨by refine au0 ?_; exact Kd.R_mono HO117.out (fun _ hk => ⟨hk.1.1.1.1.1.1, ⟨hk.1.1.1.2, ⟨hk.1.1.2, ⟨hk.1.2, hk.2⟩⟩⟩⟩)⟩, ⟨by refine au0 ?_; exact Kd.R_mono HO120.out (fun _ hk => ⟨hk.1.2, hk.2⟩)⟩, ⟨by refine au0 ?_; exact Kd.R_mono HO125.out (fun _ hk => ⟨hk.1.1.1.2, ⟨hk.1.1.2, ⟨hk.1.1.1.1.1.1, ⟨hk.1.2, hk.2⟩⟩⟩⟩)⟩, ⟨by refine au0 ?_; exact Kd.R_mono HO128.out (fun _ hk => ⟨hk.1.1.1.2, ⟨hk.1.1.2, ⟨hk.1.1.1.1.1.1, ⟨hk.1.2, hk.2⟩⟩⟩⟩)⟩, ⟨by refine au0 ?_; exact Kd.R_mono HO131.out (fun _ hk => ⟨hk.1.2, hk.2⟩)⟩, ⟨by refine au0 ?_; exact Kd.R_mono HO135.out (fun _ hk => ⟨hk.1.1.1.2, ⟨hk.1.1.2, ⟨hk.1.2, ⟨hk.2, hk.1.1.1.1.1.1⟩⟩⟩⟩)⟩, ⟨by refine au0 ?_; exact Kd.R_mono HO138.out (fun _ hk => ⟨hk.1.1.1.2, ⟨hk.1.1.2, ⟨hk.1.2, ⟨hk.2, hk.1.1.1.1.1.1⟩⟩⟩⟩)⟩, ⟨by refine au0 ?_; exact Kd.R_mono HO141.out (fun _ hk => ⟨hk.1.2, hk.2⟩)⟩, ⟨au1 BK101.out⟩, ⟨au1 BK122.out⟩, ⟨au1 BK132.out⟩, ⟨au1 BK143.out⟩, ⟨(au12 HB.out GE101.out GE122.out GE132.out GE143.out)⟩⟩
    case rest =>
     clear HC17
     obtain ⟨kq, x54_16, rfl, HA, HJ16, HO_123000, HO_123001, HO_123002, HO_133000, HO_133001, HO_133002, HO_144000, HO_144001, HO_144002, BK101, BK122, BK132, BK143, HB⟩ := hcut
     cases kq with
     | zero => exact absurd HA.out (by simp [laws_FnExactReplace.j0])
     | succ kj16 =>
      have H := HA.out
      clear HA
      simp only [laws_FnExactReplace.j0] at H
      by_cases c69 : x54_16 = true
      ·
       subst c69
       have H1 : (some false) = some true := by first | (with_reducible rfl) | (rw [if_pos rfl] at H; exact H)
       clear H
       have H := H1
       clear H1
       exact absurd (Option.some.inj H) (by decide)
      ·
       replace c69 := Bool.eq_false_iff.mpr c69
       subst c69
       have H1 : ((laws_toDisk.f kj16 l0_0 l0_1 l0_2).bind fun bt145 => ((laws_eqDisk.f kj16 t123 t126 t129 bt145.1 bt145.2.1 bt145.2.2).bind fun t154 => (if t154 = true then ((laws_markDisk.f kj16 t123 t126 t129 1).bind fun bt155 => (if bt155.1 < 0 then (laws_FnExactReplace.j1 kj16 a1 a2 t121 true l0_0 l0_1 l0_2 t112 t115 t118 t133 t136 t139) else ((laws_eqDisk.f kj16 t133 t136 t139 t112 t115 t118).bind fun t159 => (if t159 = true then (laws_FnExactReplace.j1 kj16 a1 a2 t121 (t142 != t121) l0_0 l0_1 l0_2 t112 t115 t118 t133 t136 t139) else (laws_FnExactReplace.j1 kj16 a1 a2 t121 true l0_0 l0_1 l0_2 t112 t115 t118 t133 t136 t139))))) else (some false)))) = some true := by rw [if_neg (show ¬ (false = true) by decide)] at H; exact H
       clear H
       have H := H1
       clear H1
       replace H := Option.bind_eq_some_iff.mp H
       obtain ⟨⟨t145, t148, t151⟩, A700, H⟩ := H
       replace H : ((laws_eqDisk.f kj16 t123 t126 t129 t145 t148 t151).bind fun t154 => (if t154 = true then ((laws_markDisk.f kj16 t123 t126 t129 1).bind fun bt155 => (if bt155.1 < 0 then (laws_FnExactReplace.j1 kj16 a1 a2 t121 true l0_0 l0_1 l0_2 t112 t115 t118 t133 t136 t139) else ((laws_eqDisk.f kj16 t133 t136 t139 t112 t115 t118).bind fun t159 => (if t159 = true then (laws_FnExactReplace.j1 kj16 a1 a2 t121 (t142 != t121) l0_0 l0_1 l0_2 t112 t115 t118 t133 t136 t139) else (laws_FnExactReplace.j1 kj16 a1 a2 t121 true l0_0 l0_1 l0_2 t112 t115 t118 t133 t136 t139))))) else (some false))) = some true := H
       have A70 := am A700
       clear A700
       replace H := Option.bind_eq_some_iff.mp H
       obtain ⟨t154, A710, H⟩ := H
       replace H : (if t154 = true then ((laws_markDisk.f kj16 t123 t126 t129 1).bind fun bt155 => (if bt155.1 < 0 then (laws_FnExactReplace.j1 kj16 a1 a2 t121 true l0_0 l0_1 l0_2 t112 t115 t118 t133 t136 t139) else ((laws_eqDisk.f kj16 t133 t136 t139 t112 t115 t118).bind fun t159 => (if t159 = true then (laws_FnExactReplace.j1 kj16 a1 a2 t121 (t142 != t121) l0_0 l0_1 l0_2 t112 t115 t118 t133 t136 t139) else (laws_FnExactReplace.j1 kj16 a1 a2 t121 true l0_0 l0_1 l0_2 t112 t115 t118 t133 t136 t139))))) else (some false)) = some true := H
       have A71 := am A710
       clear A710
       by_cases c72 : t154 = true
       ·
        subst c72
        have H1 : ((laws_markDisk.f kj16 t123 t126 t129 1).bind fun bt155 => (if bt155.1 < 0 then (laws_FnExactReplace.j1 kj16 a1 a2 t121 true l0_0 l0_1 l0_2 t112 t115 t118 t133 t136 t139) else ((laws_eqDisk.f kj16 t133 t136 t139 t112 t115 t118).bind fun t159 => (if t159 = true then (laws_FnExactReplace.j1 kj16 a1 a2 t121 (t142 != t121) l0_0 l0_1 l0_2 t112 t115 t118 t133 t136 t139) else (laws_FnExactReplace.j1 kj16 a1 a2 t121 true l0_0 l0_1 l0_2 t112 t115 t118 t133 t136 t139))))) = some true := by first | (with_reducible rfl) | (rw [if_pos rfl] at H; exact H)
        clear H
        have H := H1
        clear H1
        replace H := Option.bind_eq_some_iff.mp H
        obtain ⟨⟨t155, t156, t157, t158⟩, A730, H⟩ := H
        replace H : (if t155 < 0 then (laws_FnExactReplace.j1 kj16 a1 a2 t121 true l0_0 l0_1 l0_2 t112 t115 t118 t133 t136 t139) else ((laws_eqDisk.f kj16 t133 t136 t139 t112 t115 t118).bind fun t159 => (if t159 = true then (laws_FnExactReplace.j1 kj16 a1 a2 t121 (t142 != t121) l0_0 l0_1 l0_2 t112 t115 t118 t133 t136 t139) else (laws_FnExactReplace.j1 kj16 a1 a2 t121 true l0_0 l0_1 l0_2 t112 t115 t118 t133 t136 t139)))) = some true := H
        have A73 := am A730
        clear A730
        have HC74 := am H
        clear H
        try go_wp2
        replace HO_123000 := am (Kd.R_drew HO_123000.out)
        replace HO_123001 := am (Kd.R_drew HO_123001.out)
        replace HO_123002 := am (Kd.R_drew HO_123002.out)
        replace HO_133000 := am (Kd.R_drew HO_133000.out)
        replace HO_133001 := am (Kd.R_drew HO_133001.out)
        replace HO_133002 := am (Kd.R_drew HO_133002.out)
        replace HO_144000 := am (Kd.R_drew HO_144000.out)
        replace HO_144001 := am (Kd.R_drew HO_144001.out)
        replace HO_144002 := am (Kd.R_drew HO_144002.out)
        replace BK101 := am (qcm BK101.out)
        replace BK122 := am (qcm BK122.out)
        replace BK132 := am (qcm BK132.out)
        replace BK143 := am (qcm BK143.out)
        replace HB := am (qay HB.out)
        refine qdm (n := 5) (S := fun w' => w'.cell? ⟨gb132, 0, none⟩ = some (.slice Ao36 t123.length co36) ∧ w'.cell? ⟨gb132, 1, none⟩ = some (.slice Ao40 t126.length co40) ∧ w'.cell? ⟨gb132, 2, none⟩ = some (.slice Ao41 t129.length co41) ∧ w'.cell? ⟨gb101, 0, none⟩ = some (.slice A0_0 l0_0.length c0_0) ∧ w'.cell? ⟨gb101, 1, none⟩ = some (.slice A0_1 l0_1.length c0_1) ∧ w'.cell? ⟨gb101, 2, none⟩ = some (.slice A0_2 l0_2.length c0_2)) (ds := []) #[false, false, false, false, false] (by kernel_rfl) rfl rfl ⟨(qak BK132.out 0).trans rfl, (qak BK132.out 1).trans rfl, (qak BK132.out 2).trans rfl, (qak BK101.out 0).trans rfl, (qak BK101.out 1).trans rfl, (qak BK101.out 2).trans rfl⟩ (fun hHeld => ?_)
        generalize wc.drew = w75 at HO_123000 HO_123001 HO_123002 HO_133000 HO_133001 HO_133002 HO_144000 HO_144001 HO_144002 BK101 BK122 BK132 BK143 HB hHeld ⊢
        refine take_ (i := 0) (N := some 55) (v := ?_) (a' := ?_) #[true, false, false, false, false] rfl rfl (by kernel_rfl) (fun _ _ _ h => h) (Or.inl ⟨by rfl, ?_⟩) hHeld ?_ ?_
        rotate_left
        ·
         rintro w' ⟨s0, s1, s2, s3, s4, s5⟩
         go_simp
         with_reducible rfl
        rotate_left
        ·
         simp only [Act.put, qsA, qsZ, qsS, i64_w, i32_w]
         rfl
        refine take_ (i := 1) (N := some 56) (v := ?_) (a' := ?_) #[true, true, false, false, false] rfl rfl (by kernel_rfl) (fun _ _ _ h => h) (Or.inl ⟨by rfl, ?_⟩) hHeld ?_ ?_
        rotate_left
        ·
         rintro w' ⟨s0, s1, s2, s3, s4, s5⟩
         go_simp
         with_reducible rfl
        rotate_left
        ·
         simp only [Act.put, qsA, qsZ, qsS, i64_w, i32_w]
         rfl
        refine one_ (i := 2) (N := some 57) #[true, true, true, false, false] rfl rfl (by kernel_rfl) (by decide) (fun K hK => ?_)
        refine goes_ Try.func14 (by kernel_rfl) rfl #[.agg #[.slice A0_0 l0_0.length c0_0, .slice A0_1 l0_1.length c0_1, .slice A0_2 l0_2.length c0_2]] (by rfl) rfl rfl au6 ?_
        with_reducible refine (laws_toDisk.calls kj16 _ _ l0_0 _ _ l0_1 _ _ l0_2 t145 t148 t151 _ ?side1 ?side2 ?side3 ?side4 ?side5 ?side6 A70.out).mono ?_
        (case side1 => exact scE (Kd.C_below HR0_0.out HB.out))
        (case side2 => exact HC0_0.out)
        (case side3 => exact scE (Kd.C_below HR0_1.out HB.out))
        (case side4 => exact HC0_1.out)
        (case side5 => exact scE (Kd.C_below HR0_2.out HB.out))
        (case side6 => exact HC0_2.out)
        rintro e w76 ⟨v146, v149, v152, rfl, ho0, ho1, ho2, hb⟩
        refine ⟨_, rfl, ?_⟩
        have HO147 := am (Kd.R_lower (Kd.R_new' (Kd.R_new' (Kd.R_new' (Kd.R_new' (Kd.R_new' (Kd.R_new' ho0 (Kd.R_lt (au0 HO_123000.out))) (Kd.R_lt (au0 HO_123001.out))) (Kd.R_lt (au0 HO_133000.out))) (Kd.R_lt (au0 HO_133001.out))) (Kd.R_lt (au0 HO_144000.out))) (Kd.R_lt (au0 HO_144001.out))) (qaf (au12 HB.out GE101.out GE122.out GE132.out GE143.out)))
        have HO150 := am (Kd.R_lower (Kd.R_new' (Kd.R_new' (Kd.R_new' (Kd.R_new' (Kd.R_new' (Kd.R_new' ho1 (Kd.R_lt (au0 HO_123000.out))) (Kd.R_lt (au0 HO_123001.out))) (Kd.R_lt (au0 HO_133000.out))) (Kd.R_lt (au0 HO_133001.out))) (Kd.R_lt (au0 HO_144000.out))) (Kd.R_lt (au0 HO_144001.out))) (qaf (au12 HB.out GE101.out GE122.out GE132.out GE143.out)))
        replace HO_123000 := am (Kd.R_mono (Kd.R_told (Kd.R_told (Kd.R_old (au0 HO_123000.out) hb) (Kd.R_base ho0)) (Kd.R_base ho1)) k1E)
        replace HO_123001 := am (Kd.R_mono (Kd.R_told (Kd.R_told (Kd.R_old (au0 HO_123001.out) hb) (Kd.R_base ho0)) (Kd.R_base ho1)) k1E)
        replace HO_133000 := am (Kd.R_mono (Kd.R_told (Kd.R_told (Kd.R_old (au0 HO_133000.out) hb) (Kd.R_base ho0)) (Kd.R_base ho1)) k1E)
        replace HO_133001 := am (Kd.R_mono (Kd.R_told (Kd.R_told (Kd.R_old (au0 HO_133001.out) hb) (Kd.R_base ho0)) (Kd.R_base ho1)) k1E)
        replace HO_144000 := am (Kd.R_mono (Kd.R_told (Kd.R_told (Kd.R_old (au0 HO_144000.out) hb) (Kd.R_base ho0)) (Kd.R_base ho1)) k1E)
        replace HO_144001 := am (Kd.R_mono (Kd.R_told (Kd.R_told (Kd.R_old (au0 HO_144001.out) hb) (Kd.R_base ho0)) (Kd.R_base ho1)) k1E)
        have HO153 := am (Kd.R_lower (Kd.R_new' (Kd.R_new' (Kd.R_new' ho2 (Kd.R_lt (au0 HO_123002.out))) (Kd.R_lt (au0 HO_133002.out))) (Kd.R_lt (au0 HO_144002.out))) (qaf (au12 HB.out GE101.out GE122.out GE132.out GE143.out)))
        replace HO_123002 := am (Kd.R_elder' (au0 HO_123002.out) (Kd.R_base ho2) hb)
        replace HO_133002 := am (Kd.R_elder' (au0 HO_133002.out) (Kd.R_base ho2) hb)
        replace HO_144002 := am (Kd.R_elder' (au0 HO_144002.out) (Kd.R_base ho2) hb)
        replace BK101 := am (qab (au1 BK101.out) hb)
        replace BK122 := am (qab (au1 BK122.out) hb)
        replace BK132 := am (qab (au1 BK132.out) hb)
        replace BK143 := am (qab (au1 BK143.out) hb)
        replace HB := am (qad (au12 HB.out GE101.out GE122.out GE132.out GE143.out) hb)
        (try clear hb)
        (try clear hb2)
        (try clear hk)
        (try clear hi)
        (try clear ho0)
        (try clear ho1)
        (try clear ho2)
        obtain ⟨Ao77, co77, eo77⟩ := Kd.R_slice HO147.out
        (first | subst eo77 | (injection eo77 with f1_ f2_ f3_; have f4_ := f1_.symm; have f5_ := f3_.symm; clear f1_ f2_ f3_; subst f4_; subst f5_))
        obtain ⟨Ao78, co78, eo78⟩ := Kd.R_slice HO150.out
        (first | subst eo78 | (injection eo78 with f1_ f2_ f3_; have f4_ := f1_.symm; have f5_ := f3_.symm; clear f1_ f2_ f3_; subst f4_; subst f5_))
        obtain ⟨Ao79, co79, eo79⟩ := Kd.R_slice HO153.out
        (first | subst eo79 | (injection eo79 with f1_ f2_ f3_; have f4_ := f1_.symm; have f5_ := f3_.symm; clear f1_ f2_ f3_; subst f4_; subst f5_))
        refine hK.out _ _ ⟨(qak BK132.out 0).trans rfl, (qak BK132.out 1).trans rfl, (qak BK132.out 2).trans rfl, (qak BK101.out 0).trans rfl, (qak BK101.out 1).trans rfl, (qak BK101.out 2).trans rfl⟩ (fun hHeld => ?_)
        clear hK K
        refine norm_ (a' := ?_) ?_ ?_
        rotate_left
        ·
         show Act.put _ (some 57) _ = _
         simp only [Act.put, qsA, qsZ, qsS, i64_w, i32_w]
         rfl
        refine one_ (i := 3) (N := some 58) #[true, true, true, true, false] rfl rfl (by kernel_rfl) (by decide) (fun K hK => ?_)
        refine goes_ Try.func16 (by kernel_rfl) rfl #[.agg #[.slice Ao36 t123.length co36, .slice Ao40 t126.length co40, .slice Ao41 t129.length co41], .agg #[.slice Ao77 t145.length co77, .slice Ao78 t148.length co78, .slice Ao79 t151.length co79]] (by rfl) rfl rfl au6 ?_
        with_reducible refine (laws_eqDisk.calls kj16 _ _ t123 _ _ t126 _ _ t129 _ _ t145 _ _ t148 _ _ t151 true _ ?side1 ?side2 ?side3 ?side4 ?side5 ?side6 ?side7 ?side8 ?side9 ?side10 ?side11 ?side12 A71.out).mono ?_
        (case side1 => repeat (first | exact (Kd.R_reads' HO_133000.out).2.2 | (with_reducible refine Kd.C_alloc ?_ _) | (with_reducible refine Kd.C_drewN ?_ _) | (with_reducible refine Kd.C_drew ?_)))
        (case side2 => exact (Kd.R_reads' HO_133000.out).2.1)
        (case side3 => repeat (first | exact (Kd.R_reads' HO_133001.out).2.2 | (with_reducible refine Kd.C_alloc ?_ _) | (with_reducible refine Kd.C_drewN ?_ _) | (with_reducible refine Kd.C_drew ?_)))
        (case side4 => exact (Kd.R_reads' HO_133001.out).2.1)
        (case side5 => repeat (first | exact (Kd.R_reads' HO_133002.out).2.2 | (with_reducible refine Kd.C_alloc ?_ _) | (with_reducible refine Kd.C_drewN ?_ _) | (with_reducible refine Kd.C_drew ?_)))
        (case side6 => exact (Kd.R_reads' HO_133002.out).2.1)
        (case side7 => repeat (first | exact (Kd.R_reads' HO147.out).2.2 | (with_reducible refine Kd.C_alloc ?_ _) | (with_reducible refine Kd.C_drewN ?_ _) | (with_reducible refine Kd.C_drew ?_)))
        (case side8 => exact (Kd.R_reads' HO147.out).2.1)
        (case side9 => repeat (first | exact (Kd.R_reads' HO150.out).2.2 | (with_reducible refine Kd.C_alloc ?_ _) | (with_reducible refine Kd.C_drewN ?_ _) | (with_reducible refine Kd.C_drew ?_)))
        (case side10 => exact (Kd.R_reads' HO150.out).2.1)
        (case side11 => repeat (first | exact (Kd.R_reads' HO153.out).2.2 | (with_reducible refine Kd.C_alloc ?_ _) | (with_reducible refine Kd.C_drewN ?_ _) | (with_reducible refine Kd.C_drew ?_)))
        (case side12 => exact (Kd.R_reads' HO153.out).2.1)
        rintro e w80 ⟨rfl, hb⟩
        refine ⟨_, rfl, ?_⟩
        replace HO_123000 := am (Kd.R_below (au0 HO_123000.out) hb)
        replace HO_123001 := am (Kd.R_below (au0 HO_123001.out) hb)
        replace HO_123002 := am (Kd.R_below (au0 HO_123002.out) hb)
        replace HO_133000 := am (Kd.R_below (au0 HO_133000.out) hb)
        replace HO_133001 := am (Kd.R_below (au0 HO_133001.out) hb)
        replace HO_133002 := am (Kd.R_below (au0 HO_133002.out) hb)
        replace HO_144000 := am (Kd.R_below (au0 HO_144000.out) hb)
        replace HO_144001 := am (Kd.R_below (au0 HO_144001.out) hb)
        replace HO_144002 := am (Kd.R_below (au0 HO_144002.out) hb)
        replace HO147 := am (Kd.R_below (au0 HO147.out) hb)
        replace HO150 := am (Kd.R_below (au0 HO150.out) hb)
        replace HO153 := am (Kd.R_below (au0 HO153.out) hb)
        replace BK101 := am (qab (au1 BK101.out) hb)
        replace BK122 := am (qab (au1 BK122.out) hb)
        replace BK132 := am (qab (au1 BK132.out) hb)
        replace BK143 := am (qab (au1 BK143.out) hb)
        replace HB := am (qad (au12 HB.out GE101.out GE122.out GE132.out GE143.out) hb)
        (try clear hb)
        (try clear hb2)
        (try clear hk)
        (try clear hi)
        refine hK.out _ _ ⟨(qak BK132.out 0).trans rfl, (qak BK132.out 1).trans rfl, (qak BK132.out 2).trans rfl, (qak BK101.out 0).trans rfl, (qak BK101.out 1).trans rfl, (qak BK101.out 2).trans rfl⟩ (fun hHeld => ?_)
        clear hK K
        refine norm_ (a' := ?_) ?_ ?_
        rotate_left
        ·
         show Act.put _ (some 58) _ = _
         simp only [Act.put, qsA, qsZ, qsS, i64_w, i32_w]
         rfl
        refine pure_ (i := 4) (N := some 59) (v := ?_) (a' := ?_) #[true, true, true, true, true] rfl rfl (by kernel_rfl) (fun _ _ _ h => h) (Or.inl ⟨by rfl, ?_⟩) ?_ ?_
        rotate_left
        ·
         intro w'
         go_simp
         with_reducible rfl
        rotate_left
        ·
         simp only [Act.put, qsA, qsZ, qsS, i64_w, i32_w]
         rfl
        refine done_ (by kernel_rfl) ?_
        have hnb81 := NB132_101.out
        have hnc81 := NB101_132.out
        have hnb82 := NB132_122.out
        have hnc82 := NB122_132.out
        have hnb83 := NB132_143.out
        have hnc83 := NB143_132.out
        have hcz84_0 : _ = some (Value.slice Ao36 t123.length co36) := bcE BK132.out 0
        have hcz84_1 : _ = some (Value.slice Ao40 t126.length co40) := bcE BK132.out 1
        have hcz84_2 : _ = some (Value.slice Ao41 t129.length co41) := bcE BK132.out 2
        have hfz84_0 := qaa BK132.out 0
        have hfz84_1 := qaa BK132.out 1
        have hfz84_2 := qaa BK132.out 2
        go_upto_region 18 with (first | ((with_reducible refine qaj (f := 29) rfl ?_); refine qap (some 62) rfl rfl Try.func29 (by kernel_rfl) rfl #[.agg #[.slice Ao36 t123.length co36, .slice Ao40 t126.length co40, .slice Ao41 t129.length co41], .int .i64 1] rfl au6 ?_; (with_reducible refine (laws_markDisk.calls kj16 (fun k_ => some k_ = (.slice Ao36 t123.length co36 : Value).ownBlock) (.slice Ao36 t123.length co36) t123 (fun k_ => some k_ = (.slice Ao40 t126.length co40 : Value).ownBlock) (.slice Ao40 t126.length co40) t126 (fun k_ => some k_ = (.slice Ao41 t129.length co41 : Value).ownBlock) (.slice Ao41 t129.length co41) t129 1 t155 t156 t157 t158 w _ ?side1 ?side2 ?side3 ?side4 ?side5 ?side6 A73.out).mono ?_); (case side1 => repeat (first | (with_reducible first | exact HB.out | apply qaq | apply qaw | apply qay | refine qar ?_ GE101.out | refine qar ?_ GE122.out | refine qar ?_ GE132.out | refine qar ?_ GE143.out) | exact HB.out)); (case side2 => exact Kd.R_tight rfl HO_133000.out); (case side3 => exact fun k_ e_ => (HO_133000.out.1 k_ e_.symm).1.1.2.2.1); (case side4 => exact Kd.R_tight rfl HO_133001.out); (case side5 => exact fun k_ e_ => (HO_133001.out.1 k_ e_.symm).1.1.2.2.1); (case side6 => exact Kd.R_tight rfl HO_133002.out); rintro e w85 ⟨rfl, hy0, hy1, hy2, hb, hkp⟩; refine ⟨_, rfl, ?_⟩; replace HO_123000 := am (Kd.R_mono (ok' := fun k_ => some k_ ≠ (.slice Ao31 t115.length co31 : Value).ownBlock ∧ some k_ ≠ (.slice Ao36 t123.length co36 : Value).ownBlock ∧ some k_ ≠ (.slice Ao40 t126.length co40 : Value).ownBlock ∧ some k_ ≠ (.slice Ao44 t133.length co44 : Value).ownBlock ∧ some k_ ≠ (.slice Ao49 t136.length co49 : Value).ownBlock ∧ some k_ ≠ (.slice Ao77 t145.length co77 : Value).ownBlock ∧ some k_ ≠ (.slice Ao78 t148.length co78 : Value).ownBlock) (Kd.R_keptB ((Kd.R_apart' HO_123000.out (Kd.R_typed HO_133002.out) (by decide))) hkp (fun k_ hk_ hs_ => Or.elim hs_ (fun e_ => (hk_.1.1.1.2.1) e_) (fun e_ => Or.elim e_ (fun e_ => (hk_.1.1.1.2.2.1) e_) (fun e_ => (hk_.2) e_)))) (fun k_ hk_ => ⟨hk_.1.1.1.1.1, hk_.1.1.1.1.2.1, hk_.1.1.1.1.2.2.1, hk_.1.1.1.1.2.2.2.1, hk_.1.1.1.1.2.2.2.2, hk_.1.1.1.2, hk_.1.1.2⟩)); replace HO_123001 := am (Kd.R_mono (ok' := fun k_ => some k_ ≠ (.slice Ao28 t112.length co28 : Value).ownBlock ∧ some k_ ≠ (.slice Ao36 t123.length co36 : Value).ownBlock ∧ some k_ ≠ (.slice Ao40 t126.length co40 : Value).ownBlock ∧ some k_ ≠ (.slice Ao44 t133.length co44 : Value).ownBlock ∧ some k_ ≠ (.slice Ao49 t136.length co49 : Value).ownBlock ∧ some k_ ≠ (.slice Ao77 t145.length co77 : Value).ownBlock ∧ some k_ ≠ (.slice Ao78 t148.length co78 : Value).ownBlock) (Kd.R_keptB ((Kd.R_apart' HO_123001.out (Kd.R_typed HO_133002.out) (by decide))) hkp (fun k_ hk_ hs_ => Or.elim hs_ (fun e_ => (hk_.1.1.1.2.1) e_) (fun e_ => Or.elim e_ (fun e_ => (hk_.1.1.1.2.2.1) e_) (fun e_ => (hk_.2) e_)))) (fun k_ hk_ => ⟨hk_.1.1.1.1.1, hk_.1.1.1.1.2.1, hk_.1.1.1.1.2.2.1, hk_.1.1.1.1.2.2.2.1, hk_.1.1.1.1.2.2.2.2, hk_.1.1.1.2, hk_.1.1.2⟩)); replace HO_123002 := am (Kd.R_mono (ok' := fun k_ => some k_ ≠ (.slice Ao41 t129.length co41 : Value).ownBlock ∧ some k_ ≠ (.slice Ao50 t139.length co50 : Value).ownBlock ∧ some k_ ≠ (.slice Ao79 t151.length co79 : Value).ownBlock) (Kd.R_keptB ((Kd.R_apart' (Kd.R_apart' HO_123002.out (Kd.R_typed HO_133000.out) (by decide)) (Kd.R_typed HO_133001.out) (by decide))) hkp (fun k_ hk_ hs_ => Or.elim hs_ (fun e_ => (hk_.1.2) e_) (fun e_ => Or.elim e_ (fun e_ => (hk_.2) e_) (fun e_ => (hk_.1.1.1.1) e_)))) (fun k_ hk_ => ⟨hk_.1.1.1.1.1, hk_.1.1.1.1.2, hk_.1.1.1.2⟩)); replace HO_144000 := am (Kd.R_mono (ok' := fun k_ => some k_ ≠ (.slice Ao28 t112.length co28 : Value).ownBlock ∧ some k_ ≠ (.slice Ao31 t115.length co31 : Value).ownBlock ∧ some k_ ≠ (.slice Ao36 t123.length co36 : Value).ownBlock ∧ some k_ ≠ (.slice Ao40 t126.length co40 : Value).ownBlock ∧ some k_ ≠ (.slice Ao49 t136.length co49 : Value).ownBlock ∧ some k_ ≠ (.slice Ao77 t145.length co77 : Value).ownBlock ∧ some k_ ≠ (.slice Ao78 t148.length co78 : Value).ownBlock) (Kd.R_keptB ((Kd.R_apart' HO_144000.out (Kd.R_typed HO_133002.out) (by decide))) hkp (fun k_ hk_ hs_ => Or.elim hs_ (fun e_ => (hk_.1.1.1.2.2.1) e_) (fun e_ => Or.elim e_ (fun e_ => (hk_.1.1.1.2.2.2.1) e_) (fun e_ => (hk_.2) e_)))) (fun k_ hk_ => ⟨hk_.1.1.1.1.1, hk_.1.1.1.1.2.1, hk_.1.1.1.1.2.2.1, hk_.1.1.1.1.2.2.2.1, hk_.1.1.1.1.2.2.2.2, hk_.1.1.1.2, hk_.1.1.2⟩)); replace HO_144001 := am (Kd.R_mono (ok' := fun k_ => some k_ ≠ (.slice Ao28 t112.length co28 : Value).ownBlock ∧ some k_ ≠ (.slice Ao31 t115.length co31 : Value).ownBlock ∧ some k_ ≠ (.slice Ao36 t123.length co36 : Value).ownBlock ∧ some k_ ≠ (.slice Ao40 t126.length co40 : Value).ownBlock ∧ some k_ ≠ (.slice Ao44 t133.length co44 : Value).ownBlock ∧ some k_ ≠ (.slice Ao77 t145.length co77 : Value).ownBlock ∧ some k_ ≠ (.slice Ao78 t148.length co78 : Value).ownBlock) (Kd.R_keptB ((Kd.R_apart' HO_144001.out (Kd.R_typed HO_133002.out) (by decide))) hkp (fun k_ hk_ hs_ => Or.elim hs_ (fun e_ => (hk_.1.1.1.2.2.1) e_) (fun e_ => Or.elim e_ (fun e_ => (hk_.1.1.1.2.2.2.1) e_) (fun e_ => (hk_.2) e_)))) (fun k_ hk_ => ⟨hk_.1.1.1.1.1, hk_.1.1.1.1.2.1, hk_.1.1.1.1.2.2.1, hk_.1.1.1.1.2.2.2.1, hk_.1.1.1.1.2.2.2.2, hk_.1.1.1.2, hk_.1.1.2⟩)); replace HO_144002 := am (Kd.R_mono (ok' := fun k_ => some k_ ≠ (.slice Ao32 t118.length co32 : Value).ownBlock ∧ some k_ ≠ (.slice Ao41 t129.length co41 : Value).ownBlock ∧ some k_ ≠ (.slice Ao79 t151.length co79 : Value).ownBlock) (Kd.R_keptB ((Kd.R_apart' (Kd.R_apart' HO_144002.out (Kd.R_typed HO_133000.out) (by decide)) (Kd.R_typed HO_133001.out) (by decide))) hkp (fun k_ hk_ hs_ => Or.elim hs_ (fun e_ => (hk_.1.2) e_) (fun e_ => Or.elim e_ (fun e_ => (hk_.2) e_) (fun e_ => (hk_.1.1.1.2) e_)))) (fun k_ hk_ => ⟨hk_.1.1.1.1.1, hk_.1.1.1.1.2, hk_.1.1.1.2⟩)); replace BK101 := am (qbu (au1 BK101.out) hkp (fun hs_ => Or.elim hs_ (fun e_ => (fun e_ => (Kd.R_ne HO_133000.out BK101.out (by decide)) e_) e_) (fun e_ => Or.elim e_ (fun e_ => (fun e_ => (Kd.R_ne HO_133001.out BK101.out (by decide)) e_) e_) (fun e_ => (fun e_ => (Kd.R_ne HO_133002.out BK101.out (by decide)) e_) e_)))); replace BK122 := am (qbu (au1 BK122.out) hkp (fun hs_ => Or.elim hs_ (fun e_ => (fun e_ => (Kd.R_ne HO_133000.out BK122.out (by decide)) e_) e_) (fun e_ => Or.elim e_ (fun e_ => (fun e_ => (Kd.R_ne HO_133001.out BK122.out (by decide)) e_) e_) (fun e_ => (fun e_ => (Kd.R_ne HO_133002.out BK122.out (by decide)) e_) e_)))); replace BK132 := am (qbu (au1 BK132.out) hkp (fun hs_ => Or.elim hs_ (fun e_ => (fun e_ => (Kd.R_ne HO_133000.out BK132.out (by decide)) e_) e_) (fun e_ => Or.elim e_ (fun e_ => (fun e_ => (Kd.R_ne HO_133001.out BK132.out (by decide)) e_) e_) (fun e_ => (fun e_ => (Kd.R_ne HO_133002.out BK132.out (by decide)) e_) e_)))); replace BK143 := am (qbu (au1 BK143.out) hkp (fun hs_ => Or.elim hs_ (fun e_ => (fun e_ => (Kd.R_ne HO_133000.out BK143.out (by decide)) e_) e_) (fun e_ => Or.elim e_ (fun e_ => (fun e_ => (Kd.R_ne HO_133001.out BK143.out (by decide)) e_) e_) (fun e_ => (fun e_ => (Kd.R_ne HO_133002.out BK143.out (by decide)) e_) e_)))); replace HO147 := am (Kd.R_mono (ok' := fun k_ => some k_ ≠ (.slice Ao28 t112.length co28 : Value).ownBlock ∧ some k_ ≠ (.slice Ao31 t115.length co31 : Value).ownBlock ∧ some k_ ≠ (.slice Ao36 t123.length co36 : Value).ownBlock ∧ some k_ ≠ (.slice Ao40 t126.length co40 : Value).ownBlock ∧ some k_ ≠ (.slice Ao44 t133.length co44 : Value).ownBlock ∧ some k_ ≠ (.slice Ao49 t136.length co49 : Value).ownBlock ∧ some k_ ≠ (.slice Ao78 t148.length co78 : Value).ownBlock) (Kd.R_keptB ((Kd.R_apart' HO147.out (Kd.R_typed HO_133002.out) (by decide))) hkp (fun k_ hk_ hs_ => Or.elim hs_ (fun e_ => (hk_.1.1.1.1.2) e_) (fun e_ => Or.elim e_ (fun e_ => (hk_.1.1.1.2) e_) (fun e_ => (hk_.2) e_)))) (fun k_ hk_ => ⟨hk_.1.1.1.1.1.1.1.2, hk_.1.1.1.1.1.1.2, hk_.1.1.1.1.1.2, hk_.1.1.1.1.2, hk_.1.1.1.2, hk_.1.1.2, hk_.1.1.1.1.1.1.1.1⟩)); replace HO150 := am (Kd.R_mono (ok' := fun k_ => some k_ ≠ (.slice Ao28 t112.length co28 : Value).ownBlock ∧ some k_ ≠ (.slice Ao31 t115.length co31 : Value).ownBlock ∧ some k_ ≠ (.slice Ao36 t123.length co36 : Value).ownBlock ∧ some k_ ≠ (.slice Ao40 t126.length co40 : Value).ownBlock ∧ some k_ ≠ (.slice Ao44 t133.length co44 : Value).ownBlock ∧ some k_ ≠ (.slice Ao49 t136.length co49 : Value).ownBlock ∧ some k_ ≠ (.slice Ao77 t145.length co77 : Value).ownBlock) (Kd.R_keptB ((Kd.R_apart' HO150.out (Kd.R_typed HO_133002.out) (by decide))) hkp (fun k_ hk_ hs_ => Or.elim hs_ (fun e_ => (hk_.1.1.1.1.2) e_) (fun e_ => Or.elim e_ (fun e_ => (hk_.1.1.1.2) e_) (fun e_ => (hk_.2) e_)))) (fun k_ hk_ => ⟨hk_.1.1.1.1.1.1.1.2, hk_.1.1.1.1.1.1.2, hk_.1.1.1.1.1.2, hk_.1.1.1.1.2, hk_.1.1.1.2, hk_.1.1.2, hk_.1.1.1.1.1.1.1.1⟩)); replace HO_133002 := am (Kd.R_reok rfl hy2 (fun k_ e_ => HO_133002.out.1 k_ e_)); replace HO153 := am (Kd.R_mono (ok' := fun k_ => some k_ ≠ (.slice Ao32 t118.length co32 : Value).ownBlock ∧ some k_ ≠ (.slice Ao41 t129.length co41 : Value).ownBlock ∧ some k_ ≠ (.slice Ao50 t139.length co50 : Value).ownBlock) (Kd.R_keptB ((Kd.R_apart' (Kd.R_apart' HO153.out (Kd.R_typed HO_133000.out) (by decide)) (Kd.R_typed HO_133001.out) (by decide))) hkp (fun k_ hk_ hs_ => Or.elim hs_ (fun e_ => (hk_.1.2) e_) (fun e_ => Or.elim e_ (fun e_ => (hk_.2) e_) (fun e_ => (hk_.1.1.1.2) e_)))) (fun k_ hk_ => ⟨hk_.1.1.1.1.1.2, hk_.1.1.1.1.2, hk_.1.1.1.2⟩)); replace HO_133000 := am (Kd.R_reok rfl hy0 (fun k_ e_ => HO_133000.out.1 k_ e_)); replace HO_133001 := am (Kd.R_reok rfl hy1 (fun k_ e_ => HO_133001.out.1 k_ e_)); replace HB := am (hb); (try clear hb); (try clear hkp); (try clear hy0); (try clear hy1); (try clear hy2)))
        (try simp only [Act.put, qsA, qsZ, qsS])
        go_cut [75] (fun v75 wc => ∃ (kq : Nat) (x75_73 : Bool), v75 = .bool x75_73 ∧ Aside0 (laws_FnExactReplace.j1 kq a1 a2 t121 x75_73 l0_0 l0_1 l0_2 t112 t115 t118 t133 t136 t139 = some true) ∧ Aside0 (kq ≤ kj16) ∧ Aside0 (Kd.R k80 80 wc w.heap.size (fun k_ => some k_ ≠ ((.slice Ao31 t115.length co31) : Value).ownBlock ∧ some k_ ≠ ((.slice Ao36 t123.length co36) : Value).ownBlock ∧ some k_ ≠ ((.slice Ao40 t126.length co40) : Value).ownBlock ∧ some k_ ≠ ((.slice Ao44 t133.length co44) : Value).ownBlock ∧ some k_ ≠ ((.slice Ao49 t136.length co49) : Value).ownBlock) (.slice Ao28 t112.length co28) t112) ∧ Aside0 (Kd.R k80 80 wc w.heap.size (fun k_ => some k_ ≠ ((.slice Ao28 t112.length co28) : Value).ownBlock ∧ some k_ ≠ ((.slice Ao36 t123.length co36) : Value).ownBlock ∧ some k_ ≠ ((.slice Ao40 t126.length co40) : Value).ownBlock ∧ some k_ ≠ ((.slice Ao44 t133.length co44) : Value).ownBlock ∧ some k_ ≠ ((.slice Ao49 t136.length co49) : Value).ownBlock) (.slice Ao31 t115.length co31) t115) ∧ Aside0 (Kd.R k73 73 wc w.heap.size (fun k_ => some k_ ≠ ((.slice Ao41 t129.length co41) : Value).ownBlock ∧ some k_ ≠ ((.slice Ao50 t139.length co50) : Value).ownBlock) (.slice Ao32 t118.length co32) t118) ∧ Aside0 (Kd.R k80 80 wc w.heap.size (fun k_ => some k_ ≠ ((.slice Ao28 t112.length co28) : Value).ownBlock ∧ some k_ ≠ ((.slice Ao31 t115.length co31) : Value).ownBlock ∧ some k_ ≠ ((.slice Ao40 t126.length co40) : Value).ownBlock ∧ some k_ ≠ ((.slice Ao44 t133.length co44) : Value).ownBlock ∧ some k_ ≠ ((.slice Ao49 t136.length co49) : Value).ownBlock) (.slice Ao36 t123.length co36) t156) ∧ Aside0 (Kd.R k80 80 wc w.heap.size (fun k_ => some k_ ≠ ((.slice Ao28 t112.length co28) : Value).ownBlock ∧ some k_ ≠ ((.slice Ao31 t115.length co31) : Value).ownBlock ∧ some k_ ≠ ((.slice Ao36 t123.length co36) : Value).ownBlock ∧ some k_ ≠ ((.slice Ao44 t133.length co44) : Value).ownBlock ∧ some k_ ≠ ((.slice Ao49 t136.length co49) : Value).ownBlock) (.slice Ao40 t126.length co40) t157) ∧ Aside0 (Kd.R k73 73 wc w.heap.size (fun k_ => some k_ ≠ ((.slice Ao32 t118.length co32) : Value).ownBlock ∧ some k_ ≠ ((.slice Ao50 t139.length co50) : Value).ownBlock) (.slice Ao41 t129.length co41) t158) ∧ Aside0 (Kd.R k80 80 wc w.heap.size (fun k_ => some k_ ≠ ((.slice Ao28 t112.length co28) : Value).ownBlock ∧ some k_ ≠ ((.slice Ao31 t115.length co31) : Value).ownBlock ∧ some k_ ≠ ((.slice Ao36 t123.length co36) : Value).ownBlock ∧ some k_ ≠ ((.slice Ao40 t126.length co40) : Value).ownBlock ∧ some k_ ≠ ((.slice Ao49 t136.length co49) : Value).ownBlock) (.slice Ao44 t133.length co44) t133) ∧ Aside0 (Kd.R k80 80 wc w.heap.size (fun k_ => some k_ ≠ ((.slice Ao28 t112.length co28) : Value).ownBlock ∧ some k_ ≠ ((.slice Ao31 t115.length co31) : Value).ownBlock ∧ some k_ ≠ ((.slice Ao36 t123.length co36) : Value).ownBlock ∧ some k_ ≠ ((.slice Ao40 t126.length co40) : Value).ownBlock ∧ some k_ ≠ ((.slice Ao44 t133.length co44) : Value).ownBlock) (.slice Ao49 t136.length co49) t136) ∧ Aside0 (Kd.R k73 73 wc w.heap.size (fun k_ => some k_ ≠ ((.slice Ao32 t118.length co32) : Value).ownBlock ∧ some k_ ≠ ((.slice Ao41 t129.length co41) : Value).ownBlock) (.slice Ao50 t139.length co50) t139) ∧ Aside0 (wc.heap[gb101]? = some (.cells #[(.slice A0_0 l0_0.length c0_0), (.slice A0_1 l0_1.length c0_1), (.slice A0_2 l0_2.length c0_2)] 25 (0, 0))) ∧ Aside0 (wc.heap[gb122]? = some (.cells #[(.slice Ao28 t112.length co28), (.slice Ao31 t115.length co31), (.slice Ao32 t118.length co32)] 31 (0, 0))) ∧ Aside0 (wc.heap[gb132]? = some (.cells #[(.slice Ao36 t123.length co36), (.slice Ao40 t126.length co40), (.slice Ao41 t129.length co41)] 31 (0, 0))) ∧ Aside0 (wc.heap[gb143]? = some (.cells #[(.slice Ao44 t133.length co44), (.slice Ao49 t136.length co49), (.slice Ao50 t139.length co50)] 31 (0, 0))) ∧ Aside0 (Below w.heap.size w wc))
        case first =>
         have H := HC74.out
         clear HC74
         by_cases c86 : t155 < 0
         ·
          rw [if_pos c86] at H
          have c86b0 : decide (t155 < 0) = true := decide_eq_true c86
          clear c86
          (first | rw [c86b0] | (simp only [i64_w, i32_w]; rw [c86b0]) | skip)
          have H' := am H
          clear H
          go_wp2
          go_meet
          case rel => exact ⟨_, (true), au10, H', ⟨by have := HJ16.out; first | omega | exact Nat.le_refl _⟩, ⟨by refine au0 ?_; exact Kd.R_mono HO_123000.out (fun _ hk => ⟨hk.1, ⟨hk.2.1, ⟨hk.2.2.1, ⟨hk.2.2.2.1, hk.2.2.2.2.1⟩⟩⟩⟩)⟩, ⟨by refine au0 ?_; exact Kd.R_mono HO_123001.out (fun _ hk => ⟨hk.1, ⟨hk.2.1, ⟨hk.2.2.1, ⟨hk.2.2.2.1, hk.2.2.2.2.1⟩⟩⟩⟩)⟩, ⟨by refine au0 ?_; exact Kd.R_mono HO_123002.out (fun _ hk => ⟨hk.1, hk.2.1⟩)⟩, ⟨by refine au0 ?_; exact Kd.R_mono HO_133000.out (fun _ hk => ⟨hk.1.1.1, ⟨hk.1.1.2.1, ⟨hk.1.1.2.2.1, ⟨hk.1.1.2.2.2.1, hk.1.1.2.2.2.2⟩⟩⟩⟩)⟩, ⟨by refine au0 ?_; exact Kd.R_mono HO_133001.out (fun _ hk => ⟨hk.1.1.1, ⟨hk.1.1.2.1, ⟨hk.1.1.2.2.1, ⟨hk.1.1.2.2.2.1, hk.1.1.2.2.2.2⟩⟩⟩⟩)⟩, ⟨by refine au0 ?_; exact Kd.R_mono HO_133002.out (fun _ hk => ⟨hk.1.1, hk.1.2⟩)⟩, ⟨by refine au0 ?_; exact Kd.R_mono HO_144000.out (fun _ hk => ⟨hk.1, ⟨hk.2.1, ⟨hk.2.2.1, ⟨hk.2.2.2.1, hk.2.2.2.2.1⟩⟩⟩⟩)⟩, ⟨by refine au0 ?_; exact Kd.R_mono HO_144001.out (fun _ hk => ⟨hk.1, ⟨hk.2.1, ⟨hk.2.2.1, ⟨hk.2.2.2.1, hk.2.2.2.2.1⟩⟩⟩⟩)⟩, ⟨by refine au0 ?_; exact Kd.R_mono HO_144002.out (fun _ hk => ⟨hk.1, hk.2.1⟩)⟩, ⟨au1 BK101.out⟩, ⟨au1 BK122.out⟩, ⟨au1 BK132.out⟩, ⟨au1 BK143.out⟩, ⟨(au12 HB.out GE101.out GE122.out GE132.out GE143.out)⟩⟩
         ·
          rw [if_neg c86] at H
          have c86b0 : decide (t155 < 0) = false := decide_eq_false c86
          clear c86
          (first | rw [c86b0] | (simp only [i64_w, i32_w]; rw [c86b0]) | skip)
          replace H := Option.bind_eq_some_iff.mp H
          obtain ⟨t159, A870, H⟩ := H
          replace H : (if t159 = true then (laws_FnExactReplace.j1 kj16 a1 a2 t121 (t142 != t121) l0_0 l0_1 l0_2 t112 t115 t118 t133 t136 t139) else (laws_FnExactReplace.j1 kj16 a1 a2 t121 true l0_0 l0_1 l0_2 t112 t115 t118 t133 t136 t139)) = some true := H
          have A87 := am A870
          clear A870
          by_cases c88 : t159 = true
          ·
           subst c88
           have H1 : (laws_FnExactReplace.j1 kj16 a1 a2 t121 (t142 != t121) l0_0 l0_1 l0_2 t112 t115 t118 t133 t136 t139) = some true := by first | (with_reducible rfl) | (rw [if_pos rfl] at H; exact H)
           clear H
           have H := H1
           clear H1
           have H' := am H
           clear H
           have hnb89 := NB143_101.out
           have hnc89 := NB101_143.out
           have hnb90 := NB143_122.out
           have hnc90 := NB122_143.out
           have hnb91 := NB143_132.out
           have hnc91 := NB132_143.out
           have hcz92_0 : _ = some (Value.slice Ao44 t133.length co44) := bcE BK143.out 0
           have hcz92_1 : _ = some (Value.slice Ao49 t136.length co49) := bcE BK143.out 1
           have hcz92_2 : _ = some (Value.slice Ao50 t139.length co50) := bcE BK143.out 2
           have hfz92_0 := qaa BK143.out 0
           have hfz92_1 := qaa BK143.out 1
           have hfz92_2 := qaa BK143.out 2
           have hnb93 := NB122_101.out
           have hnc93 := NB101_122.out
           have hnb94 := NB122_132.out
           have hnc94 := NB132_122.out
           have hcz95_0 : _ = some (Value.slice Ao28 t112.length co28) := bcE BK122.out 0
           have hcz95_1 : _ = some (Value.slice Ao31 t115.length co31) := bcE BK122.out 1
           have hcz95_2 : _ = some (Value.slice Ao32 t118.length co32) := bcE BK122.out 2
           have hfz95_0 := qaa BK122.out 0
           have hfz95_1 := qaa BK122.out 1
           have hfz95_2 := qaa BK122.out 2
           go_wp2_with (first | (go_at_call 16; (with_reducible refine (laws_eqDisk.calls kj16 _ _ t133 _ _ t136 _ _ t139 _ _ t112 _ _ t115 _ _ t118 true _ ?side1 ?side2 ?side3 ?side4 ?side5 ?side6 ?side7 ?side8 ?side9 ?side10 ?side11 ?side12 A87.out).mono ?_); (case side1 => repeat (first | exact (Kd.R_reads' HO_144000.out).2.2 | (with_reducible refine Kd.C_alloc ?_ _) | (with_reducible refine Kd.C_drewN ?_ _) | (with_reducible refine Kd.C_drew ?_))); (case side2 => exact (Kd.R_reads' HO_144000.out).2.1); (case side3 => repeat (first | exact (Kd.R_reads' HO_144001.out).2.2 | (with_reducible refine Kd.C_alloc ?_ _) | (with_reducible refine Kd.C_drewN ?_ _) | (with_reducible refine Kd.C_drew ?_))); (case side4 => exact (Kd.R_reads' HO_144001.out).2.1); (case side5 => repeat (first | exact (Kd.R_reads' HO_144002.out).2.2 | (with_reducible refine Kd.C_alloc ?_ _) | (with_reducible refine Kd.C_drewN ?_ _) | (with_reducible refine Kd.C_drew ?_))); (case side6 => exact (Kd.R_reads' HO_144002.out).2.1); (case side7 => repeat (first | exact (Kd.R_reads' HO_123000.out).2.2 | (with_reducible refine Kd.C_alloc ?_ _) | (with_reducible refine Kd.C_drewN ?_ _) | (with_reducible refine Kd.C_drew ?_))); (case side8 => exact (Kd.R_reads' HO_123000.out).2.1); (case side9 => repeat (first | exact (Kd.R_reads' HO_123001.out).2.2 | (with_reducible refine Kd.C_alloc ?_ _) | (with_reducible refine Kd.C_drewN ?_ _) | (with_reducible refine Kd.C_drew ?_))); (case side10 => exact (Kd.R_reads' HO_123001.out).2.1); (case side11 => repeat (first | exact (Kd.R_reads' HO_123002.out).2.2 | (with_reducible refine Kd.C_alloc ?_ _) | (with_reducible refine Kd.C_drewN ?_ _) | (with_reducible refine Kd.C_drew ?_))); (case side12 => exact (Kd.R_reads' HO_123002.out).2.1); rintro e w96 ⟨rfl, hb⟩; have n0_ := am (Kd.R_below (au0 HO_123000.out) hb); have n1_ := am (Kd.R_below (au0 HO_123001.out) hb); have n2_ := am (Kd.R_below (au0 HO_123002.out) hb); have n3_ := am (Kd.R_below (au0 HO_133000.out) hb); have n4_ := am (Kd.R_below (au0 HO_133001.out) hb); have n5_ := am (Kd.R_below (au0 HO_133002.out) hb); have n6_ := am (Kd.R_below (au0 HO_144000.out) hb); have n7_ := am (Kd.R_below (au0 HO_144001.out) hb); have n8_ := am (Kd.R_below (au0 HO_144002.out) hb); have n9_ := am (Kd.R_below (au0 HO147.out) hb); have n10_ := am (Kd.R_below (au0 HO150.out) hb); have n11_ := am (Kd.R_below (au0 HO153.out) hb); have n12_ := am (qab (au1 BK101.out) hb); have n13_ := am (qab (au1 BK122.out) hb); have n14_ := am (qab (au1 BK132.out) hb); have n15_ := am (qab (au1 BK143.out) hb); have n16_ := am (qad (au12 HB.out GE101.out GE122.out GE132.out GE143.out) hb); clear HO_123000; clear HO_123001; clear HO_123002; clear HO_133000; clear HO_133001; clear HO_133002; clear HO_144000; clear HO_144001; clear HO_144002; clear HO147; clear HO150; clear HO153; clear BK101; clear BK122; clear BK132; clear BK143; clear HB; have HO_123000 := n0_; have HO_123001 := n1_; have HO_123002 := n2_; have HO_133000 := n3_; have HO_133001 := n4_; have HO_133002 := n5_; have HO_144000 := n6_; have HO_144001 := n7_; have HO_144002 := n8_; have HO147 := n9_; have HO150 := n10_; have HO153 := n11_; have BK101 := n12_; have BK122 := n13_; have BK132 := n14_; have BK143 := n15_; have HB := n16_; clear n0_ n1_ n2_ n3_ n4_ n5_ n6_ n7_ n8_ n9_ n10_ n11_ n12_ n13_ n14_ n15_ n16_; (try clear hb); (try clear hb2); (try clear hk); (try clear hi)))
           go_meet
           case rel => exact ⟨_, ((t142 != t121)), au10, H', ⟨by have := HJ16.out; first | omega | exact Nat.le_refl _⟩, ⟨by refine au0 ?_; exact Kd.R_mono HO_123000.out (fun _ hk => ⟨hk.1, ⟨hk.2.1, ⟨hk.2.2.1, ⟨hk.2.2.2.1, hk.2.2.2.2.1⟩⟩⟩⟩)⟩, ⟨by refine au0 ?_; exact Kd.R_mono HO_123001.out (fun _ hk => ⟨hk.1, ⟨hk.2.1, ⟨hk.2.2.1, ⟨hk.2.2.2.1, hk.2.2.2.2.1⟩⟩⟩⟩)⟩, ⟨by refine au0 ?_; exact Kd.R_mono HO_123002.out (fun _ hk => ⟨hk.1, hk.2.1⟩)⟩, ⟨by refine au0 ?_; exact Kd.R_mono HO_133000.out (fun _ hk => ⟨hk.1.1.1, ⟨hk.1.1.2.1, ⟨hk.1.1.2.2.1, ⟨hk.1.1.2.2.2.1, hk.1.1.2.2.2.2⟩⟩⟩⟩)⟩, ⟨by refine au0 ?_; exact Kd.R_mono HO_133001.out (fun _ hk => ⟨hk.1.1.1, ⟨hk.1.1.2.1, ⟨hk.1.1.2.2.1, ⟨hk.1.1.2.2.2.1, hk.1.1.2.2.2.2⟩⟩⟩⟩)⟩, ⟨by refine au0 ?_; exact Kd.R_mono HO_133002.out (fun _ hk => ⟨hk.1.1, hk.1.2⟩)⟩, ⟨by refine au0 ?_; exact Kd.R_mono HO_144000.out (fun _ hk => ⟨hk.1, ⟨hk.2.1, ⟨hk.2.2.1, ⟨hk.2.2.2.1, hk.2.2.2.2.1⟩⟩⟩⟩)⟩, ⟨by refine au0 ?_; exact Kd.R_mono HO_144001.out (fun _ hk => ⟨hk.1, ⟨hk.2.1, ⟨hk.2.2.1, ⟨hk.2.2.2.1, hk.2.2.2.2.1⟩⟩⟩⟩)⟩, ⟨by refine au0 ?_; exact Kd.R_mono HO_144002.out (fun _ hk => ⟨hk.1, hk.2.1⟩)⟩, ⟨au1 BK101.out⟩, ⟨au1 BK122.out⟩, ⟨au1 BK132.out⟩, ⟨au1 BK143.out⟩, ⟨(au12 HB.out GE101.out GE122.out GE132.out GE143.out)⟩⟩
          ·
           replace c88 := Bool.eq_false_iff.mpr c88
           subst c88
           have H1 : (laws_FnExactReplace.j1 kj16 a1 a2 t121 true l0_0 l0_1 l0_2 t112 t115 t118 t133 t136 t139) = some true := by rw [if_neg (show ¬ (false = true) by decide)] at H; exact H
           clear H
           have H := H1
           clear H1
           have H' := am H
           clear H
           have hnb97 := NB143_101.out
           have hnc97 := NB101_143.out
           have hnb98 := NB143_122.out
           have hnc98 := NB122_143.out
           have hnb99 := NB143_132.out
           have hnc99 := NB132_143.out
           have hcz100_0 : _ = some (Value.slice Ao44 t133.length co44) := bcE BK143.out 0
           have hcz100_1 : _ = some (Value.slice Ao49 t136.length co49) := bcE BK143.out 1
           have hcz100_2 : _ = some (Value.slice Ao50 t139.length co50) := bcE BK143.out 2
           have hfz100_0 := qaa BK143.out 0
           have hfz100_1 := qaa BK143.out 1
           have hfz100_2 := qaa BK143.out 2
           have hnb101 := NB122_101.out
           have hnc101 := NB101_122.out
           have hnb102 := NB122_132.out
           have hnc102 := NB132_122.out
           have hcz103_0 : _ = some (Value.slice Ao28 t112.length co28) := bcE BK122.out 0
           have hcz103_1 : _ = some (Value.slice Ao31 t115.length co31) := bcE BK122.out 1
           have hcz103_2 : _ = some (Value.slice Ao32 t118.length co32) := bcE BK122.out 2
           have hfz103_0 := qaa BK122.out 0
           have hfz103_1 := qaa BK122.out 1
           have hfz103_2 := qaa BK122.out 2
           go_wp2_with (first | (go_at_call 16; (with_reducible refine (laws_eqDisk.calls kj16 _ _ t133 _ _ t136 _ _ t139 _ _ t112 _ _ t115 _ _ t118 false _ ?side1 ?side2 ?side3 ?side4 ?side5 ?side6 ?side7 ?side8 ?side9 ?side10 ?side11 ?side12 A87.out).mono ?_); (case side1 => repeat (first | exact (Kd.R_reads' HO_144000.out).2.2 | (with_reducible refine Kd.C_alloc ?_ _) | (with_reducible refine Kd.C_drewN ?_ _) | (with_reducible refine Kd.C_drew ?_))); (case side2 => exact (Kd.R_reads' HO_144000.out).2.1); (case side3 => repeat (first | exact (Kd.R_reads' HO_144001.out).2.2 | (with_reducible refine Kd.C_alloc ?_ _) | (with_reducible refine Kd.C_drewN ?_ _) | (with_reducible refine Kd.C_drew ?_))); (case side4 => exact (Kd.R_reads' HO_144001.out).2.1); (case side5 => repeat (first | exact (Kd.R_reads' HO_144002.out).2.2 | (with_reducible refine Kd.C_alloc ?_ _) | (with_reducible refine Kd.C_drewN ?_ _) | (with_reducible refine Kd.C_drew ?_))); (case side6 => exact (Kd.R_reads' HO_144002.out).2.1); (case side7 => repeat (first | exact (Kd.R_reads' HO_123000.out).2.2 | (with_reducible refine Kd.C_alloc ?_ _) | (with_reducible refine Kd.C_drewN ?_ _) | (with_reducible refine Kd.C_drew ?_))); (case side8 => exact (Kd.R_reads' HO_123000.out).2.1); (case side9 => repeat (first | exact (Kd.R_reads' HO_123001.out).2.2 | (with_reducible refine Kd.C_alloc ?_ _) | (with_reducible refine Kd.C_drewN ?_ _) | (with_reducible refine Kd.C_drew ?_))); (case side10 => exact (Kd.R_reads' HO_123001.out).2.1); (case side11 => repeat (first | exact (Kd.R_reads' HO_123002.out).2.2 | (with_reducible refine Kd.C_alloc ?_ _) | (with_reducible refine Kd.C_drewN ?_ _) | (with_reducible refine Kd.C_drew ?_))); (case side12 => exact (Kd.R_reads' HO_123002.out).2.1); rintro e w104 ⟨rfl, hb⟩; have n0_ := am (Kd.R_below (au0 HO_123000.out) hb); have n1_ := am (Kd.R_below (au0 HO_123001.out) hb); have n2_ := am (Kd.R_below (au0 HO_123002.out) hb); have n3_ := am (Kd.R_below (au0 HO_133000.out) hb); have n4_ := am (Kd.R_below (au0 HO_133001.out) hb); have n5_ := am (Kd.R_below (au0 HO_133002.out) hb); have n6_ := am (Kd.R_below (au0 HO_144000.out) hb); have n7_ := am (Kd.R_below (au0 HO_144001.out) hb); have n8_ := am (Kd.R_below (au0 HO_144002.out) hb); have n9_ := am (Kd.R_below (au0 HO147.out) hb); have n10_ := am (Kd.R_below (au0 HO150.out) hb); have n11_ := am (Kd.R_below (au0 HO153.out) hb); have n12_ := am (qab (au1 BK101.out) hb); have n13_ := am (qab (au1 BK122.out) hb); have n14_ := am (qab (au1 BK132.out) hb); have n15_ := am (qab (au1 BK143.out) hb); have n16_ := am (qad (au12 HB.out GE101.out GE122.out GE132.out GE143.out) hb); clear HO_123000; clear HO_123001; clear HO_123002; clear HO_133000; clear HO_133001; clear HO_133002; clear HO_144000; clear HO_144001; clear HO_144002; clear HO147; clear HO150; clear HO153; clear BK101; clear BK122; clear BK132; clear BK143; clear HB; have HO_123000 := n0_; have HO_123001 := n1_; have HO_123002 := n2_; have HO_133000 := n3_; have HO_133001 := n4_; have HO_133002 := n5_; have HO_144000 := n6_; have HO_144001 := n7_; have HO_144002 := n8_; have HO147 := n9_; have HO150 := n10_; have HO153 := n11_; have BK101 := n12_; have BK122 := n13_; have BK132 := n14_; have BK143 := n15_; have HB := n16_; clear n0_ n1_ n2_ n3_ n4_ n5_ n6_ n7_ n8_ n9_ n10_ n11_ n12_ n13_ n14_ n15_ n16_; (try clear hb); (try clear hb2); (try clear hk); (try clear hi)))
           go_meet
           case rel => exact ⟨_, (true), au10, H', ⟨by have := HJ16.out; first | omega | exact Nat.le_refl _⟩, ⟨by refine au0 ?_; exact Kd.R_mono HO_123000.out (fun _ hk => ⟨hk.1, ⟨hk.2.1, ⟨hk.2.2.1, ⟨hk.2.2.2.1, hk.2.2.2.2.1⟩⟩⟩⟩)⟩, ⟨by refine au0 ?_; exact Kd.R_mono HO_123001.out (fun _ hk => ⟨hk.1, ⟨hk.2.1, ⟨hk.2.2.1, ⟨hk.2.2.2.1, hk.2.2.2.2.1⟩⟩⟩⟩)⟩, ⟨by refine au0 ?_; exact Kd.R_mono HO_123002.out (fun _ hk => ⟨hk.1, hk.2.1⟩)⟩, ⟨by refine au0 ?_; exact Kd.R_mono HO_133000.out (fun _ hk => ⟨hk.1.1.1, ⟨hk.1.1.2.1, ⟨hk.1.1.2.2.1, ⟨hk.1.1.2.2.2.1, hk.1.1.2.2.2.2⟩⟩⟩⟩)⟩, ⟨by refine au0 ?_; exact Kd.R_mono HO_133001.out (fun _ hk => ⟨hk.1.1.1, ⟨hk.1.1.2.1, ⟨hk.1.1.2.2.1, ⟨hk.1.1.2.2.2.1, hk.1.1.2.2.2.2⟩⟩⟩⟩)⟩, ⟨by refine au0 ?_; exact Kd.R_mono HO_133002.out (fun _ hk => ⟨hk.1.1, hk.1.2⟩)⟩, ⟨by refine au0 ?_; exact Kd.R_mono HO_144000.out (fun _ hk => ⟨hk.1, ⟨hk.2.1, ⟨hk.2.2.1, ⟨hk.2.2.2.1, hk.2.2.2.2.1⟩⟩⟩⟩)⟩, ⟨by refine au0 ?_; exact Kd.R_mono HO_144001.out (fun _ hk => ⟨hk.1, ⟨hk.2.1, ⟨hk.2.2.1, ⟨hk.2.2.2.1, hk.2.2.2.2.1⟩⟩⟩⟩)⟩, ⟨by refine au0 ?_; exact Kd.R_mono HO_144002.out (fun _ hk => ⟨hk.1, hk.2.1⟩)⟩, ⟨au1 BK101.out⟩, ⟨au1 BK122.out⟩, ⟨au1 BK132.out⟩, ⟨au1 BK143.out⟩, ⟨(au12 HB.out GE101.out GE122.out GE132.out GE143.out)⟩⟩
        case rest =>
         clear HC74
         obtain ⟨kq, x75_73, rfl, HA, HJ73, HO_123000, HO_123001, HO_123002, HO_133000, HO_133001, HO_133002, HO_144000, HO_144001, HO_144002, BK101, BK122, BK132, BK143, HB⟩ := hcut
         have hl133000_73 := (Kd.R_reads' HO_133000.out).1
         rw [hl133000_73] at HO_133000
         (try simp only [hl133000_73])
         (try simp only [hl133000_73] at BK101)
         (try simp only [hl133000_73] at BK122)
         (try simp only [hl133000_73] at BK132)
         (try simp only [hl133000_73] at BK143)
         (try simp only [hl133000_73] at HO_123000)
         (try simp only [hl133000_73] at HO_123001)
         (try simp only [hl133000_73] at HO_123002)
         (try simp only [hl133000_73] at HO_133001)
         (try simp only [hl133000_73] at HO_133002)
         (try simp only [hl133000_73] at HO_144000)
         (try simp only [hl133000_73] at HO_144001)
         (try simp only [hl133000_73] at HO_144002)
         have hl133001_73 := (Kd.R_reads' HO_133001.out).1
         rw [hl133001_73] at HO_133001
         (try simp only [hl133001_73])
         (try simp only [hl133001_73] at BK101)
         (try simp only [hl133001_73] at BK122)
         (try simp only [hl133001_73] at BK132)
         (try simp only [hl133001_73] at BK143)
         (try simp only [hl133001_73] at HO_123000)
         (try simp only [hl133001_73] at HO_123001)
         (try simp only [hl133001_73] at HO_123002)
         (try simp only [hl133001_73] at HO_133000)
         (try simp only [hl133001_73] at HO_133002)
         (try simp only [hl133001_73] at HO_144000)
         (try simp only [hl133001_73] at HO_144001)
         (try simp only [hl133001_73] at HO_144002)
         have hl133002_73 := (Kd.R_reads' HO_133002.out).1
         rw [hl133002_73] at HO_133002
         (try simp only [hl133002_73])
         (try simp only [hl133002_73] at BK101)
         (try simp only [hl133002_73] at BK122)
         (try simp only [hl133002_73] at BK132)
         (try simp only [hl133002_73] at BK143)
         (try simp only [hl133002_73] at HO_123000)
         (try simp only [hl133002_73] at HO_123001)
         (try simp only [hl133002_73] at HO_123002)
         (try simp only [hl133002_73] at HO_133000)
         (try simp only [hl133002_73] at HO_133001)
         (try simp only [hl133002_73] at HO_144000)
         (try simp only [hl133002_73] at HO_144001)
         (try simp only [hl133002_73] at HO_144002)
         cases kq with
         | zero => exact absurd HA.out (by simp [laws_FnExactReplace.j1])
         | succ kj73 =>
          have H := HA.out
          clear HA
          simp only [laws_FnExactReplace.j1] at H
          by_cases c105 : x75_73 = true
          ·
           subst c105
           have H1 : (some false) = some true := by first | (with_reducible rfl) | (rw [if_pos rfl] at H; exact H)
           clear H
           have H := H1
           clear H1
           exact absurd (Option.some.inj H) (by decide)
          ·
           replace c105 := Bool.eq_false_iff.mpr c105
           subst c105
           have H1 : ((laws_markDisk.f kj73 t133 t136 t139 1).bind fun bt160 => ((laws_heldDisk.f kj73 bt160.2.1 bt160.2.2.1 bt160.2.2.2 1).bind fun t164 => (if t164 < 0 then (some false) else (if t164 = bt160.1 then ((laws_toDisk.f kj73 l0_0 l0_1 l0_2).bind fun bt165 => ((impl_Replace.f kj73 bt165.1 bt165.2.1 bt165.2.2 a1 a2).bind fun bt174 => ((laws_eqDisk.f kj73 bt174.1 bt174.2.1 bt174.2.2.1 t112 t115 t118).bind fun t185 => (if t185 = true then (laws_FnExactReplace.j2 kj73 bt160.1 (bt174.2.2.2 != t121) bt160.2.1 bt160.2.2.1 bt160.2.2.2) else (laws_FnExactReplace.j2 kj73 bt160.1 true bt160.2.1 bt160.2.2.1 bt160.2.2.2))))) else (some false))))) = some true := by rw [if_neg (show ¬ (false = true) by decide)] at H; exact H
           clear H
           have H := H1
           clear H1
           replace H := Option.bind_eq_some_iff.mp H
           obtain ⟨⟨t160, t161, t162, t163⟩, A1060, H⟩ := H
           replace H : ((laws_heldDisk.f kj73 t161 t162 t163 1).bind fun t164 => (if t164 < 0 then (some false) else (if t164 = t160 then ((laws_toDisk.f kj73 l0_0 l0_1 l0_2).bind fun bt165 => ((impl_Replace.f kj73 bt165.1 bt165.2.1 bt165.2.2 a1 a2).bind fun bt174 => ((laws_eqDisk.f kj73 bt174.1 bt174.2.1 bt174.2.2.1 t112 t115 t118).bind fun t185 => (if t185 = true then (laws_FnExactReplace.j2 kj73 t160 (bt174.2.2.2 != t121) t161 t162 t163) else (laws_FnExactReplace.j2 kj73 t160 true t161 t162 t163))))) else (some false)))) = some true := H
           have A106 := am A1060
           clear A1060
           replace H := Option.bind_eq_some_iff.mp H
           obtain ⟨t164, A1070, H⟩ := H
           replace H : (if t164 < 0 then (some false) else (if t164 = t160 then ((laws_toDisk.f kj73 l0_0 l0_1 l0_2).bind fun bt165 => ((impl_Replace.f kj73 bt165.1 bt165.2.1 bt165.2.2 a1 a2).bind fun bt174 => ((laws_eqDisk.f kj73 bt174.1 bt174.2.1 bt174.2.2.1 t112 t115 t118).bind fun t185 => (if t185 = true then (laws_FnExactReplace.j2 kj73 t160 (bt174.2.2.2 != t121) t161 t162 t163) else (laws_FnExactReplace.j2 kj73 t160 true t161 t162 t163))))) else (some false))) = some true := H
           have A107 := am A1070
           clear A1070
           by_cases c108 : t164 < 0
           ·
            rw [if_pos c108] at H
            have c108b0 : decide (t164 < 0) = true := decide_eq_true c108
            clear c108
            exact absurd (Option.some.inj H) (by decide)
           ·
            rw [if_neg c108] at H
            have c108b0 : decide (t164 < 0) = false := decide_eq_false c108
            clear c108
            by_cases c109 : t164 = t160
            ·
             rw [if_pos c109] at H
             have c109b0 : (t164 == t160) = true := beq_iff_eq.mpr c109
             have c109b1 : (t164 != t160) = false := bne_eq_false_iff_eq.mpr c109
             clear c109
             replace H := Option.bind_eq_some_iff.mp H
             obtain ⟨⟨t165, t168, t171⟩, A1100, H⟩ := H
             replace H : ((impl_Replace.f kj73 t165 t168 t171 a1 a2).bind fun bt174 => ((laws_eqDisk.f kj73 bt174.1 bt174.2.1 bt174.2.2.1 t112 t115 t118).bind fun t185 => (if t185 = true then (laws_FnExactReplace.j2 kj73 t160 (bt174.2.2.2 != t121) t161 t162 t163) else (laws_FnExactReplace.j2 kj73 t160 true t161 t162 t163)))) = some true := H
             have A110 := am A1100
             clear A1100
             replace H := Option.bind_eq_some_iff.mp H
             obtain ⟨⟨t174, t177, t180, t183⟩, A1110, H⟩ := H
             replace H : ((laws_eqDisk.f kj73 t174 t177 t180 t112 t115 t118).bind fun t185 => (if t185 = true then (laws_FnExactReplace.j2 kj73 t160 (t183 != t121) t161 t162 t163) else (laws_FnExactReplace.j2 kj73 t160 true t161 t162 t163))) = some true := H
             have A111 := am A1110
             clear A1110
             have HC112 := am H
             clear H
             have hnb113 := NB143_101.out
             have hnc113 := NB101_143.out
             have hnb114 := NB143_122.out
             have hnc114 := NB122_143.out
             have hnb115 := NB143_132.out
             have hnc115 := NB132_143.out
             have hcz116_0 : _ = some (Value.slice Ao44 t133.length co44) := bcE BK143.out 0
             have hcz116_1 : _ = some (Value.slice Ao49 t136.length co49) := bcE BK143.out 1
             have hcz116_2 : _ = some (Value.slice Ao50 t139.length co50) := bcE BK143.out 2
             have hfz116_0 := qaa BK143.out 0
             have hfz116_1 := qaa BK143.out 1
             have hfz116_2 := qaa BK143.out 2
             go_upto_region 29 with (first | ((with_reducible refine qaj (f := 29) rfl ?_); refine qap (some 78) rfl rfl Try.func29 (by kernel_rfl) rfl #[.agg #[.slice Ao44 t133.length co44, .slice Ao49 t136.length co49, .slice Ao50 t139.length co50], .int .i64 1] rfl au6 ?_; (with_reducible refine (laws_markDisk.calls kj73 (fun k_ => some k_ = (.slice Ao44 t133.length co44 : Value).ownBlock) (.slice Ao44 t133.length co44) t133 (fun k_ => some k_ = (.slice Ao49 t136.length co49 : Value).ownBlock) (.slice Ao49 t136.length co49) t136 (fun k_ => some k_ = (.slice Ao50 t139.length co50 : Value).ownBlock) (.slice Ao50 t139.length co50) t139 1 t160 t161 t162 t163 w _ ?side1 ?side2 ?side3 ?side4 ?side5 ?side6 A106.out).mono ?_); (case side1 => repeat (first | (with_reducible first | exact HB.out | apply qaq | apply qaw | apply qay | refine qar ?_ GE101.out | refine qar ?_ GE122.out | refine qar ?_ GE132.out | refine qar ?_ GE143.out) | exact HB.out)); (case side2 => exact Kd.R_tight rfl HO_144000.out); (case side3 => exact fun k_ e_ => (HO_144000.out.1 k_ e_.symm).2.2.2.2); (case side4 => exact Kd.R_tight rfl HO_144001.out); (case side5 => exact fun k_ e_ => (HO_144001.out.1 k_ e_.symm).2.2.2.2); (case side6 => exact Kd.R_tight rfl HO_144002.out); rintro e w117 ⟨rfl, hy0, hy1, hy2, hb, hkp⟩; refine ⟨_, rfl, ?_⟩; replace HO_123000 := am (Kd.R_mono (ok' := fun k_ => some k_ ≠ (.slice Ao31 t115.length co31 : Value).ownBlock ∧ some k_ ≠ (.slice Ao36 t156.length co36 : Value).ownBlock ∧ some k_ ≠ (.slice Ao40 t157.length co40 : Value).ownBlock ∧ some k_ ≠ (.slice Ao44 t133.length co44 : Value).ownBlock ∧ some k_ ≠ (.slice Ao49 t136.length co49 : Value).ownBlock) (Kd.R_keptB ((Kd.R_apart' HO_123000.out (Kd.R_typed HO_144002.out) (by decide))) hkp (fun k_ hk_ hs_ => Or.elim hs_ (fun e_ => (hk_.1.2.2.2.1) e_) (fun e_ => Or.elim e_ (fun e_ => (hk_.1.2.2.2.2) e_) (fun e_ => (hk_.2) e_)))) (fun k_ hk_ => ⟨hk_.1.1.1, hk_.1.1.2.1, hk_.1.1.2.2.1, hk_.1.1.2.2.2.1, hk_.1.1.2.2.2.2⟩)); replace HO_123001 := am (Kd.R_mono (ok' := fun k_ => some k_ ≠ (.slice Ao28 t112.length co28 : Value).ownBlock ∧ some k_ ≠ (.slice Ao36 t156.length co36 : Value).ownBlock ∧ some k_ ≠ (.slice Ao40 t157.length co40 : Value).ownBlock ∧ some k_ ≠ (.slice Ao44 t133.length co44 : Value).ownBlock ∧ some k_ ≠ (.slice Ao49 t136.length co49 : Value).ownBlock) (Kd.R_keptB ((Kd.R_apart' HO_123001.out (Kd.R_typed HO_144002.out) (by decide))) hkp (fun k_ hk_ hs_ => Or.elim hs_ (fun e_ => (hk_.1.2.2.2.1) e_) (fun e_ => Or.elim e_ (fun e_ => (hk_.1.2.2.2.2) e_) (fun e_ => (hk_.2) e_)))) (fun k_ hk_ => ⟨hk_.1.1.1, hk_.1.1.2.1, hk_.1.1.2.2.1, hk_.1.1.2.2.2.1, hk_.1.1.2.2.2.2⟩)); replace HO_123002 := am (Kd.R_mono (ok' := fun k_ => some k_ ≠ (.slice Ao41 t158.length co41 : Value).ownBlock ∧ some k_ ≠ (.slice Ao50 t139.length co50 : Value).ownBlock) (Kd.R_keptB ((Kd.R_apart' (Kd.R_apart' HO_123002.out (Kd.R_typed HO_144000.out) (by decide)) (Kd.R_typed HO_144001.out) (by decide))) hkp (fun k_ hk_ hs_ => Or.elim hs_ (fun e_ => (hk_.1.2) e_) (fun e_ => Or.elim e_ (fun e_ => (hk_.2) e_) (fun e_ => (hk_.1.1.2) e_)))) (fun k_ hk_ => ⟨hk_.1.1.1.1, hk_.1.1.1.2⟩)); replace HO_133000 := am (Kd.R_mono (ok' := fun k_ => some k_ ≠ (.slice Ao28 t112.length co28 : Value).ownBlock ∧ some k_ ≠ (.slice Ao31 t115.length co31 : Value).ownBlock ∧ some k_ ≠ (.slice Ao40 t157.length co40 : Value).ownBlock ∧ some k_ ≠ (.slice Ao44 t133.length co44 : Value).ownBlock ∧ some k_ ≠ (.slice Ao49 t136.length co49 : Value).ownBlock) (Kd.R_keptB ((Kd.R_apart' HO_133000.out (Kd.R_typed HO_144002.out) (by decide))) hkp (fun k_ hk_ hs_ => Or.elim hs_ (fun e_ => (hk_.1.2.2.2.1) e_) (fun e_ => Or.elim e_ (fun e_ => (hk_.1.2.2.2.2) e_) (fun e_ => (hk_.2) e_)))) (fun k_ hk_ => ⟨hk_.1.1.1, hk_.1.1.2.1, hk_.1.1.2.2.1, hk_.1.1.2.2.2.1, hk_.1.1.2.2.2.2⟩)); replace HO_133001 := am (Kd.R_mono (ok' := fun k_ => some k_ ≠ (.slice Ao28 t112.length co28 : Value).ownBlock ∧ some k_ ≠ (.slice Ao31 t115.length co31 : Value).ownBlock ∧ some k_ ≠ (.slice Ao36 t156.length co36 : Value).ownBlock ∧ some k_ ≠ (.slice Ao44 t133.length co44 : Value).ownBlock ∧ some k_ ≠ (.slice Ao49 t136.length co49 : Value).ownBlock) (Kd.R_keptB ((Kd.R_apart' HO_133001.out (Kd.R_typed HO_144002.out) (by decide))) hkp (fun k_ hk_ hs_ => Or.elim hs_ (fun e_ => (hk_.1.2.2.2.1) e_) (fun e_ => Or.elim e_ (fun e_ => (hk_.1.2.2.2.2) e_) (fun e_ => (hk_.2) e_)))) (fun k_ hk_ => ⟨hk_.1.1.1, hk_.1.1.2.1, hk_.1.1.2.2.1, hk_.1.1.2.2.2.1, hk_.1.1.2.2.2.2⟩)); replace HO_133002 := am (Kd.R_mono (ok' := fun k_ => some k_ ≠ (.slice Ao32 t118.length co32 : Value).ownBlock ∧ some k_ ≠ (.slice Ao50 t139.length co50 : Value).ownBlock) (Kd.R_keptB ((Kd.R_apart' (Kd.R_apart' HO_133002.out (Kd.R_typed HO_144000.out) (by decide)) (Kd.R_typed HO_144001.out) (by decide))) hkp (fun k_ hk_ hs_ => Or.elim hs_ (fun e_ => (hk_.1.2) e_) (fun e_ => Or.elim e_ (fun e_ => (hk_.2) e_) (fun e_ => (hk_.1.1.2) e_)))) (fun k_ hk_ => ⟨hk_.1.1.1.1, hk_.1.1.1.2⟩)); replace BK101 := am (qbu (au1 BK101.out) hkp (fun hs_ => Or.elim hs_ (fun e_ => (fun e_ => (Kd.R_ne HO_144000.out BK101.out (by decide)) e_) e_) (fun e_ => Or.elim e_ (fun e_ => (fun e_ => (Kd.R_ne HO_144001.out BK101.out (by decide)) e_) e_) (fun e_ => (fun e_ => (Kd.R_ne HO_144002.out BK101.out (by decide)) e_) e_)))); replace BK122 := am (qbu (au1 BK122.out) hkp (fun hs_ => Or.elim hs_ (fun e_ => (fun e_ => (Kd.R_ne HO_144000.out BK122.out (by decide)) e_) e_) (fun e_ => Or.elim e_ (fun e_ => (fun e_ => (Kd.R_ne HO_144001.out BK122.out (by decide)) e_) e_) (fun e_ => (fun e_ => (Kd.R_ne HO_144002.out BK122.out (by decide)) e_) e_)))); replace BK132 := am (qbu (au1 BK132.out) hkp (fun hs_ => Or.elim hs_ (fun e_ => (fun e_ => (Kd.R_ne HO_144000.out BK132.out (by decide)) e_) e_) (fun e_ => Or.elim e_ (fun e_ => (fun e_ => (Kd.R_ne HO_144001.out BK132.out (by decide)) e_) e_) (fun e_ => (fun e_ => (Kd.R_ne HO_144002.out BK132.out (by decide)) e_) e_)))); replace BK143 := am (qbu (au1 BK143.out) hkp (fun hs_ => Or.elim hs_ (fun e_ => (fun e_ => (Kd.R_ne HO_144000.out BK143.out (by decide)) e_) e_) (fun e_ => Or.elim e_ (fun e_ => (fun e_ => (Kd.R_ne HO_144001.out BK143.out (by decide)) e_) e_) (fun e_ => (fun e_ => (Kd.R_ne HO_144002.out BK143.out (by decide)) e_) e_)))); replace HO_144000 := am (Kd.R_reok rfl hy0 (fun k_ e_ => HO_144000.out.1 k_ e_)); replace HO_144001 := am (Kd.R_reok rfl hy1 (fun k_ e_ => HO_144001.out.1 k_ e_)); replace HO_144002 := am (Kd.R_reok rfl hy2 (fun k_ e_ => HO_144002.out.1 k_ e_)); replace HB := am (hb); (try clear hb); (try clear hkp); (try clear hy0); (try clear hy1); (try clear hy2); have hcz118_0 : _ = some (Value.slice Ao44 t133.length co44) := bcE BK143.out 0; have hcz118_1 : _ = some (Value.slice Ao49 t136.length co49) := bcE BK143.out 1; have hcz118_2 : _ = some (Value.slice Ao50 t139.length co50) := bcE BK143.out 2; have hfz118_0 := qaa BK143.out 0; have hfz118_1 := qaa BK143.out 1; have hfz118_2 := qaa BK143.out 2) | ((with_reducible refine qaj (f := 30) rfl ?_); refine qap (some 81) rfl rfl Try.func30 (by kernel_rfl) rfl #[.agg #[.slice Ao44 t161.length co44, .slice Ao49 t162.length co49, .slice Ao50 t163.length co50], .int .i64 1] rfl (by (try simp only [List.map_toArray, List.map_cons, List.map_nil]); first | done | (rw [show t161.length = t133.length from (Kd.R_reads' HO_144000.out).1.symm, show t162.length = t136.length from (Kd.R_reads' HO_144001.out).1.symm, show t163.length = t139.length from (Kd.R_reads' HO_144002.out).1.symm] <;> rfl) | rfl | (simp only [List.length_drop, List.length_take]; rfl)) ?_; (with_reducible refine (laws_heldDisk.calls kj73 _ _ t161 _ _ t162 _ _ t163 1 t164 _ ?side1 ?side2 ?side3 ?side4 ?side5 ?side6 A107.out).mono ?_); (case side1 => repeat (first | exact (Kd.R_reads' HO_144000.out).2.2 | (with_reducible refine Kd.C_alloc ?_ _) | (with_reducible refine Kd.C_drewN ?_ _) | (with_reducible refine Kd.C_drew ?_))); (case side2 => rw [show t161.length = t133.length from (Kd.R_reads' HO_144000.out).1.symm]; exact (Kd.R_reads' HO_144000.out).2.1); (case side3 => repeat (first | exact (Kd.R_reads' HO_144001.out).2.2 | (with_reducible refine Kd.C_alloc ?_ _) | (with_reducible refine Kd.C_drewN ?_ _) | (with_reducible refine Kd.C_drew ?_))); (case side4 => rw [show t162.length = t136.length from (Kd.R_reads' HO_144001.out).1.symm]; exact (Kd.R_reads' HO_144001.out).2.1); (case side5 => repeat (first | exact (Kd.R_reads' HO_144002.out).2.2 | (with_reducible refine Kd.C_alloc ?_ _) | (with_reducible refine Kd.C_drewN ?_ _) | (with_reducible refine Kd.C_drew ?_))); (case side6 => rw [show t163.length = t139.length from (Kd.R_reads' HO_144002.out).1.symm]; exact (Kd.R_reads' HO_144002.out).2.1); rintro e w119 ⟨rfl, hb⟩; refine ⟨_, rfl, ?_⟩; replace HO_123000 := am (Kd.R_below (au0 HO_123000.out) hb); replace HO_123001 := am (Kd.R_below (au0 HO_123001.out) hb); replace HO_123002 := am (Kd.R_below (au0 HO_123002.out) hb); replace HO_133000 := am (Kd.R_below (au0 HO_133000.out) hb); replace HO_133001 := am (Kd.R_below (au0 HO_133001.out) hb); replace HO_133002 := am (Kd.R_below (au0 HO_133002.out) hb); replace HO_144000 := am (Kd.R_below (au0 HO_144000.out) hb); replace HO_144001 := am (Kd.R_below (au0 HO_144001.out) hb); replace HO_144002 := am (Kd.R_below (au0 HO_144002.out) hb); replace BK101 := am (qab (au1 BK101.out) hb); replace BK122 := am (qab (au1 BK122.out) hb); replace BK132 := am (qab (au1 BK132.out) hb); replace BK143 := am (qab (au1 BK143.out) hb); replace HB := am (qad (au12 HB.out GE101.out GE122.out GE132.out GE143.out) hb); (try clear hb); (try clear hb2); (try clear hk); (try clear hi); have hnb120 := NB101_122.out; have hnc120 := NB122_101.out; have hnb121 := NB101_132.out; have hnc121 := NB132_101.out; have hcz122_0 : _ = some (Value.slice A0_0 l0_0.length c0_0) := bcE BK101.out 0; have hcz122_1 : _ = some (Value.slice A0_1 l0_1.length c0_1) := bcE BK101.out 1; have hcz122_2 : _ = some (Value.slice A0_2 l0_2.length c0_2) := bcE BK101.out 2; have hfz122_0 := qaa BK101.out 0; have hfz122_1 := qaa BK101.out 1; have hfz122_2 := qaa BK101.out 2) | ((with_reducible refine qaj (f := 14) rfl ?_); refine qap (some 89) rfl rfl Try.func14 (by kernel_rfl) rfl #[.agg #[.slice A0_0 l0_0.length c0_0, .slice A0_1 l0_1.length c0_1, .slice A0_2 l0_2.length c0_2]] rfl au6 ?_; (with_reducible refine (laws_toDisk.calls kj73 _ _ l0_0 _ _ l0_1 _ _ l0_2 t165 t168 t171 _ ?side1 ?side2 ?side3 ?side4 ?side5 ?side6 A110.out).mono ?_); (case side1 => exact scE (Kd.C_below HR0_0.out HB.out)); (case side2 => exact HC0_0.out); (case side3 => exact scE (Kd.C_below HR0_1.out HB.out)); (case side4 => exact HC0_1.out); (case side5 => exact scE (Kd.C_below HR0_2.out HB.out)); (case side6 => exact HC0_2.out); rintro e w123 ⟨v166, v169, v172, rfl, ho0, ho1, ho2, hb⟩; refine ⟨_, rfl, ?_⟩; have HO167 := am (Kd.R_lower (Kd.R_new' (Kd.R_new' (Kd.R_new' (Kd.R_new' (Kd.R_new' (Kd.R_new' ho0 (Kd.R_lt (au0 HO_123000.out))) (Kd.R_lt (au0 HO_123001.out))) (Kd.R_lt (au0 HO_133000.out))) (Kd.R_lt (au0 HO_133001.out))) (Kd.R_lt (au0 HO_144000.out))) (Kd.R_lt (au0 HO_144001.out))) (qaf (au12 HB.out GE101.out GE122.out GE132.out GE143.out))); have HO170 := am (Kd.R_lower (Kd.R_new' (Kd.R_new' (Kd.R_new' (Kd.R_new' (Kd.R_new' (Kd.R_new' ho1 (Kd.R_lt (au0 HO_123000.out))) (Kd.R_lt (au0 HO_123001.out))) (Kd.R_lt (au0 HO_133000.out))) (Kd.R_lt (au0 HO_133001.out))) (Kd.R_lt (au0 HO_144000.out))) (Kd.R_lt (au0 HO_144001.out))) (qaf (au12 HB.out GE101.out GE122.out GE132.out GE143.out))); replace HO_123000 := am (Kd.R_mono (Kd.R_told (Kd.R_told (Kd.R_old (au0 HO_123000.out) hb) (Kd.R_base ho0)) (Kd.R_base ho1)) k1E); replace HO_123001 := am (Kd.R_mono (Kd.R_told (Kd.R_told (Kd.R_old (au0 HO_123001.out) hb) (Kd.R_base ho0)) (Kd.R_base ho1)) k1E); replace HO_133000 := am (Kd.R_mono (Kd.R_told (Kd.R_told (Kd.R_old (au0 HO_133000.out) hb) (Kd.R_base ho0)) (Kd.R_base ho1)) k1E); replace HO_133001 := am (Kd.R_mono (Kd.R_told (Kd.R_told (Kd.R_old (au0 HO_133001.out) hb) (Kd.R_base ho0)) (Kd.R_base ho1)) k1E); replace HO_144000 := am (Kd.R_mono (Kd.R_told (Kd.R_told (Kd.R_old (au0 HO_144000.out) hb) (Kd.R_base ho0)) (Kd.R_base ho1)) k1E); replace HO_144001 := am (Kd.R_mono (Kd.R_told (Kd.R_told (Kd.R_old (au0 HO_144001.out) hb) (Kd.R_base ho0)) (Kd.R_base ho1)) k1E); have HO173 := am (Kd.R_lower (Kd.R_new' (Kd.R_new' (Kd.R_new' ho2 (Kd.R_lt (au0 HO_123002.out))) (Kd.R_lt (au0 HO_133002.out))) (Kd.R_lt (au0 HO_144002.out))) (qaf (au12 HB.out GE101.out GE122.out GE132.out GE143.out))); replace HO_123002 := am (Kd.R_elder' (au0 HO_123002.out) (Kd.R_base ho2) hb); replace HO_133002 := am (Kd.R_elder' (au0 HO_133002.out) (Kd.R_base ho2) hb); replace HO_144002 := am (Kd.R_elder' (au0 HO_144002.out) (Kd.R_base ho2) hb); replace BK101 := am (qab (au1 BK101.out) hb); replace BK122 := am (qab (au1 BK122.out) hb); replace BK132 := am (qab (au1 BK132.out) hb); replace BK143 := am (qab (au1 BK143.out) hb); replace HB := am (qad (au12 HB.out GE101.out GE122.out GE132.out GE143.out) hb); (try clear hb); (try clear hb2); (try clear hk); (try clear hi); (try clear ho0); (try clear ho1); (try clear ho2); obtain ⟨Ao124, co124, eo124⟩ := Kd.R_slice HO167.out; subst eo124; obtain ⟨Ao125, co125, eo125⟩ := Kd.R_slice HO170.out; subst eo125; obtain ⟨Ao126, co126, eo126⟩ := Kd.R_slice HO173.out; subst eo126) | ((with_reducible refine qaj (f := 27) rfl ?_); refine qap (some 92) rfl rfl Try.func27 (by kernel_rfl) rfl #[.agg #[.slice Ao124 t165.length co124, .slice Ao125 t168.length co125, .slice Ao126 t171.length co126], .string a1, .string a2] rfl au6 ?_; (with_reducible refine (impl_Replace.calls kj73 _ _ t165 _ _ t168 _ _ t171 a1 a2 t174 t177 t180 t183 _ ?side1 ?side2 ?side3 ?side4 ?side5 ?side6 A111.out).mono ?_); (case side1 => repeat (first | exact (Kd.R_reads' HO167.out).2.2 | (with_reducible refine Kd.C_alloc ?_ _) | (with_reducible refine Kd.C_drewN ?_ _) | (with_reducible refine Kd.C_drew ?_))); (case side2 => exact (Kd.R_reads' HO167.out).2.1); (case side3 => repeat (first | exact (Kd.R_reads' HO170.out).2.2 | (with_reducible refine Kd.C_alloc ?_ _) | (with_reducible refine Kd.C_drewN ?_ _) | (with_reducible refine Kd.C_drew ?_))); (case side4 => exact (Kd.R_reads' HO170.out).2.1); (case side5 => repeat (first | exact (Kd.R_reads' HO173.out).2.2 | (with_reducible refine Kd.C_alloc ?_ _) | (with_reducible refine Kd.C_drewN ?_ _) | (with_reducible refine Kd.C_drew ?_))); (case side6 => exact (Kd.R_reads' HO173.out).2.1); rintro e w127 ⟨v175, v178, v181, rfl, ho0, ho1, ho2, hb⟩; refine ⟨_, rfl, ?_⟩; have HO176 := am (Kd.R_lower (Kd.R_new' (Kd.R_new' (Kd.R_new' (Kd.R_new' (Kd.R_new' (Kd.R_new' (Kd.R_new' (Kd.R_new' ho0 (Kd.R_lt (au0 HO_123000.out))) (Kd.R_lt (au0 HO_123001.out))) (Kd.R_lt (au0 HO_133000.out))) (Kd.R_lt (au0 HO_133001.out))) (Kd.R_lt (au0 HO_144000.out))) (Kd.R_lt (au0 HO_144001.out))) (Kd.R_lt (au0 HO167.out))) (Kd.R_lt (au0 HO170.out))) (qaf (au12 HB.out GE101.out GE122.out GE132.out GE143.out))); have HO179 := am (Kd.R_lower (Kd.R_new' (Kd.R_new' (Kd.R_new' (Kd.R_new' (Kd.R_new' (Kd.R_new' (Kd.R_new' (Kd.R_new' ho1 (Kd.R_lt (au0 HO_123000.out))) (Kd.R_lt (au0 HO_123001.out))) (Kd.R_lt (au0 HO_133000.out))) (Kd.R_lt (au0 HO_133001.out))) (Kd.R_lt (au0 HO_144000.out))) (Kd.R_lt (au0 HO_144001.out))) (Kd.R_lt (au0 HO167.out))) (Kd.R_lt (au0 HO170.out))) (qaf (au12 HB.out GE101.out GE122.out GE132.out GE143.out))); replace HO_123000 := am (Kd.R_mono (Kd.R_told (Kd.R_told (Kd.R_old (au0 HO_123000.out) hb) (Kd.R_base ho0)) (Kd.R_base ho1)) k1E); replace HO_123001 := am (Kd.R_mono (Kd.R_told (Kd.R_told (Kd.R_old (au0 HO_123001.out) hb) (Kd.R_base ho0)) (Kd.R_base ho1)) k1E); replace HO_133000 := am (Kd.R_mono (Kd.R_told (Kd.R_told (Kd.R_old (au0 HO_133000.out) hb) (Kd.R_base ho0)) (Kd.R_base ho1)) k1E); replace HO_133001 := am (Kd.R_mono (Kd.R_told (Kd.R_told (Kd.R_old (au0 HO_133001.out) hb) (Kd.R_base ho0)) (Kd.R_base ho1)) k1E); replace HO_144000 := am (Kd.R_mono (Kd.R_told (Kd.R_told (Kd.R_old (au0 HO_144000.out) hb) (Kd.R_base ho0)) (Kd.R_base ho1)) k1E); replace HO_144001 := am (Kd.R_mono (Kd.R_told (Kd.R_told (Kd.R_old (au0 HO_144001.out) hb) (Kd.R_base ho0)) (Kd.R_base ho1)) k1E); replace HO167 := am (Kd.R_mono (Kd.R_told (Kd.R_told (Kd.R_old (au0 HO167.out) hb) (Kd.R_base ho0)) (Kd.R_base ho1)) k1E); replace HO170 := am (Kd.R_mono (Kd.R_told (Kd.R_told (Kd.R_old (au0 HO170.out) hb) (Kd.R_base ho0)) (Kd.R_base ho1)) k1E); have HO182 := am (Kd.R_lower (Kd.R_new' (Kd.R_new' (Kd.R_new' (Kd.R_new' ho2 (Kd.R_lt (au0 HO_123002.out))) (Kd.R_lt (au0 HO_133002.out))) (Kd.R_lt (au0 HO_144002.out))) (Kd.R_lt (au0 HO173.out))) (qaf (au12 HB.out GE101.out GE122.out GE132.out GE143.out))); replace HO_123002 := am (Kd.R_elder' (au0 HO_123002.out) (Kd.R_base ho2) hb); replace HO_133002 := am (Kd.R_elder' (au0 HO_133002.out) (Kd.R_base ho2) hb); replace HO_144002 := am (Kd.R_elder' (au0 HO_144002.out) (Kd.R_base ho2) hb); replace HO173 := am (Kd.R_elder' (au0 HO173.out) (Kd.R_base ho2) hb); replace BK101 := am (qab (au1 BK101.out) hb); replace BK122 := am (qab (au1 BK122.out) hb); replace BK132 := am (qab (au1 BK132.out) hb); replace BK143 := am (qab (au1 BK143.out) hb); replace HB := am (qad (au12 HB.out GE101.out GE122.out GE132.out GE143.out) hb); (try clear hb); (try clear hb2); (try clear hk); (try clear hi); (try clear ho0); (try clear ho1); (try clear ho2)) | ((with_reducible refine qal (N := 16) rfl ?_); refine bxE (N := 16) (cs := #[.slice none 0 0, .slice none 0 0, .slice none 0 0]) (t := 31) ?_; intro gb184 hg w128 hbox hb; replace HO_123000 := am (Kd.R_below (au0 HO_123000.out) hb); replace HO_123001 := am (Kd.R_below (au0 HO_123001.out) hb); replace HO_123002 := am (Kd.R_below (au0 HO_123002.out) hb); replace HO_133000 := am (Kd.R_below (au0 HO_133000.out) hb); replace HO_133001 := am (Kd.R_below (au0 HO_133001.out) hb); replace HO_133002 := am (Kd.R_below (au0 HO_133002.out) hb); replace HO_144000 := am (Kd.R_below (au0 HO_144000.out) hb); replace HO_144001 := am (Kd.R_below (au0 HO_144001.out) hb); replace HO_144002 := am (Kd.R_below (au0 HO_144002.out) hb); replace HO167 := am (Kd.R_below (au0 HO167.out) hb); replace HO170 := am (Kd.R_below (au0 HO170.out) hb); replace HO173 := am (Kd.R_below (au0 HO173.out) hb); replace HO176 := am (Kd.R_below (au0 HO176.out) hb); replace HO179 := am (Kd.R_below (au0 HO179.out) hb); replace HO182 := am (Kd.R_below (au0 HO182.out) hb); have BK184 := am (hbox); have GW184 := am (sgE hg (au12 HB.out GE101.out GE122.out GE132.out GE143.out) : w.heap.size ≤ gb184); have GE184 := GW184; replace HB := am (qad (au12 HB.out GE101.out GE122.out GE132.out GE143.out) hb); have NB101_184 := am ((sltE hg (qan (au1 BK101.out)))); have NB184_101 := am ((sgtE hg (qan (au1 BK101.out)))); replace BK101 := am (qab (au1 BK101.out) hb); have NB122_184 := am ((sltE hg (qan (au1 BK122.out)))); have NB184_122 := am ((sgtE hg (qan (au1 BK122.out)))); replace BK122 := am (qab (au1 BK122.out) hb); have NB132_184 := am ((sltE hg (qan (au1 BK132.out)))); have NB184_132 := am ((sgtE hg (qan (au1 BK132.out)))); replace BK132 := am (qab (au1 BK132.out) hb); have NB143_184 := am ((sltE hg (qan (au1 BK143.out)))); have NB184_143 := am ((sgtE hg (qan (au1 BK143.out)))); replace BK143 := am (qab (au1 BK143.out) hb); clear hb hbox hg; obtain ⟨Ao129, co129, eo129⟩ := Kd.R_slice HO176.out; subst eo129; have hnb130 := NB184_101.out; have hnc130 := NB101_184.out; have hnb131 := NB184_122.out; have hnc131 := NB122_184.out; have hnb132 := NB184_132.out; have hnc132 := NB132_184.out; have hnb133 := NB184_143.out; have hnc133 := NB143_184.out; have hcz134_0 : _ = some (Value.slice none 0 0) := bcE BK184.out 0; have hcz134_1 : _ = some (Value.slice none 0 0) := bcE BK184.out 1; have hcz134_2 : _ = some (Value.slice none 0 0) := bcE BK184.out 2; have hfz134_0 := qaa BK184.out 0; have hfz134_1 := qaa BK184.out 1; have hfz134_2 := qaa BK184.out 2; obtain ⟨Ao135, co135, eo135⟩ := Kd.R_slice HO179.out; subst eo135; obtain ⟨Ao136, co136, eo136⟩ := Kd.R_slice HO182.out; subst eo136))
             (try simp only [Act.put, qsA, qsZ, qsS])
             go_cut [103] (fun v103 wc => ∃ (kq : Nat) (x103_111 : Bool), v103 = .bool x103_111 ∧ Aside0 (laws_FnExactReplace.j2 kq t160 x103_111 t161 t162 t163 = some true) ∧ Aside0 (kq ≤ kj73) ∧ Aside0 (Kd.R k80 80 wc w.heap.size (fun k_ => some k_ ≠ ((.slice Ao31 t115.length co31) : Value).ownBlock ∧ some k_ ≠ ((.slice Ao36 t156.length co36) : Value).ownBlock ∧ some k_ ≠ ((.slice Ao40 t157.length co40) : Value).ownBlock ∧ some k_ ≠ ((.slice Ao44 t133.length co44) : Value).ownBlock ∧ some k_ ≠ ((.slice Ao49 t136.length co49) : Value).ownBlock ∧ some k_ ≠ ((.slice Ao129 t174.length co129) : Value).ownBlock ∧ some k_ ≠ ((.slice Ao135 t177.length co135) : Value).ownBlock) (.slice Ao28 t112.length co28) t112) ∧ Aside0 (Kd.R k80 80 wc w.heap.size (fun k_ => some k_ ≠ ((.slice Ao28 t112.length co28) : Value).ownBlock ∧ some k_ ≠ ((.slice Ao36 t156.length co36) : Value).ownBlock ∧ some k_ ≠ ((.slice Ao40 t157.length co40) : Value).ownBlock ∧ some k_ ≠ ((.slice Ao44 t133.length co44) : Value).ownBlock ∧ some k_ ≠ ((.slice Ao49 t136.length co49) : Value).ownBlock ∧ some k_ ≠ ((.slice Ao129 t174.length co129) : Value).ownBlock ∧ some k_ ≠ ((.slice Ao135 t177.length co135) : Value).ownBlock) (.slice Ao31 t115.length co31) t115) ∧ Aside0 (Kd.R k73 73 wc w.heap.size (fun k_ => some k_ ≠ ((.slice Ao41 t158.length co41) : Value).ownBlock ∧ some k_ ≠ ((.slice Ao50 t139.length co50) : Value).ownBlock ∧ some k_ ≠ ((.slice Ao136 t180.length co136) : Value).ownBlock) (.slice Ao32 t118.length co32) t118) ∧ Aside0 (Kd.R k80 80 wc w.heap.size (fun k_ => some k_ ≠ ((.slice Ao28 t112.length co28) : Value).ownBlock ∧ some k_ ≠ ((.slice Ao31 t115.length co31) : Value).ownBlock ∧ some k_ ≠ ((.slice Ao40 t157.length co40) : Value).ownBlock ∧ some k_ ≠ ((.slice Ao44 t133.length co44) : Value).ownBlock ∧ some k_ ≠ ((.slice Ao49 t136.length co49) : Value).ownBlock ∧ some k_ ≠ ((.slice Ao129 t174.length co129) : Value).ownBlock ∧ some k_ ≠ ((.slice Ao135 t177.length co135) : Value).ownBlock) (.slice Ao36 t156.length co36) t156) ∧ Aside0 (Kd.R k80 80 wc w.heap.size (fun k_ => some k_ ≠ ((.slice Ao28 t112.length co28) : Value).ownBlock ∧ some k_ ≠ ((.slice Ao31 t115.length co31) : Value).ownBlock ∧ some k_ ≠ ((.slice Ao36 t156.length co36) : Value).ownBlock ∧ some k_ ≠ ((.slice Ao44 t133.length co44) : Value).ownBlock ∧ some k_ ≠ ((.slice Ao49 t136.length co49) : Value).ownBlock ∧ some k_ ≠ ((.slice Ao129 t174.length co129) : Value).ownBlock ∧ some k_ ≠ ((.slice Ao135 t177.length co135) : Value).ownBlock) (.slice Ao40 t157.length co40) t157) ∧ Aside0 (Kd.R k73 73 wc w.heap.size (fun k_ => some k_ ≠ ((.slice Ao32 t118.length co32) : Value).ownBlock ∧ some k_ ≠ ((.slice Ao50 t139.length co50) : Value).ownBlock ∧ some k_ ≠ ((.slice Ao136 t180.length co136) : Value).ownBlock) (.slice Ao41 t158.length co41) t158) ∧ Aside0 (Kd.R k80 80 wc w.heap.size (fun k_ => some k_ ≠ ((.slice Ao28 t112.length co28) : Value).ownBlock ∧ some k_ ≠ ((.slice Ao31 t115.length co31) : Value).ownBlock ∧ some k_ ≠ ((.slice Ao36 t156.length co36) : Value).ownBlock ∧ some k_ ≠ ((.slice Ao40 t157.length co40) : Value).ownBlock ∧ some k_ ≠ ((.slice Ao49 t136.length co49) : Value).ownBlock ∧ some k_ ≠ ((.slice Ao129 t174.length co129) : Value).ownBlock ∧ some k_ ≠ ((.slice Ao135 t177.length co135) : Value).ownBlock) (.slice Ao44 t133.length co44) t161) ∧ Aside0 (Kd.R k80 80 wc w.heap.size (fun k_ => some k_ ≠ ((.slice Ao28 t112.length co28) : Value).ownBlock ∧ some k_ ≠ ((.slice Ao31 t115.length co31) : Value).ownBlock ∧ some k_ ≠ ((.slice Ao36 t156.length co36) : Value).ownBlock ∧ some k_ ≠ ((.slice Ao40 t157.length co40) : Value).ownBlock ∧ some k_ ≠ ((.slice Ao44 t133.length co44) : Value).ownBlock ∧ some k_ ≠ ((.slice Ao129 t174.length co129) : Value).ownBlock ∧ some k_ ≠ ((.slice Ao135 t177.length co135) : Value).ownBlock) (.slice Ao49 t136.length co49) t162) ∧ Aside0 (Kd.R k73 73 wc w.heap.size (fun k_ => some k_ ≠ ((.slice Ao32 t118.length co32) : Value).ownBlock ∧ some k_ ≠ ((.slice Ao41 t158.length co41) : Value).ownBlock ∧ some k_ ≠ ((.slice Ao136 t180.length co136) : Value).ownBlock) (.slice Ao50 t139.length co50) t163) ∧ Aside0 (Kd.R k80 80 wc w.heap.size (fun k_ => some k_ ≠ ((.slice Ao28 t112.length co28) : Value).ownBlock ∧ some k_ ≠ ((.slice Ao31 t115.length co31) : Value).ownBlock ∧ some k_ ≠ ((.slice Ao36 t156.length co36) : Value).ownBlock ∧ some k_ ≠ ((.slice Ao40 t157.length co40) : Value).ownBlock ∧ some k_ ≠ ((.slice Ao44 t133.length co44) : Value).ownBlock ∧ some k_ ≠ ((.slice Ao49 t136.length co49) : Value).ownBlock ∧ some k_ ≠ ((.slice Ao135 t177.length co135) : Value).ownBlock) (.slice Ao129 t174.length co129) t174) ∧ Aside0 (Kd.R k80 80 wc w.heap.size (fun k_ => some k_ ≠ ((.slice Ao28 t112.length co28) : Value).ownBlock ∧ some k_ ≠ ((.slice Ao31 t115.length co31) : Value).ownBlock ∧ some k_ ≠ ((.slice Ao36 t156.length co36) : Value).ownBlock ∧ some k_ ≠ ((.slice Ao40 t157.length co40) : Value).ownBlock ∧ some k_ ≠ ((.slice Ao44 t133.length co44) : Value).ownBlock ∧ some k_ ≠ ((.slice Ao49 t136.length co49) : Value).ownBlock ∧ some k_ ≠ ((.slice Ao129 t174.length co129) : Value).ownBlock) (.slice Ao135 t177.length co135) t177) ∧ Aside0 (Kd.R k73 73 wc w.heap.size (fun k_ => some k_ ≠ ((.slice Ao32 t118.length co32) : Value).ownBlock ∧ some k_ ≠ ((.slice Ao41 t158.length co41) : Value).ownBlock ∧ some k_ ≠ ((.slice Ao50 t139.length co50) : Value).ownBlock) (.slice Ao136 t180.length co136) t180) ∧ Aside0 (wc.heap[gb101]? = some (.cells #[(.slice A0_0 l0_0.length c0_0), (.slice A0_1 l0_1.length c0_1), (.slice A0_2 l0_2.length c0_2)] 25 (0, 0))) ∧ Aside0 (wc.heap[gb122]? = some (.cells #[(.slice Ao28 t112.length co28), (.slice Ao31 t115.length co31), (.slice Ao32 t118.length co32)] 31 (0, 0))) ∧ Aside0 (wc.heap[gb132]? = some (.cells #[(.slice Ao36 t156.length co36), (.slice Ao40 t157.length co40), (.slice Ao41 t158.length co41)] 31 (0, 0))) ∧ Aside0 (wc.heap[gb143]? = some (.cells #[(.slice Ao44 t133.length co44), (.slice Ao49 t136.length co49), (.slice Ao50 t139.length co50)] 31 (0, 0))) ∧ Aside0 (wc.heap[gb184]? = some (.cells #[(.slice Ao129 t174.length co129), (.slice Ao135 t177.length co135), (.slice Ao136 t180.length co136)] 31 (0, 0))) ∧ Aside0 (Below w.heap.size w wc))
             case first =>
              have H := HC112.out
              clear HC112
              replace H := Option.bind_eq_some_iff.mp H
              obtain ⟨t185, A1370, H⟩ := H
              replace H : (if t185 = true then (laws_FnExactReplace.j2 kj73 t160 (t183 != t121) t161 t162 t163) else (laws_FnExactReplace.j2 kj73 t160 true t161 t162 t163)) = some true := H
              have A137 := am A1370
              clear A1370
              by_cases c138 : t185 = true
              ·
               subst c138
               have H1 : (laws_FnExactReplace.j2 kj73 t160 (t183 != t121) t161 t162 t163) = some true := by first | (with_reducible rfl) | (rw [if_pos rfl] at H; exact H)
               clear H
               have H := H1
               clear H1
               have H' := am H
               clear H
               have hnb139 := NB184_101.out
               have hnc139 := NB101_184.out
               have hnb140 := NB184_122.out
               have hnc140 := NB122_184.out
               have hnb141 := NB184_132.out
               have hnc141 := NB132_184.out
               have hnb142 := NB184_143.out
               have hnc142 := NB143_184.out
               have hcz143_0 : _ = some (Value.slice none 0 0) := bcE BK184.out 0
               have hcz143_1 : _ = some (Value.slice none 0 0) := bcE BK184.out 1
               have hcz143_2 : _ = some (Value.slice none 0 0) := bcE BK184.out 2
               have hfz143_0 := qaa BK184.out 0
               have hfz143_1 := qaa BK184.out 1
               have hfz143_2 := qaa BK184.out 2
               have hnb144 := NB122_101.out
               have hnc144 := NB101_122.out
               have hnb145 := NB122_132.out
               have hnc145 := NB132_122.out
               have hnb146 := NB122_143.out
               have hnc146 := NB143_122.out
               have hcz147_0 : _ = some (Value.slice Ao28 t112.length co28) := bcE BK122.out 0
               have hcz147_1 : _ = some (Value.slice Ao31 t115.length co31) := bcE BK122.out 1
               have hcz147_2 : _ = some (Value.slice Ao32 t118.length co32) := bcE BK122.out 2
               have hfz147_0 := qaa BK122.out 0
               have hfz147_1 := qaa BK122.out 1
               have hfz147_2 := qaa BK122.out 2
               go_wp2_with (first | ((with_reducible refine qaj (f := 16) rfl ?_); refine qap (some 97) rfl rfl Try.func16 (by kernel_rfl) rfl #[.agg #[.slice Ao129 t174.length co129, .slice Ao135 t177.length co135, .slice Ao136 t180.length co136], .agg #[.slice Ao28 t112.length co28, .slice Ao31 t115.length co31, .slice Ao32 t118.length co32]] rfl au6 ?_; (with_reducible refine (laws_eqDisk.calls kj73 _ _ t174 _ _ t177 _ _ t180 _ _ t112 _ _ t115 _ _ t118 true _ ?side1 ?side2 ?side3 ?side4 ?side5 ?side6 ?side7 ?side8 ?side9 ?side10 ?side11 ?side12 A137.out).mono ?_); (case side1 => refine (Kd.R_reads' (e := 80) (base := w.heap.size) (ok := fun k_ => ((((((((some k_ ≠ (.slice Ao135 t177.length co135 : Value).ownBlock ∧ some k_ ≠ (.slice Ao28 t112.length co28 : Value).ownBlock) ∧ some k_ ≠ (.slice Ao31 t115.length co31 : Value).ownBlock) ∧ some k_ ≠ (.slice Ao36 t156.length co36 : Value).ownBlock) ∧ some k_ ≠ (.slice Ao40 t157.length co40 : Value).ownBlock) ∧ some k_ ≠ (.slice Ao44 t133.length co44 : Value).ownBlock) ∧ some k_ ≠ (.slice Ao49 t136.length co49 : Value).ownBlock) ∧ some k_ ≠ (.slice Ao124 t165.length co124 : Value).ownBlock) ∧ some k_ ≠ (.slice Ao125 t168.length co125 : Value).ownBlock)) (n := t174.length) (c := co129) ?_).2.2; exact (by refine au0 ?_; exact (Kd.R_mono (Kd.R_far (p := ⟨gb184, 2, none⟩) (Kd.R_far (p := ⟨gb184, 1, none⟩) (Kd.R_far (p := ⟨gb184, 0, none⟩) (Kd.R_types HO176.out BK184.out (by decide)) k2E (.slice Ao129 t174.length co129)) k2E (.slice Ao135 t177.length co135)) k2E (.slice Ao136 t180.length co136)) k1E))); (case side2 => exact (Kd.R_reads' HO176.out).2.1); (case side3 => refine (Kd.R_reads' (e := 80) (base := w.heap.size) (ok := fun k_ => ((((((((some k_ ≠ (.slice Ao129 t174.length co129 : Value).ownBlock ∧ some k_ ≠ (.slice Ao28 t112.length co28 : Value).ownBlock) ∧ some k_ ≠ (.slice Ao31 t115.length co31 : Value).ownBlock) ∧ some k_ ≠ (.slice Ao36 t156.length co36 : Value).ownBlock) ∧ some k_ ≠ (.slice Ao40 t157.length co40 : Value).ownBlock) ∧ some k_ ≠ (.slice Ao44 t133.length co44 : Value).ownBlock) ∧ some k_ ≠ (.slice Ao49 t136.length co49 : Value).ownBlock) ∧ some k_ ≠ (.slice Ao124 t165.length co124 : Value).ownBlock) ∧ some k_ ≠ (.slice Ao125 t168.length co125 : Value).ownBlock)) (n := t177.length) (c := co135) ?_).2.2; exact (by refine au0 ?_; exact (Kd.R_mono (Kd.R_far (p := ⟨gb184, 2, none⟩) (Kd.R_far (p := ⟨gb184, 1, none⟩) (Kd.R_far (p := ⟨gb184, 0, none⟩) (Kd.R_types HO179.out BK184.out (by decide)) k2E (.slice Ao129 t174.length co129)) k2E (.slice Ao135 t177.length co135)) k2E (.slice Ao136 t180.length co136)) k1E))); (case side4 => exact (Kd.R_reads' HO179.out).2.1); (case side5 => refine (Kd.R_reads' (e := 73) (base := w.heap.size) (ok := fun k_ => ((((True ∧ some k_ ≠ (.slice Ao32 t118.length co32 : Value).ownBlock) ∧ some k_ ≠ (.slice Ao41 t158.length co41 : Value).ownBlock) ∧ some k_ ≠ (.slice Ao50 t139.length co50 : Value).ownBlock) ∧ some k_ ≠ (.slice Ao126 t171.length co126 : Value).ownBlock)) (n := t180.length) (c := co136) ?_).2.2; exact (by refine au0 ?_; exact (Kd.R_mono (Kd.R_far (p := ⟨gb184, 2, none⟩) (Kd.R_far (p := ⟨gb184, 1, none⟩) (Kd.R_far (p := ⟨gb184, 0, none⟩) (Kd.R_types HO182.out BK184.out (by decide)) k2E (.slice Ao129 t174.length co129)) k2E (.slice Ao135 t177.length co135)) k2E (.slice Ao136 t180.length co136)) k1E))); (case side6 => exact (Kd.R_reads' HO182.out).2.1); (case side7 => refine (Kd.R_reads' (e := 80) (base := w.heap.size) (ok := fun k_ => (((((some k_ ≠ (.slice Ao31 t115.length co31 : Value).ownBlock ∧ (some k_ ≠ (.slice Ao36 t156.length co36 : Value).ownBlock ∧ (some k_ ≠ (.slice Ao40 t157.length co40 : Value).ownBlock ∧ (some k_ ≠ (.slice Ao44 t133.length co44 : Value).ownBlock ∧ some k_ ≠ (.slice Ao49 t136.length co49 : Value).ownBlock)))) ∧ some k_ ≠ (.slice Ao124 t165.length co124 : Value).ownBlock) ∧ some k_ ≠ (.slice Ao125 t168.length co125 : Value).ownBlock) ∧ some k_ ≠ (.slice Ao129 t174.length co129 : Value).ownBlock) ∧ some k_ ≠ (.slice Ao135 t177.length co135 : Value).ownBlock)) (n := t112.length) (c := co28) ?_).2.2; exact (by refine au0 ?_; exact (Kd.R_mono (Kd.R_far (p := ⟨gb184, 2, none⟩) (Kd.R_far (p := ⟨gb184, 1, none⟩) (Kd.R_far (p := ⟨gb184, 0, none⟩) (Kd.R_types HO_123000.out BK184.out (by decide)) k2E (.slice Ao129 t174.length co129)) k2E (.slice Ao135 t177.length co135)) k2E (.slice Ao136 t180.length co136)) k1E))); (case side8 => exact (Kd.R_reads' HO_123000.out).2.1); (case side9 => refine (Kd.R_reads' (e := 80) (base := w.heap.size) (ok := fun k_ => (((((some k_ ≠ (.slice Ao28 t112.length co28 : Value).ownBlock ∧ (some k_ ≠ (.slice Ao36 t156.length co36 : Value).ownBlock ∧ (some k_ ≠ (.slice Ao40 t157.length co40 : Value).ownBlock ∧ (some k_ ≠ (.slice Ao44 t133.length co44 : Value).ownBlock ∧ some k_ ≠ (.slice Ao49 t136.length co49 : Value).ownBlock)))) ∧ some k_ ≠ (.slice Ao124 t165.length co124 : Value).ownBlock) ∧ some k_ ≠ (.slice Ao125 t168.length co125 : Value).ownBlock) ∧ some k_ ≠ (.slice Ao129 t174.length co129 : Value).ownBlock) ∧ some k_ ≠ (.slice Ao135 t177.length co135 : Value).ownBlock)) (n := t115.length) (c := co31) ?_).2.2; exact (by refine au0 ?_; exact (Kd.R_mono (Kd.R_far (p := ⟨gb184, 2, none⟩) (Kd.R_far (p := ⟨gb184, 1, none⟩) (Kd.R_far (p := ⟨gb184, 0, none⟩) (Kd.R_types HO_123001.out BK184.out (by decide)) k2E (.slice Ao129 t174.length co129)) k2E (.slice Ao135 t177.length co135)) k2E (.slice Ao136 t180.length co136)) k1E))); (case side10 => exact (Kd.R_reads' HO_123001.out).2.1); (case side11 => refine (Kd.R_reads' (e := 73) (base := w.heap.size) (ok := fun k_ => (((some k_ ≠ (.slice Ao41 t158.length co41 : Value).ownBlock ∧ some k_ ≠ (.slice Ao50 t139.length co50 : Value).ownBlock) ∧ some k_ ≠ (.slice Ao126 t171.length co126 : Value).ownBlock) ∧ some k_ ≠ (.slice Ao136 t180.length co136 : Value).ownBlock)) (n := t118.length) (c := co32) ?_).2.2; exact (by refine au0 ?_; exact (Kd.R_mono (Kd.R_far (p := ⟨gb184, 2, none⟩) (Kd.R_far (p := ⟨gb184, 1, none⟩) (Kd.R_far (p := ⟨gb184, 0, none⟩) (Kd.R_types HO_123002.out BK184.out (by decide)) k2E (.slice Ao129 t174.length co129)) k2E (.slice Ao135 t177.length co135)) k2E (.slice Ao136 t180.length co136)) k1E))); (case side12 => exact (Kd.R_reads' HO_123002.out).2.1); rintro e w148 ⟨rfl, hb⟩; refine ⟨_, rfl, ?_⟩; replace HO_123000 := am (Kd.R_below (by refine au0 ?_; exact (Kd.R_mono (Kd.R_far (p := ⟨gb184, 2, none⟩) (Kd.R_far (p := ⟨gb184, 1, none⟩) (Kd.R_far (p := ⟨gb184, 0, none⟩) (Kd.R_types HO_123000.out BK184.out (by decide)) k2E (.slice Ao129 t174.length co129)) k2E (.slice Ao135 t177.length co135)) k2E (.slice Ao136 t180.length co136)) k1E)) hb); replace HO_123001 := am (Kd.R_below (by refine au0 ?_; exact (Kd.R_mono (Kd.R_far (p := ⟨gb184, 2, none⟩) (Kd.R_far (p := ⟨gb184, 1, none⟩) (Kd.R_far (p := ⟨gb184, 0, none⟩) (Kd.R_types HO_123001.out BK184.out (by decide)) k2E (.slice Ao129 t174.length co129)) k2E (.slice Ao135 t177.length co135)) k2E (.slice Ao136 t180.length co136)) k1E)) hb); replace HO_123002 := am (Kd.R_below (by refine au0 ?_; exact (Kd.R_mono (Kd.R_far (p := ⟨gb184, 2, none⟩) (Kd.R_far (p := ⟨gb184, 1, none⟩) (Kd.R_far (p := ⟨gb184, 0, none⟩) (Kd.R_types HO_123002.out BK184.out (by decide)) k2E (.slice Ao129 t174.length co129)) k2E (.slice Ao135 t177.length co135)) k2E (.slice Ao136 t180.length co136)) k1E)) hb); replace HO_133000 := am (Kd.R_below (by refine au0 ?_; exact (Kd.R_mono (Kd.R_far (p := ⟨gb184, 2, none⟩) (Kd.R_far (p := ⟨gb184, 1, none⟩) (Kd.R_far (p := ⟨gb184, 0, none⟩) (Kd.R_types HO_133000.out BK184.out (by decide)) k2E (.slice Ao129 t174.length co129)) k2E (.slice Ao135 t177.length co135)) k2E (.slice Ao136 t180.length co136)) k1E)) hb); replace HO_133001 := am (Kd.R_below (by refine au0 ?_; exact (Kd.R_mono (Kd.R_far (p := ⟨gb184, 2, none⟩) (Kd.R_far (p := ⟨gb184, 1, none⟩) (Kd.R_far (p := ⟨gb184, 0, none⟩) (Kd.R_types HO_133001.out BK184.out (by decide)) k2E (.slice Ao129 t174.length co129)) k2E (.slice Ao135 t177.length co135)) k2E (.slice Ao136 t180.length co136)) k1E)) hb); replace HO_133002 := am (Kd.R_below (by refine au0 ?_; exact (Kd.R_mono (Kd.R_far (p := ⟨gb184, 2, none⟩) (Kd.R_far (p := ⟨gb184, 1, none⟩) (Kd.R_far (p := ⟨gb184, 0, none⟩) (Kd.R_types HO_133002.out BK184.out (by decide)) k2E (.slice Ao129 t174.length co129)) k2E (.slice Ao135 t177.length co135)) k2E (.slice Ao136 t180.length co136)) k1E)) hb); replace HO_144000 := am (Kd.R_below (by refine au0 ?_; exact (Kd.R_mono (Kd.R_far (p := ⟨gb184, 2, none⟩) (Kd.R_far (p := ⟨gb184, 1, none⟩) (Kd.R_far (p := ⟨gb184, 0, none⟩) (Kd.R_types HO_144000.out BK184.out (by decide)) k2E (.slice Ao129 t174.length co129)) k2E (.slice Ao135 t177.length co135)) k2E (.slice Ao136 t180.length co136)) k1E)) hb); replace HO_144001 := am (Kd.R_below (by refine au0 ?_; exact (Kd.R_mono (Kd.R_far (p := ⟨gb184, 2, none⟩) (Kd.R_far (p := ⟨gb184, 1, none⟩) (Kd.R_far (p := ⟨gb184, 0, none⟩) (Kd.R_types HO_144001.out BK184.out (by decide)) k2E (.slice Ao129 t174.length co129)) k2E (.slice Ao135 t177.length co135)) k2E (.slice Ao136 t180.length co136)) k1E)) hb); replace HO_144002 := am (Kd.R_below (by refine au0 ?_; exact (Kd.R_mono (Kd.R_far (p := ⟨gb184, 2, none⟩) (Kd.R_far (p := ⟨gb184, 1, none⟩) (Kd.R_far (p := ⟨gb184, 0, none⟩) (Kd.R_types HO_144002.out BK184.out (by decide)) k2E (.slice Ao129 t174.length co129)) k2E (.slice Ao135 t177.length co135)) k2E (.slice Ao136 t180.length co136)) k1E)) hb); replace HO167 := am (Kd.R_below (by refine au0 ?_; exact (Kd.R_mono (Kd.R_far (p := ⟨gb184, 2, none⟩) (Kd.R_far (p := ⟨gb184, 1, none⟩) (Kd.R_far (p := ⟨gb184, 0, none⟩) (Kd.R_types HO167.out BK184.out (by decide)) k2E (.slice Ao129 t174.length co129)) k2E (.slice Ao135 t177.length co135)) k2E (.slice Ao136 t180.length co136)) k1E)) hb); replace HO170 := am (Kd.R_below (by refine au0 ?_; exact (Kd.R_mono (Kd.R_far (p := ⟨gb184, 2, none⟩) (Kd.R_far (p := ⟨gb184, 1, none⟩) (Kd.R_far (p := ⟨gb184, 0, none⟩) (Kd.R_types HO170.out BK184.out (by decide)) k2E (.slice Ao129 t174.length co129)) k2E (.slice Ao135 t177.length co135)) k2E (.slice Ao136 t180.length co136)) k1E)) hb); replace HO173 := am (Kd.R_below (by refine au0 ?_; exact (Kd.R_mono (Kd.R_far (p := ⟨gb184, 2, none⟩) (Kd.R_far (p := ⟨gb184, 1, none⟩) (Kd.R_far (p := ⟨gb184, 0, none⟩) (Kd.R_types HO173.out BK184.out (by decide)) k2E (.slice Ao129 t174.length co129)) k2E (.slice Ao135 t177.length co135)) k2E (.slice Ao136 t180.length co136)) k1E)) hb); replace HO176 := am (Kd.R_below (by refine au0 ?_; exact (Kd.R_mono (Kd.R_far (p := ⟨gb184, 2, none⟩) (Kd.R_far (p := ⟨gb184, 1, none⟩) (Kd.R_far (p := ⟨gb184, 0, none⟩) (Kd.R_types HO176.out BK184.out (by decide)) k2E (.slice Ao129 t174.length co129)) k2E (.slice Ao135 t177.length co135)) k2E (.slice Ao136 t180.length co136)) k1E)) hb); replace HO179 := am (Kd.R_below (by refine au0 ?_; exact (Kd.R_mono (Kd.R_far (p := ⟨gb184, 2, none⟩) (Kd.R_far (p := ⟨gb184, 1, none⟩) (Kd.R_far (p := ⟨gb184, 0, none⟩) (Kd.R_types HO179.out BK184.out (by decide)) k2E (.slice Ao129 t174.length co129)) k2E (.slice Ao135 t177.length co135)) k2E (.slice Ao136 t180.length co136)) k1E)) hb); replace HO182 := am (Kd.R_below (by refine au0 ?_; exact (Kd.R_mono (Kd.R_far (p := ⟨gb184, 2, none⟩) (Kd.R_far (p := ⟨gb184, 1, none⟩) (Kd.R_far (p := ⟨gb184, 0, none⟩) (Kd.R_types HO182.out BK184.out (by decide)) k2E (.slice Ao129 t174.length co129)) k2E (.slice Ao135 t177.length co135)) k2E (.slice Ao136 t180.length co136)) k1E)) hb); replace BK101 := am (qab (g := gb101) (o := .cells #[.slice A0_0 l0_0.length c0_0, .slice A0_1 l0_1.length c0_1, .slice A0_2 l0_2.length c0_2] 25 (0, 0)) (au14 NB101_184.out BK101.out) hb); replace BK122 := am (qab (g := gb122) (o := .cells #[.slice Ao28 t112.length co28, .slice Ao31 t115.length co31, .slice Ao32 t118.length co32] 31 (0, 0)) (au14 NB122_184.out BK122.out) hb); replace BK132 := am (qab (g := gb132) (o := .cells #[.slice Ao36 t156.length co36, .slice Ao40 t157.length co40, .slice Ao41 t158.length co41] 31 (0, 0)) (au14 NB132_184.out BK132.out) hb); replace BK143 := am (qab (g := gb143) (o := .cells #[.slice Ao44 t133.length co44, .slice Ao49 t136.length co49, .slice Ao50 t139.length co50] 31 (0, 0)) (au14 NB143_184.out BK143.out) hb); replace BK184 := am (qab (g := gb184) (o := .cells #[.slice Ao129 t174.length co129, .slice Ao135 t177.length co135, .slice Ao136 t180.length co136] 31 (0, 0)) (by refine au1 ?_; refine qam (cs := #[.slice Ao129 t174.length co129, .slice Ao135 t177.length co135, .slice none 0 0]) ?_ 2 _ rfl; refine au1 ?_; refine qam (cs := #[.slice Ao129 t174.length co129, .slice none 0 0, .slice none 0 0]) ?_ 1 _ rfl; refine au1 ?_; refine qam (cs := #[.slice none 0 0, .slice none 0 0, .slice none 0 0]) ?_ 0 _ rfl; refine au1 ?_; exact BK184.out) hb); replace HB := am (qad (au15 HB.out GE101.out GE122.out GE132.out GE143.out GE184.out) hb); (try clear hb); (try clear hb2); (try clear hk); (try clear hi)))
               go_meet
               case rel => exact ⟨_, ((t183 != t121)), au10, H', ⟨by have := HJ16.out; have := HJ73.out; first | omega | exact Nat.le_refl _⟩, ⟨by (try simp only [hl133000_73]); (try simp only [hl133001_73]); (try simp only [hl133002_73]); refine au0 ?_; exact Kd.R_mono HO_123000.out (fun _ hk => ⟨hk.1.1.1.1.1, ⟨hk.1.1.1.1.2.1, ⟨hk.1.1.1.1.2.2.1, ⟨hk.1.1.1.1.2.2.2.1, ⟨hk.1.1.1.1.2.2.2.2, ⟨hk.1.2, hk.2⟩⟩⟩⟩⟩⟩)⟩, ⟨by (try simp only [hl133000_73]); (try simp only [hl133001_73]); (try simp only [hl133002_73]); refine au0 ?_; exact Kd.R_mono HO_123001.out (fun _ hk => ⟨hk.1.1.1.1.1, ⟨hk.1.1.1.1.2.1, ⟨hk.1.1.1.1.2.2.1, ⟨hk.1.1.1.1.2.2.2.1, ⟨hk.1.1.1.1.2.2.2.2, ⟨hk.1.2, hk.2⟩⟩⟩⟩⟩⟩)⟩, ⟨by (try simp only [hl133000_73]); (try simp only [hl133001_73]); (try simp only [hl133002_73]); refine au0 ?_; exact Kd.R_mono HO_123002.out (fun _ hk => ⟨hk.1.1.1, ⟨hk.1.1.2, hk.2⟩⟩)⟩, ⟨by (try simp only [hl133000_73]); (try simp only [hl133001_73]); (try simp only [hl133002_73]); refine au0 ?_; exact Kd.R_mono HO_133000.out (fun _ hk => ⟨hk.1.1.1.1.1, ⟨hk.1.1.1.1.2.1, ⟨hk.1.1.1.1.2.2.1, ⟨hk.1.1.1.1.2.2.2.1, ⟨hk.1.1.1.1.2.2.2.2, ⟨hk.1.2, hk.2⟩⟩⟩⟩⟩⟩)⟩, ⟨by (try simp only [hl133000_73]); (try simp only [hl133001_73]); (try simp only [hl133002_73]); refine au0 ?_; exact Kd.R_mono HO_133001.out (fun _ hk => ⟨hk.1.1.1.1.1, ⟨hk.1.1.1.1.2.1, ⟨hk.1.1.1.1.2.2.1, ⟨hk.1.1.1.1.2.2.2.1, ⟨hk.1.1.1.1.2.2.2.2, ⟨hk.1.2, hk.2⟩⟩⟩⟩⟩⟩)⟩, ⟨by (try simp only [hl133000_73]); (try simp only [hl133001_73]); (try simp only [hl133002_73]); refine au0 ?_; exact Kd.R_mono HO_133002.out (fun _ hk => ⟨hk.1.1.1, ⟨hk.1.1.2, hk.2⟩⟩)⟩, ⟨by (try simp only [hl133000_73]); (try simp only [hl133001_73]); (try simp only [hl133002_73]); refine au0 ?_; exact Kd.R_mono HO_144000.out (fun _ hk => ⟨hk.1.1.1.1.1, ⟨hk.1.1.1.1.2.1, ⟨hk.1.1.1.1.2.2.1, ⟨hk.1.1.1.1.2.2.2.1, ⟨hk.1.1.1.1.2.2.2.2, ⟨hk.1.2, hk.2⟩⟩⟩⟩⟩⟩)⟩, ⟨by (try simp only [hl133000_73]); (try simp only [hl133001_73]); (try simp only [hl133002_73]); refine au0 ?_; exact Kd.R_mono HO_144001.out (fun _ hk => ⟨hk.1.1.1.1.1, ⟨hk.1.1.1.1.2.1, ⟨hk.1.1.1.1.2.2.1, ⟨hk.1.1.1.1.2.2.2.1, ⟨hk.1.1.1.1.2.2.2.2, ⟨hk.1.2, hk.2⟩⟩⟩⟩⟩⟩)⟩, ⟨by (try simp only [hl133000_73]); (try simp only [hl133001_73]); (try simp only [hl133002_73]); refine au0 ?_; exact Kd.R_mono HO_144002.out (fun _ hk => ⟨hk.1.1.1, ⟨hk.1.1.2, hk.2⟩⟩)⟩, ⟨by (try simp only [hl133000_73]); (try simp only [hl133001_73]); (try simp only [hl133002_73]); refine au0 ?_; exact Kd.R_mono HO176.out (fun _ hk => ⟨hk.1.1.1.1.1.1.1.2, ⟨hk.1.1.1.1.1.1.2, ⟨hk.1.1.1.1.1.2, ⟨hk.1.1.1.1.2, ⟨hk.1.1.1.2, ⟨hk.1.1.2, hk.1.1.1.1.1.1.1.1⟩⟩⟩⟩⟩⟩)⟩, ⟨by (try simp only [hl133000_73]); (try simp only [hl133001_73]); (try simp only [hl133002_73]); refine au0 ?_; exact Kd.R_mono HO179.out (fun _ hk => ⟨hk.1.1.1.1.1.1.1.2, ⟨hk.1.1.1.1.1.1.2, ⟨hk.1.1.1.1.1.2, ⟨hk.1.1.1.1.2, ⟨hk.1.1.1.2, ⟨hk.1.1.2, hk.1.1.1.1.1.1.1.1⟩⟩⟩⟩⟩⟩)⟩, ⟨by (try simp only [hl133000_73]); (try simp only [hl133001_73]); (try simp only [hl133002_73]); refine au0 ?_; exact Kd.R_mono HO182.out (fun _ hk => ⟨hk.1.1.1.2, ⟨hk.1.1.2, hk.1.2⟩⟩)⟩, ⟨by (try simp only [hl133000_73]); (try simp only [hl133001_73]); (try simp only [hl133002_73]); refine au1 ?_; exact BK101.out⟩, ⟨by (try simp only [hl133000_73]); (try simp only [hl133001_73]); (try simp only [hl133002_73]); refine au1 ?_; exact BK122.out⟩, ⟨by (try simp only [hl133000_73]); (try simp only [hl133001_73]); (try simp only [hl133002_73]); refine au1 ?_; exact BK132.out⟩, ⟨by (try simp only [hl133000_73]); (try simp only [hl133001_73]); (try simp only [hl133002_73]); refine au1 ?_; exact BK143.out⟩, ⟨by (try simp only [hl133000_73]); (try simp only [hl133001_73]); (try simp only [hl133002_73]); refine au1 ?_; exact BK184.out⟩, ⟨(au15 HB.out GE101.out GE122.out GE132.out GE143.out GE184.out)⟩⟩
              ·
               replace c138 := Bool.eq_false_iff.mpr c138
               subst c138
               have H1 : (laws_FnExactReplace.j2 kj73 t160 true t161 t162 t163) = some true := by rw [if_neg (show ¬ (false = true) by decide)] at H; exact H
               clear H
               have H := H1
               clear H1
               have H' := am H
               clear H
               have hnb149 := NB184_101.out
               have hnc149 := NB101_184.out
               have hnb150 := NB184_122.out
               have hnc150 := NB122_184.out
               have hnb151 := NB184_132.out
               have hnc151 := NB132_184.out
               have hnb152 := NB184_143.out
               have hnc152 := NB143_184.out
               have hcz153_0 : _ = some (Value.slice none 0 0) := bcE BK184.out 0
               have hcz153_1 : _ = some (Value.slice none 0 0) := bcE BK184.out 1
               have hcz153_2 : _ = some (Value.slice none 0 0) := bcE BK184.out 2
               have hfz153_0 := qaa BK184.out 0
               have hfz153_1 := qaa BK184.out 1
               have hfz153_2 := qaa BK184.out 2
               have hnb154 := NB122_101.out
               have hnc154 := NB101_122.out
               have hnb155 := NB122_132.out
               have hnc155 := NB132_122.out
               have hnb156 := NB122_143.out
               have hnc156 := NB143_122.out
               have hcz157_0 : _ = some (Value.slice Ao28 t112.length co28) := bcE BK122.out 0
               have hcz157_1 : _ = some (Value.slice Ao31 t115.length co31) := bcE BK122.out 1
               have hcz157_2 : _ = some (Value.slice Ao32 t118.length co32) := bcE BK122.out 2
               have hfz157_0 := qaa BK122.out 0
               have hfz157_1 := qaa BK122.out 1
               have hfz157_2 := qaa BK122.out 2
               go_wp2_with (first | ((with_reducible refine qaj (f := 16) rfl ?_); refine qap (some 97) rfl rfl Try.func16 (by kernel_rfl) rfl #[.agg #[.slice Ao129 t174.length co129, .slice Ao135 t177.length co135, .slice Ao136 t180.length co136], .agg #[.slice Ao28 t112.length co28, .slice Ao31 t115.length co31, .slice Ao32 t118.length co32]] rfl au6 ?_; (with_reducible refine (laws_eqDisk.calls kj73 _ _ t174 _ _ t177 _ _ t180 _ _ t112 _ _ t115 _ _ t118 false _ ?side1 ?side2 ?side3 ?side4 ?side5 ?side6 ?side7 ?side8 ?side9 ?side10 ?side11 ?side12 A137.out).mono ?_); (case side1 => refine (Kd.R_reads' (e := 80) (base := w.heap.size) (ok := fun k_ => ((((((((some k_ ≠ (.slice Ao135 t177.length co135 : Value).ownBlock ∧ some k_ ≠ (.slice Ao28 t112.length co28 : Value).ownBlock) ∧ some k_ ≠ (.slice Ao31 t115.length co31 : Value).ownBlock) ∧ some k_ ≠ (.slice Ao36 t156.length co36 : Value).ownBlock) ∧ some k_ ≠ (.slice Ao40 t157.length co40 : Value).ownBlock) ∧ some k_ ≠ (.slice Ao44 t133.length co44 : Value).ownBlock) ∧ some k_ ≠ (.slice Ao49 t136.length co49 : Value).ownBlock) ∧ some k_ ≠ (.slice Ao124 t165.length co124 : Value).ownBlock) ∧ some k_ ≠ (.slice Ao125 t168.length co125 : Value).ownBlock)) (n := t174.length) (c := co129) ?_).2.2; exact (by refine au0 ?_; exact (Kd.R_mono (Kd.R_far (p := ⟨gb184, 2, none⟩) (Kd.R_far (p := ⟨gb184, 1, none⟩) (Kd.R_far (p := ⟨gb184, 0, none⟩) (Kd.R_types HO176.out BK184.out (by decide)) k2E (.slice Ao129 t174.length co129)) k2E (.slice Ao135 t177.length co135)) k2E (.slice Ao136 t180.length co136)) k1E))); (case side2 => exact (Kd.R_reads' HO176.out).2.1); (case side3 => refine (Kd.R_reads' (e := 80) (base := w.heap.size) (ok := fun k_ => ((((((((some k_ ≠ (.slice Ao129 t174.length co129 : Value).ownBlock ∧ some k_ ≠ (.slice Ao28 t112.length co28 : Value).ownBlock) ∧ some k_ ≠ (.slice Ao31 t115.length co31 : Value).ownBlock) ∧ some k_ ≠ (.slice Ao36 t156.length co36 : Value).ownBlock) ∧ some k_ ≠ (.slice Ao40 t157.length co40 : Value).ownBlock) ∧ some k_ ≠ (.slice Ao44 t133.length co44 : Value).ownBlock) ∧ some k_ ≠ (.slice Ao49 t136.length co49 : Value).ownBlock) ∧ some k_ ≠ (.slice Ao124 t165.length co124 : Value).ownBlock) ∧ some k_ ≠ (.slice Ao125 t168.length co125 : Value).ownBlock)) (n := t177.length) (c := co135) ?_).2.2; exact (by refine au0 ?_; exact (Kd.R_mono (Kd.R_far (p := ⟨gb184, 2, none⟩) (Kd.R_far (p := ⟨gb184, 1, none⟩) (Kd.R_far (p := ⟨gb184, 0, none⟩) (Kd.R_types HO179.out BK184.out (by decide)) k2E (.slice Ao129 t174.length co129)) k2E (.slice Ao135 t177.length co135)) k2E (.slice Ao136 t180.length co136)) k1E))); (case side4 => exact (Kd.R_reads' HO179.out).2.1); (case side5 => refine (Kd.R_reads' (e := 73) (base := w.heap.size) (ok := fun k_ => ((((True ∧ some k_ ≠ (.slice Ao32 t118.length co32 : Value).ownBlock) ∧ some k_ ≠ (.slice Ao41 t158.length co41 : Value).ownBlock) ∧ some k_ ≠ (.slice Ao50 t139.length co50 : Value).ownBlock) ∧ some k_ ≠ (.slice Ao126 t171.length co126 : Value).ownBlock)) (n := t180.length) (c := co136) ?_).2.2; exact (by refine au0 ?_; exact (Kd.R_mono (Kd.R_far (p := ⟨gb184, 2, none⟩) (Kd.R_far (p := ⟨gb184, 1, none⟩) (Kd.R_far (p := ⟨gb184, 0, none⟩) (Kd.R_types HO182.out BK184.out (by decide)) k2E (.slice Ao129 t174.length co129)) k2E (.slice Ao135 t177.length co135)) k2E (.slice Ao136 t180.length co136)) k1E))); (case side6 => exact (Kd.R_reads' HO182.out).2.1); (case side7 => refine (Kd.R_reads' (e := 80) (base := w.heap.size) (ok := fun k_ => (((((some k_ ≠ (.slice Ao31 t115.length co31 : Value).ownBlock ∧ (some k_ ≠ (.slice Ao36 t156.length co36 : Value).ownBlock ∧ (some k_ ≠ (.slice Ao40 t157.length co40 : Value).ownBlock ∧ (some k_ ≠ (.slice Ao44 t133.length co44 : Value).ownBlock ∧ some k_ ≠ (.slice Ao49 t136.length co49 : Value).ownBlock)))) ∧ some k_ ≠ (.slice Ao124 t165.length co124 : Value).ownBlock) ∧ some k_ ≠ (.slice Ao125 t168.length co125 : Value).ownBlock) ∧ some k_ ≠ (.slice Ao129 t174.length co129 : Value).ownBlock) ∧ some k_ ≠ (.slice Ao135 t177.length co135 : Value).ownBlock)) (n := t112.length) (c := co28) ?_).2.2; exact (by refine au0 ?_; exact (Kd.R_mono (Kd.R_far (p := ⟨gb184, 2, none⟩) (Kd.R_far (p := ⟨gb184, 1, none⟩) (Kd.R_far (p := ⟨gb184, 0, none⟩) (Kd.R_types HO_123000.out BK184.out (by decide)) k2E (.slice Ao129 t174.length co129)) k2E (.slice Ao135 t177.length co135)) k2E (.slice Ao136 t180.length co136)) k1E))); (case side8 => exact (Kd.R_reads' HO_123000.out).2.1); (case side9 => refine (Kd.R_reads' (e := 80) (base := w.heap.size) (ok := fun k_ => (((((some k_ ≠ (.slice Ao28 t112.length co28 : Value).ownBlock ∧ (some k_ ≠ (.slice Ao36 t156.length co36 : Value).ownBlock ∧ (some k_ ≠ (.slice Ao40 t157.length co40 : Value).ownBlock ∧ (some k_ ≠ (.slice Ao44 t133.length co44 : Value).ownBlock ∧ some k_ ≠ (.slice Ao49 t136.length co49 : Value).ownBlock)))) ∧ some k_ ≠ (.slice Ao124 t165.length co124 : Value).ownBlock) ∧ some k_ ≠ (.slice Ao125 t168.length co125 : Value).ownBlock) ∧ some k_ ≠ (.slice Ao129 t174.length co129 : Value).ownBlock) ∧ some k_ ≠ (.slice Ao135 t177.length co135 : Value).ownBlock)) (n := t115.length) (c := co31) ?_).2.2; exact (by refine au0 ?_; exact (Kd.R_mono (Kd.R_far (p := ⟨gb184, 2, none⟩) (Kd.R_far (p := ⟨gb184, 1, none⟩) (Kd.R_far (p := ⟨gb184, 0, none⟩) (Kd.R_types HO_123001.out BK184.out (by decide)) k2E (.slice Ao129 t174.length co129)) k2E (.slice Ao135 t177.length co135)) k2E (.slice Ao136 t180.length co136)) k1E))); (case side10 => exact (Kd.R_reads' HO_123001.out).2.1); (case side11 => refine (Kd.R_reads' (e := 73) (base := w.heap.size) (ok := fun k_ => (((some k_ ≠ (.slice Ao41 t158.length co41 : Value).ownBlock ∧ some k_ ≠ (.slice Ao50 t139.length co50 : Value).ownBlock) ∧ some k_ ≠ (.slice Ao126 t171.length co126 : Value).ownBlock) ∧ some k_ ≠ (.slice Ao136 t180.length co136 : Value).ownBlock)) (n := t118.length) (c := co32) ?_).2.2; exact (by refine au0 ?_; exact (Kd.R_mono (Kd.R_far (p := ⟨gb184, 2, none⟩) (Kd.R_far (p := ⟨gb184, 1, none⟩) (Kd.R_far (p := ⟨gb184, 0, none⟩) (Kd.R_types HO_123002.out BK184.out (by decide)) k2E (.slice Ao129 t174.length co129)) k2E (.slice Ao135 t177.length co135)) k2E (.slice Ao136 t180.length co136)) k1E))); (case side12 => exact (Kd.R_reads' HO_123002.out).2.1); rintro e w158 ⟨rfl, hb⟩; refine ⟨_, rfl, ?_⟩; replace HO_123000 := am (Kd.R_below (by refine au0 ?_; exact (Kd.R_mono (Kd.R_far (p := ⟨gb184, 2, none⟩) (Kd.R_far (p := ⟨gb184, 1, none⟩) (Kd.R_far (p := ⟨gb184, 0, none⟩) (Kd.R_types HO_123000.out BK184.out (by decide)) k2E (.slice Ao129 t174.length co129)) k2E (.slice Ao135 t177.length co135)) k2E (.slice Ao136 t180.length co136)) k1E)) hb); replace HO_123001 := am (Kd.R_below (by refine au0 ?_; exact (Kd.R_mono (Kd.R_far (p := ⟨gb184, 2, none⟩) (Kd.R_far (p := ⟨gb184, 1, none⟩) (Kd.R_far (p := ⟨gb184, 0, none⟩) (Kd.R_types HO_123001.out BK184.out (by decide)) k2E (.slice Ao129 t174.length co129)) k2E (.slice Ao135 t177.length co135)) k2E (.slice Ao136 t180.length co136)) k1E)) hb); replace HO_123002 := am (Kd.R_below (by refine au0 ?_; exact (Kd.R_mono (Kd.R_far (p := ⟨gb184, 2, none⟩) (Kd.R_far (p := ⟨gb184, 1, none⟩) (Kd.R_far (p := ⟨gb184, 0, none⟩) (Kd.R_types HO_123002.out BK184.out (by decide)) k2E (.slice Ao129 t174.length co129)) k2E (.slice Ao135 t177.length co135)) k2E (.slice Ao136 t180.length co136)) k1E)) hb); replace HO_133000 := am (Kd.R_below (by refine au0 ?_; exact (Kd.R_mono (Kd.R_far (p := ⟨gb184, 2, none⟩) (Kd.R_far (p := ⟨gb184, 1, none⟩) (Kd.R_far (p := ⟨gb184, 0, none⟩) (Kd.R_types HO_133000.out BK184.out (by decide)) k2E (.slice Ao129 t174.length co129)) k2E (.slice Ao135 t177.length co135)) k2E (.slice Ao136 t180.length co136)) k1E)) hb); replace HO_133001 := am (Kd.R_below (by refine au0 ?_; exact (Kd.R_mono (Kd.R_far (p := ⟨gb184, 2, none⟩) (Kd.R_far (p := ⟨gb184, 1, none⟩) (Kd.R_far (p := ⟨gb184, 0, none⟩) (Kd.R_types HO_133001.out BK184.out (by decide)) k2E (.slice Ao129 t174.length co129)) k2E (.slice Ao135 t177.length co135)) k2E (.slice Ao136 t180.length co136)) k1E)) hb); replace HO_133002 := am (Kd.R_below (by refine au0 ?_; exact (Kd.R_mono (Kd.R_far (p := ⟨gb184, 2, none⟩) (Kd.R_far (p := ⟨gb184, 1, none⟩) (Kd.R_far (p := ⟨gb184, 0, none⟩) (Kd.R_types HO_133002.out BK184.out (by decide)) k2E (.slice Ao129 t174.length co129)) k2E (.slice Ao135 t177.length co135)) k2E (.slice Ao136 t180.length co136)) k1E)) hb); replace HO_144000 := am (Kd.R_below (by refine au0 ?_; exact (Kd.R_mono (Kd.R_far (p := ⟨gb184, 2, none⟩) (Kd.R_far (p := ⟨gb184, 1, none⟩) (Kd.R_far (p := ⟨gb184, 0, none⟩) (Kd.R_types HO_144000.out BK184.out (by decide)) k2E (.slice Ao129 t174.length co129)) k2E (.slice Ao135 t177.length co135)) k2E (.slice Ao136 t180.length co136)) k1E)) hb); replace HO_144001 := am (Kd.R_below (by refine au0 ?_; exact (Kd.R_mono (Kd.R_far (p := ⟨gb184, 2, none⟩) (Kd.R_far (p := ⟨gb184, 1, none⟩) (Kd.R_far (p := ⟨gb184, 0, none⟩) (Kd.R_types HO_144001.out BK184.out (by decide)) k2E (.slice Ao129 t174.length co129)) k2E (.slice Ao135 t177.length co135)) k2E (.slice Ao136 t180.length co136)) k1E)) hb); replace HO_144002 := am (Kd.R_below (by refine au0 ?_; exact (Kd.R_mono (Kd.R_far (p := ⟨gb184, 2, none⟩) (Kd.R_far (p := ⟨gb184, 1, none⟩) (Kd.R_far (p := ⟨gb184, 0, none⟩) (Kd.R_types HO_144002.out BK184.out (by decide)) k2E (.slice Ao129 t174.length co129)) k2E (.slice Ao135 t177.length co135)) k2E (.slice Ao136 t180.length co136)) k1E)) hb); replace HO167 := am (Kd.R_below (by refine au0 ?_; exact (Kd.R_mono (Kd.R_far (p := ⟨gb184, 2, none⟩) (Kd.R_far (p := ⟨gb184, 1, none⟩) (Kd.R_far (p := ⟨gb184, 0, none⟩) (Kd.R_types HO167.out BK184.out (by decide)) k2E (.slice Ao129 t174.length co129)) k2E (.slice Ao135 t177.length co135)) k2E (.slice Ao136 t180.length co136)) k1E)) hb); replace HO170 := am (Kd.R_below (by refine au0 ?_; exact (Kd.R_mono (Kd.R_far (p := ⟨gb184, 2, none⟩) (Kd.R_far (p := ⟨gb184, 1, none⟩) (Kd.R_far (p := ⟨gb184, 0, none⟩) (Kd.R_types HO170.out BK184.out (by decide)) k2E (.slice Ao129 t174.length co129)) k2E (.slice Ao135 t177.length co135)) k2E (.slice Ao136 t180.length co136)) k1E)) hb); replace HO173 := am (Kd.R_below (by refine au0 ?_; exact (Kd.R_mono (Kd.R_far (p := ⟨gb184, 2, none⟩) (Kd.R_far (p := ⟨gb184, 1, none⟩) (Kd.R_far (p := ⟨gb184, 0, none⟩) (Kd.R_types HO173.out BK184.out (by decide)) k2E (.slice Ao129 t174.length co129)) k2E (.slice Ao135 t177.length co135)) k2E (.slice Ao136 t180.length co136)) k1E)) hb); replace HO176 := am (Kd.R_below (by refine au0 ?_; exact (Kd.R_mono (Kd.R_far (p := ⟨gb184, 2, none⟩) (Kd.R_far (p := ⟨gb184, 1, none⟩) (Kd.R_far (p := ⟨gb184, 0, none⟩) (Kd.R_types HO176.out BK184.out (by decide)) k2E (.slice Ao129 t174.length co129)) k2E (.slice Ao135 t177.length co135)) k2E (.slice Ao136 t180.length co136)) k1E)) hb); replace HO179 := am (Kd.R_below (by refine au0 ?_; exact (Kd.R_mono (Kd.R_far (p := ⟨gb184, 2, none⟩) (Kd.R_far (p := ⟨gb184, 1, none⟩) (Kd.R_far (p := ⟨gb184, 0, none⟩) (Kd.R_types HO179.out BK184.out (by decide)) k2E (.slice Ao129 t174.length co129)) k2E (.slice Ao135 t177.length co135)) k2E (.slice Ao136 t180.length co136)) k1E)) hb); replace HO182 := am (Kd.R_below (by refine au0 ?_; exact (Kd.R_mono (Kd.R_far (p := ⟨gb184, 2, none⟩) (Kd.R_far (p := ⟨gb184, 1, none⟩) (Kd.R_far (p := ⟨gb184, 0, none⟩) (Kd.R_types HO182.out BK184.out (by decide)) k2E (.slice Ao129 t174.length co129)) k2E (.slice Ao135 t177.length co135)) k2E (.slice Ao136 t180.length co136)) k1E)) hb); replace BK101 := am (qab (g := gb101) (o := .cells #[.slice A0_0 l0_0.length c0_0, .slice A0_1 l0_1.length c0_1, .slice A0_2 l0_2.length c0_2] 25 (0, 0)) (au14 NB101_184.out BK101.out) hb); replace BK122 := am (qab (g := gb122) (o := .cells #[.slice Ao28 t112.length co28, .slice Ao31 t115.length co31, .slice Ao32 t118.length co32] 31 (0, 0)) (au14 NB122_184.out BK122.out) hb); replace BK132 := am (qab (g := gb132) (o := .cells #[.slice Ao36 t156.length co36, .slice Ao40 t157.length co40, .slice Ao41 t158.length co41] 31 (0, 0)) (au14 NB132_184.out BK132.out) hb); replace BK143 := am (qab (g := gb143) (o := .cells #[.slice Ao44 t133.length co44, .slice Ao49 t136.length co49, .slice Ao50 t139.length co50] 31 (0, 0)) (au14 NB143_184.out BK143.out) hb); replace BK184 := am (qab (g := gb184) (o := .cells #[.slice Ao129 t174.length co129, .slice Ao135 t177.length co135, .slice Ao136 t180.length co136] 31 (0, 0)) (by refine au1 ?_; refine qam (cs := #[.slice Ao129 t174.length co129, .slice Ao135 t177.length co135, .slice none 0 0]) ?_ 2 _ rfl; refine au1 ?_; refine qam (cs := #[.slice Ao129 t174.length co129, .slice none 0 0, .slice none 0 0]) ?_ 1 _ rfl; refine au1 ?_; refine qam (cs := #[.slice none 0 0, .slice none 0 0, .slice none 0 0]) ?_ 0 _ rfl; refine au1 ?_; exact BK184.out) hb); replace HB := am (qad (au15 HB.out GE101.out GE122.out GE132.out GE143.out GE184.out) hb); (try clear hb); (try clear hb2); (try clear hk); (try clear hi)))
               go_meet
               case rel => exact ⟨_, (true), au10, H', ⟨by have := HJ16.out; have := HJ73.out; first | omega | exact Nat.le_refl _⟩, ⟨by (try simp only [hl133000_73]); (try simp only [hl133001_73]); (try simp only [hl133002_73]); refine au0 ?_; exact Kd.R_mono HO_123000.out (fun _ hk => ⟨hk.1.1.1.1.1, ⟨hk.1.1.1.1.2.1, ⟨hk.1.1.1.1.2.2.1, ⟨hk.1.1.1.1.2.2.2.1, ⟨hk.1.1.1.1.2.2.2.2, ⟨hk.1.2, hk.2⟩⟩⟩⟩⟩⟩)⟩, ⟨by (try simp only [hl133000_73]); (try simp only [hl133001_73]); (try simp only [hl133002_73]); refine au0 ?_; exact Kd.R_mono HO_123001.out (fun _ hk => ⟨hk.1.1.1.1.1, ⟨hk.1.1.1.1.2.1, ⟨hk.1.1.1.1.2.2.1, ⟨hk.1.1.1.1.2.2.2.1, ⟨hk.1.1.1.1.2.2.2.2, ⟨hk.1.2, hk.2⟩⟩⟩⟩⟩⟩)⟩, ⟨by (try simp only [hl133000_73]); (try simp only [hl133001_73]); (try simp only [hl133002_73]); refine au0 ?_; exact Kd.R_mono HO_123002.out (fun _ hk => ⟨hk.1.1.1, ⟨hk.1.1.2, hk.2⟩⟩)⟩, ⟨by (try simp only [hl133000_73]); (try simp only [hl133001_73]); (try simp only [hl133002_73]); refine au0 ?_; exact Kd.R_mono HO_133000.out (fun _ hk => ⟨hk.1.1.1.1.1, ⟨hk.1.1.1.1.2.1, ⟨hk.1.1.1.1.2.2.1, ⟨hk.1.1.1.1.2.2.2.1, ⟨hk.1.1.1.1.2.2.2.2, ⟨hk.1.2, hk.2⟩⟩⟩⟩⟩⟩)⟩, ⟨by (try simp only [hl133000_73]); (try simp only [hl133001_73]); (try simp only [hl133002_73]); refine au0 ?_; exact Kd.R_mono HO_133001.out (fun _ hk => ⟨hk.1.1.1.1.1, ⟨hk.1.1.1.1.2.1, ⟨hk.1.1.1.1.2.2.1, ⟨hk.1.1.1.1.2.2.2.1, ⟨hk.1.1.1.1.2.2.2.2, ⟨hk.1.2, hk.2⟩⟩⟩⟩⟩⟩)⟩, ⟨by (try simp only [hl133000_73]); (try simp only [hl133001_73]); (try simp only [hl133002_73]); refine au0 ?_; exact Kd.R_mono HO_133002.out (fun _ hk => ⟨hk.1.1.1, ⟨hk.1.1.2, hk.2⟩⟩)⟩, ⟨by (try simp only [hl133000_73]); (try simp only [hl133001_73]); (try simp only [hl133002_73]); refine au0 ?_; exact Kd.R_mono HO_144000.out (fun _ hk => ⟨hk.1.1.1.1.1, ⟨hk.1.1.1.1.2.1, ⟨hk.1.1.1.1.2.2.1, ⟨hk.1.1.1.1.2.2.2.1, ⟨hk.1.1.1.1.2.2.2.2, ⟨hk.1.2, hk.2⟩⟩⟩⟩⟩⟩)⟩, ⟨by (try simp only [hl133000_73]); (try simp only [hl133001_73]); (try simp only [hl133002_73]); refine au0 ?_; exact Kd.R_mono HO_144001.out (fun _ hk => ⟨hk.1.1.1.1.1, ⟨hk.1.1.1.1.2.1, ⟨hk.1.1.1.1.2.2.1, ⟨hk.1.1.1.1.2.2.2.1, ⟨hk.1.1.1.1.2.2.2.2, ⟨hk.1.2, hk.2⟩⟩⟩⟩⟩⟩)⟩, ⟨by (try simp only [hl133000_73]); (try simp only [hl133001_73]); (try simp only [hl133002_73]); refine au0 ?_; exact Kd.R_mono HO_144002.out (fun _ hk => ⟨hk.1.1.1, ⟨hk.1.1.2, hk.2⟩⟩)⟩, ⟨by (try simp only [hl133000_73]); (try simp only [hl133001_73]); (try simp only [hl133002_73]); refine au0 ?_; exact Kd.R_mono HO176.out (fun _ hk => ⟨hk.1.1.1.1.1.1.1.2, ⟨hk.1.1.1.1.1.1.2, ⟨hk.1.1.1.1.1.2, ⟨hk.1.1.1.1.2, ⟨hk.1.1.1.2, ⟨hk.1.1.2, hk.1.1.1.1.1.1.1.1⟩⟩⟩⟩⟩⟩)⟩, ⟨by (try simp only [hl133000_73]); (try simp only [hl133001_73]); (try simp only [hl133002_73]); refine au0 ?_; exact Kd.R_mono HO179.out (fun _ hk => ⟨hk.1.1.1.1.1.1.1.2, ⟨hk.1.1.1.1.1.1.2, ⟨hk.1.1.1.1.1.2, ⟨hk.1.1.1.1.2, ⟨hk.1.1.1.2, ⟨hk.1.1.2, hk.1.1.1.1.1.1.1.1⟩⟩⟩⟩⟩⟩)⟩, ⟨by (try simp only [hl133000_73]); (try simp only [hl133001_73]); (try simp only [hl133002_73]); refine au0 ?_; exact Kd.R_mono HO182.out (fun _ hk => ⟨hk.1.1.1.2, ⟨hk.1.1.2, hk.1.2⟩⟩)⟩, ⟨by (try simp only [hl133000_73]); (try simp only [hl133001_73]); (try simp only [hl133002_73]); refine au1 ?_; exact BK101.out⟩, ⟨by (try simp only [hl133000_73]); (try simp only [hl133001_73]); (try simp only [hl133002_73]); refine au1 ?_; exact BK122.out⟩, ⟨by (try simp only [hl133000_73]); (try simp only [hl133001_73]); (try simp only [hl133002_73]); refine au1 ?_; exact BK132.out⟩, ⟨by (try simp only [hl133000_73]); (try simp only [hl133001_73]); (try simp only [hl133002_73]); refine au1 ?_; exact BK143.out⟩, ⟨by (try simp only [hl133000_73]); (try simp only [hl133001_73]); (try simp only [hl133002_73]); refine au1 ?_; exact BK184.out⟩, ⟨(au15 HB.out GE101.out GE122.out GE132.out GE143.out GE184.out)⟩⟩
             case rest =>
              clear HC112
              obtain ⟨kq, x103_111, rfl, HA, HJ111, HO_123000, HO_123001, HO_123002, HO_133000, HO_133001, HO_133002, HO_144000, HO_144001, HO_144002, HO_185000, HO_185001, HO_185002, BK101, BK122, BK132, BK143, BK184, HB⟩ := hcut
              have hl144000_111 := (Kd.R_reads' HO_144000.out).1
              rw [hl144000_111] at HO_144000
              (try simp only [hl144000_111])
              (try simp only [hl144000_111] at BK101)
              (try simp only [hl144000_111] at BK122)
              (try simp only [hl144000_111] at BK132)
              (try simp only [hl144000_111] at BK143)
              (try simp only [hl144000_111] at BK184)
              (try simp only [hl144000_111] at HO_123000)
              (try simp only [hl144000_111] at HO_123001)
              (try simp only [hl144000_111] at HO_123002)
              (try simp only [hl144000_111] at HO_133000)
              (try simp only [hl144000_111] at HO_133001)
              (try simp only [hl144000_111] at HO_133002)
              (try simp only [hl144000_111] at HO_144001)
              (try simp only [hl144000_111] at HO_144002)
              (try simp only [hl144000_111] at HO_185000)
              (try simp only [hl144000_111] at HO_185001)
              (try simp only [hl144000_111] at HO_185002)
              have hl144001_111 := (Kd.R_reads' HO_144001.out).1
              rw [hl144001_111] at HO_144001
              (try simp only [hl144001_111])
              (try simp only [hl144001_111] at BK101)
              (try simp only [hl144001_111] at BK122)
              (try simp only [hl144001_111] at BK132)
              (try simp only [hl144001_111] at BK143)
              (try simp only [hl144001_111] at BK184)
              (try simp only [hl144001_111] at HO_123000)
              (try simp only [hl144001_111] at HO_123001)
              (try simp only [hl144001_111] at HO_123002)
              (try simp only [hl144001_111] at HO_133000)
              (try simp only [hl144001_111] at HO_133001)
              (try simp only [hl144001_111] at HO_133002)
              (try simp only [hl144001_111] at HO_144000)
              (try simp only [hl144001_111] at HO_144002)
              (try simp only [hl144001_111] at HO_185000)
              (try simp only [hl144001_111] at HO_185001)
              (try simp only [hl144001_111] at HO_185002)
              have hl144002_111 := (Kd.R_reads' HO_144002.out).1
              rw [hl144002_111] at HO_144002
              (try simp only [hl144002_111])
              (try simp only [hl144002_111] at BK101)
              (try simp only [hl144002_111] at BK122)
              (try simp only [hl144002_111] at BK132)
              (try simp only [hl144002_111] at BK143)
              (try simp only [hl144002_111] at BK184)
              (try simp only [hl144002_111] at HO_123000)
              (try simp only [hl144002_111] at HO_123001)
              (try simp only [hl144002_111] at HO_123002)
              (try simp only [hl144002_111] at HO_133000)
              (try simp only [hl144002_111] at HO_133001)
              (try simp only [hl144002_111] at HO_133002)
              (try simp only [hl144002_111] at HO_144000)
              (try simp only [hl144002_111] at HO_144001)
              (try simp only [hl144002_111] at HO_185000)
              (try simp only [hl144002_111] at HO_185001)
              (try simp only [hl144002_111] at HO_185002)
              cases kq with
              | zero => exact absurd HA.out (by simp [laws_FnExactReplace.j2])
              | succ kj111 =>
               have H := HA.out
               clear HA
               simp only [laws_FnExactReplace.j2] at H
               by_cases c159 : x103_111 = true
               ·
                subst c159
                have H1 : (some false) = some true := by first | (with_reducible rfl) | (rw [if_pos rfl] at H; exact H)
                clear H
                have H := H1
                clear H1
                exact absurd (Option.some.inj H) (by decide)
               ·
                replace c159 := Bool.eq_false_iff.mpr c159
                subst c159
                have H1 : ((laws_heldDisk.f kj111 t161 t162 t163 1).bind fun t186 => (if t186 < 0 then (some false) else (if t186 = t160 then (some true) else (some false)))) = some true := by rw [if_neg (show ¬ (false = true) by decide)] at H; exact H
                clear H
                have H := H1
                clear H1
                replace H := Option.bind_eq_some_iff.mp H
                obtain ⟨t186, A1600, H⟩ := H
                replace H : (if t186 < 0 then (some false) else (if t186 = t160 then (some true) else (some false))) = some true := H
                have A160 := am A1600
                clear A1600
                by_cases c161 : t186 < 0
                ·
                 rw [if_pos c161] at H
                 have c161b0 : decide (t186 < 0) = true := decide_eq_true c161
                 clear c161
                 exact absurd (Option.some.inj H) (by decide)
                ·
                 rw [if_neg c161] at H
                 have c161b0 : decide (t186 < 0) = false := decide_eq_false c161
                 clear c161
                 by_cases c162 : t186 = t160
                 ·
                  rw [if_pos c162] at H
                  have c162b0 : (t186 == t160) = true := beq_iff_eq.mpr c162
                  have c162b1 : (t186 != t160) = false := bne_eq_false_iff_eq.mpr c162
                  clear c162
                  clear H
                  have hnb163 := NB143_101.out
                  have hnc163 := NB101_143.out
                  have hnb164 := NB143_122.out
                  have hnc164 := NB122_143.out
                  have hnb165 := NB143_132.out
                  have hnc165 := NB132_143.out
                  have hnb166 := NB143_184.out
                  have hnc166 := NB184_143.out
                  have hcz167_0 : _ = some (Value.slice Ao44 t161.length co44) := bcE BK143.out 0
                  have hcz167_1 : _ = some (Value.slice Ao49 t162.length co49) := bcE BK143.out 1
                  have hcz167_2 : _ = some (Value.slice Ao50 t163.length co50) := bcE BK143.out 2
                  have hfz167_0 := qaa BK143.out 0
                  have hfz167_1 := qaa BK143.out 1
                  have hfz167_2 := qaa BK143.out 2
                  go_wp2_with (first | ((with_reducible refine qaj (f := 30) rfl ?_); refine qap (some 106) rfl rfl Try.func30 (by kernel_rfl) rfl #[.agg #[.slice Ao44 t161.length co44, .slice Ao49 t162.length co49, .slice Ao50 t163.length co50], .int .i64 1] rfl au6 ?_; (with_reducible refine (laws_heldDisk.calls kj111 _ _ t161 _ _ t162 _ _ t163 1 t186 _ ?side1 ?side2 ?side3 ?side4 ?side5 ?side6 A160.out).mono ?_); (case side1 => repeat (first | exact (Kd.R_reads' HO_144000.out).2.2 | (with_reducible refine Kd.C_alloc ?_ _) | (with_reducible refine Kd.C_drewN ?_ _) | (with_reducible refine Kd.C_drew ?_))); (case side2 => exact (Kd.R_reads' HO_144000.out).2.1); (case side3 => repeat (first | exact (Kd.R_reads' HO_144001.out).2.2 | (with_reducible refine Kd.C_alloc ?_ _) | (with_reducible refine Kd.C_drewN ?_ _) | (with_reducible refine Kd.C_drew ?_))); (case side4 => exact (Kd.R_reads' HO_144001.out).2.1); (case side5 => repeat (first | exact (Kd.R_reads' HO_144002.out).2.2 | (with_reducible refine Kd.C_alloc ?_ _) | (with_reducible refine Kd.C_drewN ?_ _) | (with_reducible refine Kd.C_drew ?_))); (case side6 => exact (Kd.R_reads' HO_144002.out).2.1); rintro e w168 ⟨rfl, hb⟩; refine ⟨_, rfl, ?_⟩; replace HO_123000 := am (Kd.R_below (au0 HO_123000.out) hb); replace HO_123001 := am (Kd.R_below (au0 HO_123001.out) hb); replace HO_123002 := am (Kd.R_below (au0 HO_123002.out) hb); replace HO_133000 := am (Kd.R_below (au0 HO_133000.out) hb); replace HO_133001 := am (Kd.R_below (au0 HO_133001.out) hb); replace HO_133002 := am (Kd.R_below (au0 HO_133002.out) hb); replace HO_144000 := am (Kd.R_below (au0 HO_144000.out) hb); replace HO_144001 := am (Kd.R_below (au0 HO_144001.out) hb); replace HO_144002 := am (Kd.R_below (au0 HO_144002.out) hb); replace HO_185000 := am (Kd.R_below (au0 HO_185000.out) hb); replace HO_185001 := am (Kd.R_below (au0 HO_185001.out) hb); replace HO_185002 := am (Kd.R_below (au0 HO_185002.out) hb); replace BK101 := am (qab (au1 BK101.out) hb); replace BK122 := am (qab (au1 BK122.out) hb); replace BK132 := am (qab (au1 BK132.out) hb); replace BK143 := am (qab (au1 BK143.out) hb); replace BK184 := am (qab (au1 BK184.out) hb); replace HB := am (qad (au15 HB.out GE101.out GE122.out GE132.out GE143.out GE184.out) hb); (try clear hb); (try clear hb2); (try clear hk); (try clear hi)))
                  go_ret
                  exact ⟨by first | rfl | (simp [qag, qah] <;> rfl) | (simp [*, qag, qah] <;> rfl), (au15 HB.out GE101.out GE122.out GE132.out GE143.out GE184.out)⟩
                 ·
                  rw [if_neg c162] at H
                  have c162b0 : (t186 == t160) = false := beq_eq_false_iff_ne.mpr c162
                  have c162b1 : (t186 != t160) = true := bne_iff_ne.mpr c162
                  exact absurd (Option.some.inj H) (by decide)
            ·
             rw [if_neg c109] at H
             have c109b0 : (t164 == t160) = false := beq_eq_false_iff_ne.mpr c109
             have c109b1 : (t164 != t160) = true := bne_iff_ne.mpr c109
             exact absurd (Option.some.inj H) (by decide)
       ·
        replace c72 := Bool.eq_false_iff.mpr c72
        subst c72
        have H1 : (some false) = some true := by rw [if_neg (show ¬ (false = true) by decide)] at H; exact H
        clear H
        have H := H1
        clear H1
        exact absurd (Option.some.inj H) (by decide)

end

section
theorem qer (l : List S108) (i : Nat) (h : i < l.length) : qbc l (i : Int) = l[i] := by
 unfold qbc
 rw [Int.toNat_natCast, List.getD_eq_getElem?_getD, List.getElem?_eq_getElem h]
 rfl
def qdc (x : S108) : S73 := ⟨x.f0, x.f1, x.f2, x.f3⟩
theorem laws_szDOp.eq (x0 : Int) (x1 : ByteArray) (x2 : ByteArray) (x3 : ByteArray) (a : Int) (h0 : 0 ≤ a) (h1 : a ≤ 1048576) (o1 : x1.size ≤ 9223372036854775807) (o2 : x2.size ≤ 9223372036854775807) (o3 : x3.size ≤ 9223372036854775807) : ∃ v, laws_szDOp.f x0 x1 x2 x3 a = some v ∧ (v < 0 ∨ (0 ≤ v ∧ v ≤ a ∧ x1.size ≤ 1048576 ∧ x2.size ≤ 1048576 ∧ x3.size ≤ 1048576)) := by
 unfold laws_szDOp.f
 rw [qba (x := a - (x1.size : Int)) (by omega) (by omega)]
 by_cases c1 : a - (x1.size : Int) < 0
 · exact ⟨-1, by rw [if_pos c1], .inl (by omega)⟩
 rw [if_neg c1]
 rw [qba (x := a - (x1.size : Int) - (x2.size : Int)) (by omega) (by omega)]
 by_cases c2 : a - (x1.size : Int) - (x2.size : Int) < 0
 · exact ⟨-1, by rw [if_pos c2], .inl (by omega)⟩
 rw [if_neg c2]
 rw [qba (x := a - (x1.size : Int) - (x2.size : Int) - (x3.size : Int)) (by omega) (by omega)]
 by_cases c3 : a - (x1.size : Int) - (x2.size : Int) - (x3.size : Int) < 0
 · exact ⟨-1, by rw [if_pos c3], .inl (by omega)⟩
 rw [if_neg c3]
 exact ⟨_, rfl, .inr ⟨by omega, by omega, by omega, by omega, by omega⟩⟩
theorem laws_szDOpS.l0_ok (l : List S108) (ho : ∀ x ∈ l, x.f1.size ≤ 9223372036854775807 ∧ x.f2.size ≤ 9223372036854775807 ∧ x.f3.size ≤ 9223372036854775807) (hl : l.length ≤ 9223372036854775807) (d : Nat) : ∀ (i : Nat) (a : Int), l.length - i = d → i ≤ l.length → 0 ≤ a → a ≤ 1048576 → ∃ r, Ev (fun k => laws_szDOpS.l0 k l a i) r ∧ (r < 0 ∨ (0 ≤ r ∧ r ≤ a ∧ ∀ x ∈ l.drop i, x.f1.size ≤ 1048576 ∧ x.f2.size ≤ 1048576 ∧ x.f3.size ≤ 1048576)) := by
 induction d with
 | zero =>
  intro i a hd hi h0 h1
  refine ⟨a, ?_, .inr ⟨h0, Int.le_refl _, fun x hx => ?_⟩⟩
  ·
   refine Ev.step (fun k => by rw [laws_szDOpS.l0]) ?_
   exact Ev.neg (by omega) (Ev.ret _)
  ·
   rw [List.drop_of_length_le (by omega)] at hx
   cases hx
 | succ d ih =>
  intro i a hd hi h0 h1
  have hlt : i < l.length := by omega
  have hox := ho _ (List.getElem_mem hlt)
  obtain ⟨v, hv, hv'⟩ := laws_szDOp.eq (l[i]).f0 (l[i]).f1 (l[i]).f2 (l[i]).f3 a h0 h1 hox.1 hox.2.1 hox.2.2
  have e2 : wrap64 ((i : Int) + 1) = ((i + 1 : Nat) : Int) := by rw [qba (by omega) (by omega)]; omega
  rcases hv' with hv' | ⟨v0, v1, vs⟩
  ·
   refine ⟨-1, ?_, .inl (by omega)⟩
   refine Ev.step (fun k => by rw [laws_szDOpS.l0]) ?_
   refine Ev.pos (by omega) (Ev.pos (by omega) ?_)
   rw [qer l i hlt]
   exact Ev.bindS hv (Ev.pos hv' (Ev.ret _))
  ·
   obtain ⟨r, hr, hr'⟩ := ih (i + 1) v (by omega) (by omega) v0 (by omega)
   refine ⟨r, ?_, ?_⟩
   ·
    refine Ev.step (fun k => by rw [laws_szDOpS.l0]) ?_
    refine Ev.pos (by omega) (Ev.pos (by omega) ?_)
    rw [qer l i hlt, e2]
    exact Ev.bindS hv (Ev.neg (by omega) hr)
   ·
    rcases hr' with hr' | ⟨r0, r1, rs⟩
    · exact .inl hr'
    ·
     refine .inr ⟨r0, by omega, fun x hx => ?_⟩
     rw [List.drop_eq_getElem_cons hlt] at hx
     rcases List.mem_cons.1 hx with rfl | hx
     · exact vs
     · exact rs x hx
theorem laws_szDOpS.sz (l : List S108) (a : Int) (h0 : 0 ≤ a) (h1 : a ≤ 1048576) (hl : l.length ≤ maxLen) (ho : ∀ x ∈ l, x.f1.size ≤ 9223372036854775807 ∧ x.f2.size ≤ 9223372036854775807 ∧ x.f3.size ≤ 9223372036854775807) : ∃ r, Ev (fun k => laws_szDOpS.f k l a) r ∧ (r < 0 ∨ (0 ≤ r ∧ r ≤ a ∧ l.length ≤ 1048576 ∧ ∀ x ∈ l, x.f1.size ≤ 1048576 ∧ x.f2.size ≤ 1048576 ∧ x.f3.size ≤ 1048576)) := by
 unfold maxLen at hl
 unfold laws_szDOpS.f
 rw [qba (x := a - (l.length : Int)) (by omega) (by omega)]
 by_cases h : a - (l.length : Int) < 0
 · exact ⟨-1, Ev.pos h (Ev.ret _), .inl (by omega)⟩
 ·
  obtain ⟨r, hr, hr'⟩ := laws_szDOpS.l0_ok l ho hl _ 0 (a - (l.length : Int)) rfl (Nat.zero_le _) (by omega) (by omega)
  refine ⟨r, Ev.neg h hr, ?_⟩
  rcases hr' with hr' | ⟨r0, r1, rs⟩
  · exact .inl hr'
  · exact .inr ⟨r0, by omega, by omega, rs⟩
theorem fillM_step_DOpS (l : List S108) (i : Nat) (h : i < l.length) : ((l.take i).map qdc ++ List.replicate (l.length - i) z73).set i (qdc l[i]) = (l.take (i + 1)).map qdc ++ List.replicate (l.length - (i + 1)) z73 := by
 have e : l.length - i = (l.length - (i + 1)) + 1 := by omega
 rw [e, List.replicate_succ, List.set_append_right _ _ (by rw [List.length_map, List.length_take]; omega), List.length_map, List.length_take, Nat.min_eq_left (by omega), Nat.sub_self, List.set_cons_zero, List.take_succ_eq_append_getElem h, List.map_append, List.append_assoc]
 rfl
theorem laws_toDOpS.l0_ev (l : List S108) (hl : l.length ≤ 1048576) (d : Nat) : ∀ i : Nat, l.length - i = d → i ≤ l.length →
 Ev (fun k => laws_toDOpS.l0 k l ((l.take i).map qdc ++ List.replicate (l.length - i) z73) i) (l.map qdc) := by
 induction d with
 | zero =>
  intro i hd hi
  refine Ev.step (fun k => by rw [laws_toDOpS.l0]) ?_
  refine Ev.neg (by omega) (Ev.ret' ?_)
  rw [List.take_of_length_le (by omega), Nat.sub_eq_zero_of_le (by omega), List.replicate_zero, List.append_nil]
 | succ d ih =>
  intro i hd hi
  have hlt : i < l.length := by omega
  refine Ev.step (fun k => by rw [laws_toDOpS.l0]) ?_
  refine Ev.pos (by omega) (Ev.pos (by omega) ?_)
  refine Ev.bindS rfl (Ev.pos (by rw [List.length_append, List.length_map, List.length_take, List.length_replicate]; omega) ?_)
  have hn := ih (i + 1) (by omega) (by omega)
  rw [show ((i + 1 : Nat) : Int) = wrap64 ((i : Int) + 1) from by rw [qba (by omega) (by omega)]; omega] at hn
  rw [qer l i hlt, Int.toNat_natCast]
  have hf := fillM_step_DOpS l i hlt
  unfold qdc at hf hn ⊢
  rw [hf]
  exact hn
theorem laws_toDOpS.ev (l : List S108) (hl : l.length ≤ 1048576) : Ev (fun k => laws_toDOpS.f k l) (l.map qdc) := by
 unfold laws_toDOpS.f
 refine Ev.pos (by omega) (Ev.pos (by omega) ?_)
 have := laws_toDOpS.l0_ev l hl _ 0 rfl (Nat.zero_le _)
 simpa using this
theorem laws_eqDOpS.refl0 (l : List S73) (hl : l.length ≤ 1099511627776) (d : Nat) : ∀ i : Nat, l.length - i = d → i ≤ l.length → Ev (fun k => laws_eqDOpS.l0 k l l i) true := by
 induction d with
 | zero =>
  intro i hd hi
  refine Ev.step (fun k => by rw [laws_eqDOpS.l0]) ?_
  exact Ev.neg (by omega) (Ev.ret _)
 | succ d ih =>
  intro i hd hi
  refine Ev.step (fun k => by rw [laws_eqDOpS.l0]) ?_
  refine Ev.pos (by omega) (Ev.pos (by omega) (Ev.pos (by omega) ?_))
  refine Ev.bindS (show laws_eqDOp.f (qae l (i : Int)).f0 (qae l (i : Int)).f1 (qae l (i : Int)).f2 (qae l (i : Int)).f3 (qae l (i : Int)).f0 (qae l (i : Int)).f1 (qae l (i : Int)).f2 (qae l (i : Int)).f3 = some true from by unfold laws_eqDOp.f; simp) (Ev.pos rfl ?_)
  have hn := ih (i + 1) (by omega) (by omega)
  rw [show ((i + 1 : Nat) : Int) = wrap64 ((i : Int) + 1) from by rw [qba (by omega) (by omega)]; omega] at hn
  exact hn
theorem laws_eqDOpS.refl (l : List S73) (hl : l.length ≤ 1099511627776) : Ev (fun k => laws_eqDOpS.f k l l) true := by
 unfold laws_eqDOpS.f
 exact Ev.pos rfl (laws_eqDOpS.refl0 l hl _ 0 rfl (Nat.zero_le _))

end

section
theorem qes (l : List S106) (i : Nat) (h : i < l.length) : qbm l (i : Int) = l[i] := by
 unfold qbm
 rw [Int.toNat_natCast, List.getD_eq_getElem?_getD, List.getElem?_eq_getElem h]
 rfl
def qbk (x : S106) : S80 := ⟨x.f0, x.f1⟩
theorem laws_szFile.eq (x0 : ByteArray) (x1 : ByteArray) (a : Int) (h0 : 0 ≤ a) (h1 : a ≤ 1048576) (o0 : x0.size ≤ 9223372036854775807) (o1 : x1.size ≤ 9223372036854775807) : ∃ v, laws_szFile.f x0 x1 a = some v ∧ (v < 0 ∨ (0 ≤ v ∧ v ≤ a ∧ x0.size ≤ 1048576 ∧ x1.size ≤ 1048576)) := by
 unfold laws_szFile.f
 rw [qba (x := a - (x0.size : Int)) (by omega) (by omega)]
 by_cases c0 : a - (x0.size : Int) < 0
 · exact ⟨-1, by rw [if_pos c0], .inl (by omega)⟩
 rw [if_neg c0]
 rw [qba (x := a - (x0.size : Int) - (x1.size : Int)) (by omega) (by omega)]
 by_cases c1 : a - (x0.size : Int) - (x1.size : Int) < 0
 · exact ⟨-1, by rw [if_pos c1], .inl (by omega)⟩
 rw [if_neg c1]
 exact ⟨_, rfl, .inr ⟨by omega, by omega, by omega, by omega⟩⟩
theorem laws_szFileS.l0_ok (l : List S106) (ho : ∀ x ∈ l, x.f0.size ≤ 9223372036854775807 ∧ x.f1.size ≤ 9223372036854775807) (hl : l.length ≤ 9223372036854775807) (d : Nat) : ∀ (i : Nat) (a : Int), l.length - i = d → i ≤ l.length → 0 ≤ a → a ≤ 1048576 → ∃ r, Ev (fun k => laws_szFileS.l0 k l a i) r ∧ (r < 0 ∨ (0 ≤ r ∧ r ≤ a ∧ ∀ x ∈ l.drop i, x.f0.size ≤ 1048576 ∧ x.f1.size ≤ 1048576)) := by
 induction d with
 | zero =>
  intro i a hd hi h0 h1
  refine ⟨a, ?_, .inr ⟨h0, Int.le_refl _, fun x hx => ?_⟩⟩
  ·
   refine Ev.step (fun k => by rw [laws_szFileS.l0]) ?_
   exact Ev.neg (by omega) (Ev.ret _)
  ·
   rw [List.drop_of_length_le (by omega)] at hx
   cases hx
 | succ d ih =>
  intro i a hd hi h0 h1
  have hlt : i < l.length := by omega
  have hox := ho _ (List.getElem_mem hlt)
  obtain ⟨v, hv, hv'⟩ := laws_szFile.eq (l[i]).f0 (l[i]).f1 a h0 h1 hox.1 hox.2
  have e2 : wrap64 ((i : Int) + 1) = ((i + 1 : Nat) : Int) := by rw [qba (by omega) (by omega)]; omega
  rcases hv' with hv' | ⟨v0, v1, vs⟩
  ·
   refine ⟨-1, ?_, .inl (by omega)⟩
   refine Ev.step (fun k => by rw [laws_szFileS.l0]) ?_
   refine Ev.pos (by omega) (Ev.pos (by omega) ?_)
   rw [qes l i hlt]
   exact Ev.bindS hv (Ev.pos hv' (Ev.ret _))
  ·
   obtain ⟨r, hr, hr'⟩ := ih (i + 1) v (by omega) (by omega) v0 (by omega)
   refine ⟨r, ?_, ?_⟩
   ·
    refine Ev.step (fun k => by rw [laws_szFileS.l0]) ?_
    refine Ev.pos (by omega) (Ev.pos (by omega) ?_)
    rw [qes l i hlt, e2]
    exact Ev.bindS hv (Ev.neg (by omega) hr)
   ·
    rcases hr' with hr' | ⟨r0, r1, rs⟩
    · exact .inl hr'
    ·
     refine .inr ⟨r0, by omega, fun x hx => ?_⟩
     rw [List.drop_eq_getElem_cons hlt] at hx
     rcases List.mem_cons.1 hx with rfl | hx
     · exact vs
     · exact rs x hx
theorem laws_szFileS.sz (l : List S106) (a : Int) (h0 : 0 ≤ a) (h1 : a ≤ 1048576) (hl : l.length ≤ maxLen) (ho : ∀ x ∈ l, x.f0.size ≤ 9223372036854775807 ∧ x.f1.size ≤ 9223372036854775807) : ∃ r, Ev (fun k => laws_szFileS.f k l a) r ∧ (r < 0 ∨ (0 ≤ r ∧ r ≤ a ∧ l.length ≤ 1048576 ∧ ∀ x ∈ l, x.f0.size ≤ 1048576 ∧ x.f1.size ≤ 1048576)) := by
 unfold maxLen at hl
 unfold laws_szFileS.f
 rw [qba (x := a - (l.length : Int)) (by omega) (by omega)]
 by_cases h : a - (l.length : Int) < 0
 · exact ⟨-1, Ev.pos h (Ev.ret _), .inl (by omega)⟩
 ·
  obtain ⟨r, hr, hr'⟩ := laws_szFileS.l0_ok l ho hl _ 0 (a - (l.length : Int)) rfl (Nat.zero_le _) (by omega) (by omega)
  refine ⟨r, Ev.neg h hr, ?_⟩
  rcases hr' with hr' | ⟨r0, r1, rs⟩
  · exact .inl hr'
  · exact .inr ⟨r0, by omega, by omega, rs⟩
theorem fillM_step_FileS (l : List S106) (i : Nat) (h : i < l.length) : ((l.take i).map qbk ++ List.replicate (l.length - i) z80).set i (qbk l[i]) = (l.take (i + 1)).map qbk ++ List.replicate (l.length - (i + 1)) z80 := by
 have e : l.length - i = (l.length - (i + 1)) + 1 := by omega
 rw [e, List.replicate_succ, List.set_append_right _ _ (by rw [List.length_map, List.length_take]; omega), List.length_map, List.length_take, Nat.min_eq_left (by omega), Nat.sub_self, List.set_cons_zero, List.take_succ_eq_append_getElem h, List.map_append, List.append_assoc]
 rfl
theorem laws_toFileS.l0_ev (l : List S106) (hl : l.length ≤ 1048576) (d : Nat) : ∀ i : Nat, l.length - i = d → i ≤ l.length →
 Ev (fun k => laws_toFileS.l0 k l ((l.take i).map qbk ++ List.replicate (l.length - i) z80) i) (l.map qbk) := by
 induction d with
 | zero =>
  intro i hd hi
  refine Ev.step (fun k => by rw [laws_toFileS.l0]) ?_
  refine Ev.neg (by omega) (Ev.ret' ?_)
  rw [List.take_of_length_le (by omega), Nat.sub_eq_zero_of_le (by omega), List.replicate_zero, List.append_nil]
 | succ d ih =>
  intro i hd hi
  have hlt : i < l.length := by omega
  refine Ev.step (fun k => by rw [laws_toFileS.l0]) ?_
  refine Ev.pos (by omega) (Ev.pos (by omega) ?_)
  refine Ev.bindS rfl (Ev.pos (by rw [List.length_append, List.length_map, List.length_take, List.length_replicate]; omega) ?_)
  have hn := ih (i + 1) (by omega) (by omega)
  rw [show ((i + 1 : Nat) : Int) = wrap64 ((i : Int) + 1) from by rw [qba (by omega) (by omega)]; omega] at hn
  rw [qes l i hlt, Int.toNat_natCast]
  have hf := fillM_step_FileS l i hlt
  unfold qbk at hf hn ⊢
  rw [hf]
  exact hn
theorem laws_toFileS.ev (l : List S106) (hl : l.length ≤ 1048576) : Ev (fun k => laws_toFileS.f k l) (l.map qbk) := by
 unfold laws_toFileS.f
 refine Ev.pos (by omega) (Ev.pos (by omega) ?_)
 have := laws_toFileS.l0_ev l hl _ 0 rfl (Nat.zero_le _)
 simpa using this
theorem laws_eqFileS.refl0 (l : List S80) (hl : l.length ≤ 1099511627776) (d : Nat) : ∀ i : Nat, l.length - i = d → i ≤ l.length → Ev (fun k => laws_eqFileS.l0 k l l i) true := by
 induction d with
 | zero =>
  intro i hd hi
  refine Ev.step (fun k => by rw [laws_eqFileS.l0]) ?_
  exact Ev.neg (by omega) (Ev.ret _)
 | succ d ih =>
  intro i hd hi
  refine Ev.step (fun k => by rw [laws_eqFileS.l0]) ?_
  refine Ev.pos (by omega) (Ev.pos (by omega) (Ev.pos (by omega) ?_))
  refine Ev.bindS (show laws_eqFile.f (qai l (i : Int)).f0 (qai l (i : Int)).f1 (qai l (i : Int)).f0 (qai l (i : Int)).f1 = some true from by unfold laws_eqFile.f; simp) (Ev.pos rfl ?_)
  have hn := ih (i + 1) (by omega) (by omega)
  rw [show ((i + 1 : Nat) : Int) = wrap64 ((i : Int) + 1) from by rw [qba (by omega) (by omega)]; omega] at hn
  exact hn
theorem laws_eqFileS.refl (l : List S80) (hl : l.length ≤ 1099511627776) : Ev (fun k => laws_eqFileS.f k l l) true := by
 unfold laws_eqFileS.f
 exact Ev.pos rfl (laws_eqFileS.refl0 l hl _ 0 rfl (Nat.zero_le _))

end

section
def okI (k : IntKind) (x : Int) : Prop := (Lit.int k x).wf = true
def okB (_ : Bool) : Prop := True
def okS (s : ByteArray) : Prop := s.size ≤ maxLen
def okL {α : Type} (ok : α → Prop) (l : List α) : Prop := l.length ≤ maxLen ∧ ∀ x ∈ l, ok x
def Opens {α : Type} (P : Program) (t : TypeId) (d : Kd α) (ok : α → Prop) : Prop :=
 ∀ (H : Type) (enc : TypeId × Value → H) (W : World) (base : Nat) (spare : Nat → Bool) (held : Bool) (fuel : Nat) (cs : List Value) (y : DataW H × List MemPlace),
  DataW.trod enc P W base spare held fuel t cs = some y → ∃ x, d.K W x cs ∧ ok x
theorem Opens.int {P : Program} {t : TypeId} {k : IntKind} (ht : P.underlying t = some (.int k)) : Opens P t (Kd.int k) (okI k) := by
 intro H enc W base spare held fuel cs y h
 obtain ⟨n, rfl, _, hw⟩ := DataW.trod_int ht h
 exact ⟨n, rfl, hw⟩
theorem Opens.bool {P : Program} {t : TypeId} (ht : P.underlying t = some .bool) : Opens P t Kd.bool okB := by
 intro H enc W base spare held fuel cs y h
 obtain ⟨n, rfl, _⟩ := DataW.trod_bool ht h
 exact ⟨n, rfl, trivial⟩
theorem Opens.string {P : Program} {t : TypeId} (ht : P.underlying t = some .string) : Opens P t Kd.string okS := by
 intro H enc W base spare held fuel cs y h
 obtain ⟨n, rfl, _, hw⟩ := DataW.trod_string ht h
 exact ⟨n, rfl, hw⟩
theorem list_of_index {α : Type} {p : Nat → α → Prop} (n : Nat) (h : ∀ i, i < n → ∃ x, p i x) : ∃ xs : List α, xs.length = n ∧ ∀ i x, xs[i]? = some x → p i x := by
 induction n with
 | zero => exact ⟨[], rfl, fun i x hx => by simp at hx⟩
 | succ n ih =>
  obtain ⟨xs, hl, hx⟩ := ih (fun i hi => h i (by omega))
  obtain ⟨y, hy⟩ := h n (by omega)
  refine ⟨xs ++ [y], by simp [hl], fun i x he => ?_⟩
  by_cases hi : i < xs.length
  ·
   rw [List.getElem?_append_left hi] at he
   exact hx i x he
  ·
   rw [List.getElem?_append_right (by omega)] at he
   by_cases e : i = xs.length
   ·
    subst e
    simp at he
    subst he
    rw [hl]
    exact hy
   ·
    rw [List.getElem?_eq_none (by simp; omega)] at he
    cases he
theorem Opens.slice {α : Type} {P : Program} {t e : TypeId} {d : Kd α} {ok : α → Prop} (ht : P.underlying t = some (.slice e)) (hd : Opens P e d ok) (hs : P.cellsOf e = d.sz) : Opens P t (Kd.slice e d) (okL ok) := by
 intro H enc W base spare held fuel cs y h
 rcases Deep.open_slice ht h with ⟨rfl, _⟩ | ⟨a, len, cap, m, n, D, Pl, rfl, hb, hl, hm, hme, _, hel⟩
 · exact ⟨[], ⟨none, 0, rfl, Nat.le_refl _, Kd.C_nil _ _⟩, Nat.zero_le _, fun x hx => by simp at hx⟩
 ·
  have hlm : len ≤ m := by
   rw [hme]
   split <;> omega
  have hx : ∀ i, i < len → ∃ x, ok x ∧ ∃ cs', W.cells? base (a.add (i * P.cellsOf e)) (P.cellsOf e) = some cs' ∧ d.K W x cs' := by
   intro i hi
   obtain ⟨cs', h1, h2⟩ := hel i (by omega)
   obtain ⟨x, hk, ho⟩ := hd H enc W base spare held n cs' _ h2
   exact ⟨x, ho, cs', h1, hk⟩
  obtain ⟨xs, rfl, hxs⟩ := list_of_index len hx
  have hmax : xs.length ≤ maxLen := Nat.le_trans hl hm
  refine ⟨xs, ⟨some a, cap, rfl, hl, rfl, hmax, fun _ => ⟨a, rfl, ?_⟩⟩, hmax, ?_⟩
  ·
   intro j p hp
   obtain ⟨_, cs', h1, h2⟩ := hxs j p hp
   refine ⟨cs', d.K_len h2, h2, fun i u hu => ?_⟩
   unfold World.cells? at h1
   split at h1
   ·
    have hi : i < P.cellsOf e := by
     rw [hs, ← d.K_len h2]
     exact (List.getElem?_eq_some_iff.1 hu).1
    have := mapM_some_get h1 i i (by rw [List.getElem?_range hi])
    rw [Addr.add_add, hs] at this
    rw [this]
    exact hu
   · cases h1
  ·
   intro x hx'
   obtain ⟨i, hi, rfl⟩ := List.getElem_of_mem hx'
   exact (hxs i _ (List.getElem?_eq_getElem hi)).1
theorem trod_fields {H : Type} {enc : TypeId × Value → H} {P : Program} {W : World} {base : Nat} {spare : Nat → Bool} {held : Bool} {fuel : Nat} {t : TypeId} {cs : List Value} {y : DataW H × List MemPlace} {fs : Array Field}
 (ht : P.underlying t = some (.struct fs)) (h : DataW.trod enc P W base spare held fuel t cs = some y) :
 cs.length = P.cellsOf t ∧ ∃ n, ∀ (i : Nat) (f : Field), fs[i]? = some f → ∃ z, DataW.trod enc P W base spare held n f.type ((cs.drop f.offset).take (P.cellsOf f.type)) = some z := by
 obtain ⟨xs, n, _, _, hl, hsz, hf⟩ := DataW.trod_struct ht h
 refine ⟨hl, n, fun i f hi => ?_⟩
 have h1 := hf i f hi
 have h2 : i < xs.length := by
  rw [hsz]
  exact (Array.getElem?_eq_some_iff.1 hi).1
 rw [List.getElem?_eq_getElem h2] at h1
 exact ⟨_, h1⟩

end

section
def okT108 (x : S108) : Prop := okI .i64 x.f0 ∧ okS x.f1 ∧ okS x.f2 ∧ okS x.f3
set_option maxRecDepth 100000 in
theorem opens108 : Opens Try.prog 108 k108 okT108 := by
 intro H enc W base spare held fuel cs y h
 obtain ⟨hl, fu, F⟩ := trod_fields Try.underlying108 h
 have hl' : cs.length = 4 := hl.trans (by kernel_rfl)
 obtain ⟨u0, u1, u2, u3, rfl⟩ : ∃ u0 u1 u2 u3, cs = [u0, u1, u2, u3] := by
  clear F h hl
  match cs, hl' with
  | [a0, a1, a2, a3], _ => exact ⟨a0, a1, a2, a3, rfl⟩
 obtain ⟨y0, z0⟩ := F 0 _ rfl
 obtain ⟨b0, e0, w0⟩ := Opens.int (k := .i64) Try.underlying2 H enc W base spare held fu _ _ z0
 obtain rfl : u0 = .int .i64 b0 := by have e := e0; exact (List.cons.inj (show [_] = [_] from e)).1
 obtain ⟨y1, z1⟩ := F 1 _ rfl
 obtain ⟨b1, e1, w1⟩ := Opens.string Try.underlying9 H enc W base spare held fu _ _ z1
 obtain rfl : u1 = .string b1 := by have e := e1; exact (List.cons.inj (show [_] = [_] from e)).1
 obtain ⟨y2, z2⟩ := F 2 _ rfl
 obtain ⟨b2, e2, w2⟩ := Opens.string Try.underlying9 H enc W base spare held fu _ _ z2
 obtain rfl : u2 = .string b2 := by have e := e2; exact (List.cons.inj (show [_] = [_] from e)).1
 obtain ⟨y3, z3⟩ := F 3 _ rfl
 obtain ⟨b3, e3, w3⟩ := Opens.string Try.underlying9 H enc W base spare held fu _ _ z3
 obtain rfl : u3 = .string b3 := by have e := e3; exact (List.cons.inj (show [_] = [_] from e)).1
 exact ⟨⟨b0, b1, b2, b3⟩, k108_mk W ⟨b0, b1, b2, b3⟩, w0, w1, w2, w3⟩

end

section
def okT106 (x : S106) : Prop := okS x.f0 ∧ okS x.f1
set_option maxRecDepth 100000 in
theorem opens106 : Opens Try.prog 106 k106 okT106 := by
 intro H enc W base spare held fuel cs y h
 obtain ⟨hl, fu, F⟩ := trod_fields Try.underlying106 h
 have hl' : cs.length = 2 := hl.trans (by kernel_rfl)
 obtain ⟨u0, u1, rfl⟩ : ∃ u0 u1, cs = [u0, u1] := by
  clear F h hl
  match cs, hl' with
  | [a0, a1], _ => exact ⟨a0, a1, rfl⟩
 obtain ⟨y0, z0⟩ := F 0 _ rfl
 obtain ⟨b0, e0, w0⟩ := Opens.string Try.underlying9 H enc W base spare held fu _ _ z0
 obtain rfl : u0 = .string b0 := by have e := e0; exact (List.cons.inj (show [_] = [_] from e)).1
 obtain ⟨y1, z1⟩ := F 1 _ rfl
 obtain ⟨b1, e1, w1⟩ := Opens.string Try.underlying9 H enc W base spare held fu _ _ z1
 obtain rfl : u1 = .string b1 := by have e := e1; exact (List.cons.inj (show [_] = [_] from e)).1
 exact ⟨⟨b0, b1⟩, k106_mk W ⟨b0, b1⟩, w0, w1⟩

end

section
theorem okF_sz {l : List S106} (o : okL okT106 l) : ∀ x ∈ l, x.f0.size ≤ 9223372036854775807 ∧ x.f1.size ≤ 9223372036854775807 := fun x hx => by
 have := o.2 x hx
 unfold okT106 okS maxLen at this
 exact this
theorem okO_sz {l : List S108} (o : okL okT108 l) : ∀ x ∈ l, x.f1.size ≤ 9223372036854775807 ∧ x.f2.size ≤ 9223372036854775807 ∧ x.f3.size ≤ 9223372036854775807 := fun x hx => by
 have := o.2 x hx
 unfold okT108 okS maxLen at this
 exact this.2
structure DiskSz (live safe : List S80) (ops : List S73) : Prop where
 n0 : live.length ≤ 1048576
 n1 : safe.length ≤ 1048576
 n2 : ops.length ≤ 1048576
 s0 : ∀ x ∈ live, x.f0.size ≤ 1048576 ∧ x.f1.size ≤ 1048576
 s1 : ∀ x ∈ safe, x.f0.size ≤ 1048576 ∧ x.f1.size ≤ 1048576
 s2 : ∀ x ∈ ops, x.f1.size ≤ 1048576 ∧ x.f2.size ≤ 1048576 ∧ x.f3.size ≤ 1048576
theorem laws_szDisk.sz (l0 l1 : List S106) (l2 : List S108) (a : Int) (h0 : 0 ≤ a) (h1 : a ≤ 1048576) (o0 : okL okT106 l0) (o1 : okL okT106 l1) (o2 : okL okT108 l2) :
 ∃ r, Ev (fun k => laws_szDisk.f k l0 l1 l2 a) r ∧ (r < 0 ∨ (0 ≤ r ∧ r ≤ a ∧ DiskSz (l0.map qbk) (l1.map qbk) (l2.map qdc))) := by
 unfold laws_szDisk.f
 obtain ⟨r, hr, h⟩ := laws_szFileS.sz l0 a h0 h1 o0.1 (okF_sz o0)
 rcases h with h | ⟨r0, r1, m0, z0⟩
 · exact ⟨-1, Ev.bind hr (Ev.pos h (Ev.ret _)), .inl (by omega)⟩
 obtain ⟨q, hq, h⟩ := laws_szFileS.sz l1 r r0 (by omega) o1.1 (okF_sz o1)
 rcases h with h | ⟨q0, q1, m1, z1⟩
 · exact ⟨-1, Ev.bind hr (Ev.neg (by omega) (Ev.bind hq (Ev.pos h (Ev.ret _)))), .inl (by omega)⟩
 obtain ⟨p, hp, h⟩ := laws_szDOpS.sz l2 q q0 (by omega) o2.1 (okO_sz o2)
 rcases h with h | ⟨p0, p1, m2, z2⟩
 · exact ⟨-1, Ev.bind hr (Ev.neg (by omega) (Ev.bind hq (Ev.neg (by omega) (Ev.bind hp (Ev.pos h (Ev.ret _)))))), .inl (by omega)⟩
 refine ⟨p, Ev.bind hr (Ev.neg (by omega) (Ev.bind hq (Ev.neg (by omega) (Ev.bind hp (Ev.neg (by omega) (Ev.ret _)))))), .inr ⟨p0, by omega, by simpa using m0, by simpa using m1, by simpa using m2, ?_, ?_, ?_⟩⟩
 ·
  intro x hx
  obtain ⟨y, hy, rfl⟩ := List.mem_map.1 hx
  exact z0 y hy
 ·
  intro x hx
  obtain ⟨y, hy, rfl⟩ := List.mem_map.1 hx
  exact z1 y hy
 ·
  intro x hx
  obtain ⟨y, hy, rfl⟩ := List.mem_map.1 hx
  exact z2 y hy
theorem laws_toDisk.ev (l0 l1 : List S106) (l2 : List S108) (h : DiskSz (l0.map qbk) (l1.map qbk) (l2.map qdc)) : Ev (fun k => laws_toDisk.f k l0 l1 l2) (l0.map qbk, l1.map qbk, l2.map qdc) := by
 unfold laws_toDisk.f
 have n0 := h.n0
 have n1 := h.n1
 have n2 := h.n2
 rw [List.length_map] at n0 n1 n2
 exact Ev.bind (laws_toFileS.ev l0 n0) (Ev.bind (laws_toFileS.ev l1 n1) (Ev.bind (laws_toDOpS.ev l2 n2) (Ev.ret _)))
theorem laws_eqDisk.refl (l0 l1 : List S80) (l2 : List S73) (h0 : l0.length ≤ 1099511627776) (h1 : l1.length ≤ 1099511627776) (h2 : l2.length ≤ 1099511627776) : Ev (fun k => laws_eqDisk.f k l0 l1 l2 l0 l1 l2) true := by
 unfold laws_eqDisk.f
 exact Ev.bind (laws_eqFileS.refl l0 h0) (Ev.pos rfl (Ev.bind (laws_eqFileS.refl l1 h1) (Ev.pos rfl (Ev.bind (laws_eqDOpS.refl l2 h2) (Ev.pos rfl (Ev.ret _))))))
theorem DiskSz.smallF0 {live safe : List S80} {ops : List S73} (h : DiskSz live safe ops) : smallF live := fun x hx => by have := (h.s0 x hx).2; omega
theorem DiskSz.smallF1 {live safe : List S80} {ops : List S73} (h : DiskSz live safe ops) : smallF safe := fun x hx => by have := (h.s1 x hx).2; omega
theorem DiskSz.smallO {live safe : List S80} {ops : List S73} (h : DiskSz live safe ops) : ∀ x ∈ ops, x.f3.size ≤ 1099511627776 := fun x hx => by have := (h.s2 x hx).2.2; omega

end

section
theorem laws_markText.l0_ok (d : Nat) : ∀ (n : Int) (s : ByteArray), n.toNat ≤ d → (s.size : Int) + n ≤ 4611686018427387904 → n ≤ 4611686018427387904 → s.size ≤ 4611686018427387904 → ∃ t, Ev (fun k => laws_markText.l0 k n s) t := by
 induction d with
 | zero =>
  intro n s hd hs hn hs2
  refine ⟨(⟨#[109]⟩ : ByteArray) ++ s, ?_⟩
  refine Ev.step (fun k => by rw [laws_markText.l0]) ?_
  refine Ev.neg (by omega) ?_
  exact Ev.pos (by omega) (Ev.ret _)
 | succ d ih =>
  intro n s hd hs hn hs2
  by_cases h : n > 0
  ·
   have e1 : Int.tdiv n 10 = n / 10 := Int.tdiv_eq_ediv_of_nonneg (by omega)
   have e2 : wrap64 (n / 10) = n / 10 := qba (by omega) (by omega)
   have hsz : (strOfNums [(wrap64 (48 + (Int.tmod n 10))) % 256] ++ s).size = 1 + s.size := by
    rw [ByteArray.size_append]
    rfl
   obtain ⟨t, ht⟩ := ih (n / 10) (strOfNums [(wrap64 (48 + (Int.tmod n 10))) % 256] ++ s) (by omega) (by rw [hsz]; omega) (by omega) (by rw [hsz]; omega)
   refine ⟨t, ?_⟩
   refine Ev.step (fun k => by rw [laws_markText.l0]) ?_
   refine Ev.pos h ?_
   refine Ev.bindS rfl ?_
   refine Ev.pos ?_ ?_
   ·
    show 1 + s.size ≤ _
    omega
   rw [e1, e2]
   exact ht
  ·
   refine ⟨(⟨#[109]⟩ : ByteArray) ++ s, ?_⟩
   refine Ev.step (fun k => by rw [laws_markText.l0]) ?_
   refine Ev.neg h ?_
   exact Ev.pos (by omega) (Ev.ret _)
theorem laws_markText.ok (n : Int) (hn : n ≤ 4611686018427387904) : ∃ t, Ev (fun k => laws_markText.f k n) t := by
 unfold laws_markText.f
 by_cases h : n ≤ 0
 · exact ⟨_, Ev.pos h (Ev.ret _)⟩
 ·
  obtain ⟨t, ht⟩ := laws_markText.l0_ok n.toNat n ⟨#[]⟩ (Nat.le_refl _) (by show ((0 : Nat) : Int) + n ≤ _; omega) hn (by show 0 ≤ _; omega)
  exact ⟨t, Ev.neg h ht⟩

end

section
def isM_DOp (q : Int) (x : S73) : Prop := x.f0 = q ∧ Ev (fun k => laws_markText.f k (q + 1)) x.f1 ∧ Ev (fun k => laws_markText.f k (q + 2)) x.f2 ∧ Ev (fun k => laws_markText.f k (q + 3)) x.f3
theorem qdy (l : List S73) (i : Nat) (v : S73) (h : i < l.length) : qae (l.set i v) (i : Int) = v := by
 unfold qae
 rw [Int.toNat_natCast, List.getD_eq_getElem?_getD, List.getElem?_eq_getElem (by rw [List.length_set]; exact h), List.getElem_set_self]
 rfl
theorem rdM_DOp_set_ne (l : List S73) (i j : Nat) (v : S73) (h : i ≠ j) : qae (l.set i v) (j : Int) = qae l (j : Int) := by
 unfold qae
 rw [Int.toNat_natCast, List.getD_eq_getElem?_getD, List.getD_eq_getElem?_getD, List.getElem?_set_ne h]
theorem laws_markDOpS.l0_ok (q : Int) (hq : 0 ≤ q) (hq2 : q ≤ 1099511627776) (d : Nat) : ∀ (i : Nat) (l : List S73), l.length - i = d → i ≤ l.length → l.length ≤ 1099511627776 → (∀ j : Nat, j < i → isM_DOp (q + 4 * (j : Int)) (qae l (j : Int))) →
 ∃ l' : List S73, Ev (fun k => laws_markDOpS.l0 k l (q + 4 * (i : Int)) i) (q + 4 * (l.length : Int), l') ∧ l'.length = l.length ∧ ∀ j : Nat, j < l'.length → isM_DOp (q + 4 * (j : Int)) (qae l' (j : Int)) := by
 induction d with
 | zero =>
  intro i l hd hi hl hm
  refine ⟨l, ?_, rfl, fun j hj => hm j (by omega)⟩
  refine Ev.step (fun k => by rw [laws_markDOpS.l0]) ?_
  refine Ev.neg (by omega) (Ev.ret' ?_)
  rw [show i = l.length by omega]
 | succ d ih =>
  intro i l hd hi hl hm
  have hlt : i < l.length := by omega
  have w0 : wrap64 (q + 4 * (i : Int) + 1) = q + 4 * (i : Int) + 1 := by rw [qba (by omega) (by omega)]
  have w1 : wrap64 (q + 4 * (i : Int) + 1 + 1) = q + 4 * (i : Int) + 2 := by rw [qba (by omega) (by omega)]; omega
  have w2 : wrap64 (q + 4 * (i : Int) + 2 + 1) = q + 4 * (i : Int) + 3 := by rw [qba (by omega) (by omega)]; omega
  have w3 : wrap64 (q + 4 * (i : Int) + 3 + 1) = q + 4 * (i : Int) + 4 := by rw [qba (by omega) (by omega)]; omega
  obtain ⟨t1, ht1⟩ := laws_markText.ok (q + 4 * (i : Int) + 1) (by omega)
  obtain ⟨t2, ht2⟩ := laws_markText.ok (q + 4 * (i : Int) + 2) (by omega)
  obtain ⟨t3, ht3⟩ := laws_markText.ok (q + 4 * (i : Int) + 3) (by omega)
  obtain ⟨l', h1, h2, h3⟩ := ih (i + 1) (l.set i (⟨q + 4 * (i : Int), t1, t2, t3⟩ : S73)) (by rw [List.length_set]; omega) (by rw [List.length_set]; omega) (by rw [List.length_set]; exact hl) (by
   intro j hj
   by_cases e : i = j
   ·
    subst e
    rw [qdy _ _ _ hlt]
    exact ⟨rfl, ht1, ht2, ht3⟩
   ·
    rw [rdM_DOp_set_ne _ _ _ _ e]
    exact hm j (by omega))
  rw [List.length_set] at h1 h2
  refine ⟨l', ?_, h2, h3⟩
  refine Ev.step (fun k => by rw [laws_markDOpS.l0]) ?_
  refine Ev.pos (by omega) ?_
  simp only [w0, w1, w2, w3, Int.toNat_natCast]
  refine Ev.pos (by omega) ?_
  refine Ev.bindS rfl ?_
  refine Ev.bind ht1 ?_
  refine Ev.bindS rfl ?_
  refine Ev.bind ht2 ?_
  refine Ev.bindS rfl ?_
  refine Ev.bind ht3 ?_
  simp only [qdy _ _ _ hlt, List.set_set]
  rw [show q + 4 * (i : Int) + 4 = q + 4 * ((i + 1 : Nat) : Int) by omega, show wrap64 ((i : Int) + 1) = ((i + 1 : Nat) : Int) from by rw [qba (by omega) (by omega)]; omega]
  exact h1
theorem laws_heldDOpS.l0_ok (q : Int) (hq : 0 ≤ q) (hq2 : q ≤ 1099511627776) (l : List S73) (hl : l.length ≤ 1099511627776) (hm : ∀ j : Nat, j < l.length → isM_DOp (q + 4 * (j : Int)) (qae l (j : Int))) (d : Nat) : ∀ i : Nat, l.length - i = d → i ≤ l.length →
 Ev (fun k => laws_heldDOpS.l0 k l (q + 4 * (i : Int)) i) (q + 4 * (l.length : Int)) := by
 induction d with
 | zero =>
  intro i hd hi
  refine Ev.step (fun k => by rw [laws_heldDOpS.l0]) ?_
  refine Ev.neg (by omega) (Ev.ret' ?_)
  rw [show i = l.length by omega]
 | succ d ih =>
  intro i hd hi
  have hlt : i < l.length := by omega
  have w0 : wrap64 (q + 4 * (i : Int) + 1) = q + 4 * (i : Int) + 1 := by rw [qba (by omega) (by omega)]
  have w1 : wrap64 (q + 4 * (i : Int) + 1 + 1) = q + 4 * (i : Int) + 2 := by rw [qba (by omega) (by omega)]; omega
  have w2 : wrap64 (q + 4 * (i : Int) + 2 + 1) = q + 4 * (i : Int) + 3 := by rw [qba (by omega) (by omega)]; omega
  have w3 : wrap64 (q + 4 * (i : Int) + 3 + 1) = q + 4 * (i : Int) + 4 := by rw [qba (by omega) (by omega)]; omega
  obtain ⟨m0, m1, m2, m3⟩ := hm i hlt
  refine Ev.step (fun k => by rw [laws_heldDOpS.l0]) ?_
  refine Ev.pos (by omega) ?_
  simp only [w0, w1, w2, w3]
  refine Ev.pos (by omega) ?_
  refine Ev.pos m0 ?_
  refine Ev.bind m1 ?_
  refine Ev.pos rfl ?_
  refine Ev.bind m2 ?_
  refine Ev.pos rfl ?_
  refine Ev.bind m3 ?_
  refine Ev.pos rfl ?_
  rw [show q + 4 * (i : Int) + 4 = q + 4 * ((i + 1 : Nat) : Int) by omega, show wrap64 ((i : Int) + 1) = ((i + 1 : Nat) : Int) from by rw [qba (by omega) (by omega)]; omega]
  exact ih (i + 1) (by omega) (by omega)
theorem DOpS_marked (q : Int) (hq : 0 ≤ q) (hq2 : q ≤ 1099511627776) (l : List S73) (hl : l.length ≤ 1099511627776) :
 ∃ l' : List S73, Ev (fun k => laws_markDOpS.f k l q) (q + 4 * (l.length : Int), l') ∧ l'.length = l.length ∧ Ev (fun k => laws_heldDOpS.f k l' q) (q + 4 * (l.length : Int)) := by
 obtain ⟨l', h1, h2, h3⟩ := laws_markDOpS.l0_ok q hq hq2 _ 0 l rfl (Nat.zero_le _) hl (fun j hj => by omega)
 have h4 := laws_heldDOpS.l0_ok q hq hq2 l' (by omega) h3 _ 0 rfl (Nat.zero_le _)
 rw [h2] at h4
 rw [show q + 4 * ((0 : Nat) : Int) = q by omega] at h1 h4
 exact ⟨l', h1, h2, h4⟩

end

section
def isM_File (q : Int) (x : S80) : Prop := Ev (fun k => laws_markText.f k (q)) x.f0 ∧ Ev (fun k => laws_markText.f k (q + 1)) x.f1
theorem qdv (l : List S80) (i : Nat) (v : S80) (h : i < l.length) : qai (l.set i v) (i : Int) = v := by
 unfold qai
 rw [Int.toNat_natCast, List.getD_eq_getElem?_getD, List.getElem?_eq_getElem (by rw [List.length_set]; exact h), List.getElem_set_self]
 rfl
theorem rdM_File_set_ne (l : List S80) (i j : Nat) (v : S80) (h : i ≠ j) : qai (l.set i v) (j : Int) = qai l (j : Int) := by
 unfold qai
 rw [Int.toNat_natCast, List.getD_eq_getElem?_getD, List.getD_eq_getElem?_getD, List.getElem?_set_ne h]
theorem laws_markFileS.l0_ok (q : Int) (hq : 0 ≤ q) (hq2 : q ≤ 1099511627776) (d : Nat) : ∀ (i : Nat) (l : List S80), l.length - i = d → i ≤ l.length → l.length ≤ 1099511627776 → (∀ j : Nat, j < i → isM_File (q + 2 * (j : Int)) (qai l (j : Int))) →
 ∃ l' : List S80, Ev (fun k => laws_markFileS.l0 k l (q + 2 * (i : Int)) i) (q + 2 * (l.length : Int), l') ∧ l'.length = l.length ∧ ∀ j : Nat, j < l'.length → isM_File (q + 2 * (j : Int)) (qai l' (j : Int)) := by
 induction d with
 | zero =>
  intro i l hd hi hl hm
  refine ⟨l, ?_, rfl, fun j hj => hm j (by omega)⟩
  refine Ev.step (fun k => by rw [laws_markFileS.l0]) ?_
  refine Ev.neg (by omega) (Ev.ret' ?_)
  rw [show i = l.length by omega]
 | succ d ih =>
  intro i l hd hi hl hm
  have hlt : i < l.length := by omega
  have w0 : wrap64 (q + 2 * (i : Int) + 1) = q + 2 * (i : Int) + 1 := by rw [qba (by omega) (by omega)]
  have w1 : wrap64 (q + 2 * (i : Int) + 1 + 1) = q + 2 * (i : Int) + 2 := by rw [qba (by omega) (by omega)]; omega
  obtain ⟨t0, ht0⟩ := laws_markText.ok (q + 2 * (i : Int)) (by omega)
  obtain ⟨t1, ht1⟩ := laws_markText.ok (q + 2 * (i : Int) + 1) (by omega)
  obtain ⟨l', h1, h2, h3⟩ := ih (i + 1) (l.set i (⟨t0, t1⟩ : S80)) (by rw [List.length_set]; omega) (by rw [List.length_set]; omega) (by rw [List.length_set]; exact hl) (by
   intro j hj
   by_cases e : i = j
   ·
    subst e
    rw [qdv _ _ _ hlt]
    exact ⟨ht0, ht1⟩
   ·
    rw [rdM_File_set_ne _ _ _ _ e]
    exact hm j (by omega))
  rw [List.length_set] at h1 h2
  refine ⟨l', ?_, h2, h3⟩
  refine Ev.step (fun k => by rw [laws_markFileS.l0]) ?_
  refine Ev.pos (by omega) ?_
  simp only [w0, w1, Int.toNat_natCast]
  refine Ev.bind ht0 ?_
  refine Ev.pos (by omega) ?_
  refine Ev.bindS rfl ?_
  refine Ev.bind ht1 ?_
  simp only [qdv _ _ _ hlt, List.set_set]
  rw [show q + 2 * (i : Int) + 2 = q + 2 * ((i + 1 : Nat) : Int) by omega, show wrap64 ((i : Int) + 1) = ((i + 1 : Nat) : Int) from by rw [qba (by omega) (by omega)]; omega]
  exact h1
theorem laws_heldFileS.l0_ok (q : Int) (hq : 0 ≤ q) (hq2 : q ≤ 1099511627776) (l : List S80) (hl : l.length ≤ 1099511627776) (hm : ∀ j : Nat, j < l.length → isM_File (q + 2 * (j : Int)) (qai l (j : Int))) (d : Nat) : ∀ i : Nat, l.length - i = d → i ≤ l.length →
 Ev (fun k => laws_heldFileS.l0 k l (q + 2 * (i : Int)) i) (q + 2 * (l.length : Int)) := by
 induction d with
 | zero =>
  intro i hd hi
  refine Ev.step (fun k => by rw [laws_heldFileS.l0]) ?_
  refine Ev.neg (by omega) (Ev.ret' ?_)
  rw [show i = l.length by omega]
 | succ d ih =>
  intro i hd hi
  have hlt : i < l.length := by omega
  have w0 : wrap64 (q + 2 * (i : Int) + 1) = q + 2 * (i : Int) + 1 := by rw [qba (by omega) (by omega)]
  have w1 : wrap64 (q + 2 * (i : Int) + 1 + 1) = q + 2 * (i : Int) + 2 := by rw [qba (by omega) (by omega)]; omega
  obtain ⟨m0, m1⟩ := hm i hlt
  refine Ev.step (fun k => by rw [laws_heldFileS.l0]) ?_
  refine Ev.pos (by omega) ?_
  simp only [w0, w1]
  refine Ev.pos (by omega) ?_
  refine Ev.bind m0 ?_
  refine Ev.pos rfl ?_
  refine Ev.bind m1 ?_
  refine Ev.pos rfl ?_
  rw [show q + 2 * (i : Int) + 2 = q + 2 * ((i + 1 : Nat) : Int) by omega, show wrap64 ((i : Int) + 1) = ((i + 1 : Nat) : Int) from by rw [qba (by omega) (by omega)]; omega]
  exact ih (i + 1) (by omega) (by omega)
theorem FileS_marked (q : Int) (hq : 0 ≤ q) (hq2 : q ≤ 1099511627776) (l : List S80) (hl : l.length ≤ 1099511627776) :
 ∃ l' : List S80, Ev (fun k => laws_markFileS.f k l q) (q + 2 * (l.length : Int), l') ∧ l'.length = l.length ∧ Ev (fun k => laws_heldFileS.f k l' q) (q + 2 * (l.length : Int)) := by
 obtain ⟨l', h1, h2, h3⟩ := laws_markFileS.l0_ok q hq hq2 _ 0 l rfl (Nat.zero_le _) hl (fun j hj => by omega)
 have h4 := laws_heldFileS.l0_ok q hq hq2 l' (by omega) h3 _ 0 rfl (Nat.zero_le _)
 rw [h2] at h4
 rw [show q + 2 * ((0 : Nat) : Int) = q by omega] at h1 h4
 exact ⟨l', h1, h2, h4⟩

end

section
theorem disk_marked (live safe : List S80) (ops : List S73) (h0 : live.length ≤ 68719476736) (h1 : safe.length ≤ 68719476736) (h2 : ops.length ≤ 68719476736) (q : Int) (hq : 0 ≤ q) (hq2 : q ≤ 1048576) :
 ∃ a b c r, Ev (fun k => laws_markDisk.f k live safe ops q) (r, a, b, c) ∧ Ev (fun k => laws_heldDisk.f k a b c q) r ∧ q ≤ r := by
 obtain ⟨a, a1, a2, a3⟩ := FileS_marked q hq (by omega) live (by omega)
 obtain ⟨b, b1, b2, b3⟩ := FileS_marked (q + 2 * (live.length : Int)) (by omega) (by omega) safe (by omega)
 obtain ⟨c, c1, c2, c3⟩ := DOpS_marked (q + 2 * (live.length : Int) + 2 * (safe.length : Int)) (by omega) (by omega) ops (by omega)
 refine ⟨a, b, c, q + 2 * (live.length : Int) + 2 * (safe.length : Int) + 4 * (ops.length : Int), ?_, ?_, ?_⟩
 ·
  unfold laws_markDisk.f
  exact Ev.bind a1 (Ev.bind b1 (Ev.bind c1 (Ev.ret _)))
 ·
  unfold laws_heldDisk.f
  exact Ev.bind a3 (Ev.neg (by omega) (Ev.bind b3 (Ev.neg (by omega) (Ev.bind c3 (Ev.neg (by omega) (Ev.ret _))))))
 · omega

end

section
theorem putS_true (n d : ByteArray) : ∀ l : List S80, putS n d true l = l.filter (fun x => !qau n x)
 | [] => rfl
 | x :: r => by
  rw [putS, List.filter_cons, Bool.true_or, putS_true n d r]
  cases qau n x <;> simp
theorem qcx (n : ByteArray) (x : S80) : qau n x = true ↔ x.f0 = n := by
 unfold qau
 rw [beq_iff_eq, bs_inj]
theorem nameCmp_neg (n : ByteArray) (x : S80) : qbe n x < 0 ↔ Op.bytesLess x.f0.toList n.toList = true := by
 unfold qbe
 rw [cmp_neg, qcq, qcq]
theorem nameCmp_zero (n : ByteArray) (x : S80) : qbe n x = 0 ↔ x.f0 = n := by
 unfold qbe
 rw [cmp_zero, ← qcq, ← qcq, bs_inj]
theorem cntLt_none {l : List S80} (n : ByteArray) (h : ∀ y ∈ l, Op.bytesLess y.f0.toList n.toList = false) : cntLt (qbe n) l = 0 := by
 unfold cntLt
 rw [List.countP_eq_zero]
 intro y hy
 have := h y hy
 simp only [decide_eq_true_eq, nameCmp_neg, this]
 simp
theorem filter_above {l : List S80} (n : ByteArray) (h : ∀ y ∈ l, Op.bytesLess n.toList y.f0.toList = true) : l.filter (fun x => !qau n x) = l := by
 rw [List.filter_eq_self]
 intro y hy
 have := h y hy
 rw [Bool.not_eq_true', Bool.eq_false_iff]
 intro he
 rw [qcx] at he
 rw [he, qdt] at this
 cases this
theorem qen (n d : ByteArray) : ∀ l : List S80, qci l → putS n d false l = putF l n d
 | [], _ => by
  unfold putF cntLt hitAt
  simp [putS]
 | x :: r, h => by
  have hr : qci r := (List.pairwise_cons.1 h).2
  have hx := (List.pairwise_cons.1 h).1
  rw [putS]
  cases hl : Op.bytesLess x.f0.toList n.toList with
  | true =>
   have hni : qau n x = false := by
    rw [Bool.eq_false_iff]
    intro he
    rw [qcx] at he
    rw [he, qdt] at hl
    cases hl
   have hc : cntLt (qbe n) (x :: r) = cntLt (qbe n) r + 1 := by
    unfold cntLt
    exact List.countP_cons_of_pos (p := fun y => decide (qbe n y < 0)) (decide_eq_true ((nameCmp_neg n x).2 hl))
   have hh : hitAt z80 (qbe n) (x :: r) = hitAt z80 (qbe n) r := by
    unfold hitAt
    rw [hc, List.getD_cons_succ, List.length_cons]
    congr 1
    exact decide_eq_decide.2 (by omega)
   rw [hni, show (false || !true) = false from rfl, qen n d r hr]
   unfold putF
   rw [hh, hc]
   cases hitAt z80 (qbe n) r <;> simp
  | false =>
   have hnone : ∀ y ∈ r, Op.bytesLess y.f0.toList n.toList = false := by
    intro y hy
    rw [Bool.eq_false_iff]
    intro hlt
    have := qdk (hx y hy) hlt
    rw [hl] at this
    cases this
   have hc : cntLt (qbe n) (x :: r) = 0 := cntLt_none n (fun y hy => by
    rcases List.mem_cons.1 hy with rfl | hy
    · exact hl
    · exact hnone y hy)
   have hh : hitAt z80 (qbe n) (x :: r) = qau n x := by
    unfold hitAt
    rw [hc, List.getD_cons_zero, decide_eq_true (by simp), Bool.true_and, Bool.eq_iff_iff, decide_eq_true_eq, nameCmp_zero, qcx]
   have hab : ∀ y ∈ r, Op.bytesLess n.toList y.f0.toList = true := by
    intro y hy
    rcases bless_tri x.f0.toList n.toList with h1 | h1 | h1
    · rw [hl] at h1; cases h1
    · rw [← h1]; exact hx y hy
    · exact qdk h1 (hx y hy)
   have hput : putS n d true r = r := by rw [putS_true, filter_above n hab]
   unfold putF
   rw [hh, hc]
   simp only [Bool.not_false, Bool.false_or, Bool.true_and, if_true, hput]
   cases qau n x <;> simp
theorem cut_filter (n : ByteArray) (l : List S80) (h : qci l) (h0 : 0 ≤ idxP (qau n) l) : l.filter (fun x => !qau n x) = l.take (idxP (qau n) l).toNat ++ l.drop ((idxP (qau n) l).toNat + 1) := by
 have hlt : (idxP (qau n) l).toNat < l.length := by
  have := idxP_lt (qau n) l
  omega
 have hat := idxP_at (qau n) z80 l h0
 generalize (idxP (qau n) l).toNat = i at *
 rw [List.getD_eq_getElem?_getD, List.getElem?_eq_getElem hlt] at hat
 change qau n l[i] = true at hat
 rw [qcx] at hat
 have e : l = l.take i ++ (l[i] :: l.drop (i + 1)) := by rw [← List.drop_eq_getElem_cons hlt, List.take_append_drop]
 have hp : qci (l.take i ++ (l[i] :: l.drop (i + 1))) := by rw [← e]; exact h
 obtain ⟨_, p2, p3⟩ := List.pairwise_append.1 hp
 have q := (List.pairwise_cons.1 p2).1
 conv => lhs; rw [e]
 rw [List.filter_append, List.filter_cons, show qau n l[i] = true from (qcx n _).2 hat]
 have e1 : (l.take i).filter (fun x => !qau n x) = l.take i := by
  rw [List.filter_eq_self]
  intro y hy
  have := p3 y hy l[i] List.mem_cons_self
  rw [Bool.not_eq_true', Bool.eq_false_iff]
  intro he
  rw [qcx] at he
  rw [he, hat, qdt] at this
  cases this
 have e2 : (l.drop (i + 1)).filter (fun x => !qau n x) = l.drop (i + 1) := filter_above n (fun y hy => by rw [← hat]; exact q y hy)
 rw [e1]
 simp only [Bool.not_true]
 rw [if_neg (by simp), e2]
def doS (l : List S80) (k : Int) (n t d : ByteArray) : List S80 × Bool :=
 if k = 1 then (putF l n (if 0 ≤ idxP (qau n) l then (qai l (idxP (qau n) l)).f1 ++ d else d), true)
 else if 0 ≤ idxP (qau n) l then
  if k = 2 then (putF (l.take (idxP (qau n) l).toNat ++ l.drop ((idxP (qau n) l).toNat + 1)) t (qai l (idxP (qau n) l)).f1, true)
  else (l.take (idxP (qau n) l).toNat ++ l.drop ((idxP (qau n) l).toNat + 1), true)
 else (l, false)
theorem doS_onF (l : List S80) (k : Int) (n t d : ByteArray) (h : formB k n t d = true) : doS l k n t d = onF l k n t d := by
 have hk : k = 1 ∨ k = 2 ∨ k = 3 := by
  unfold formB at h
  by_cases h1 : k = 1
  · exact .inl h1
  ·
   by_cases h2 : k = 2
   · exact .inr (.inl h2)
   ·
    by_cases h3 : k = 3
    · exact .inr (.inr h3)
    ·
     rw [if_neg h1, if_neg h2, if_neg h3] at h
     cases h
 unfold doS onF
 rcases hk with rfl | rfl | rfl <;> simp
theorem doS_ok (l : List S80) (k : Int) (n t d : ByteArray) : (doS l k n t d).2 = (onF l k n t d).2 := by
 unfold doS onF
 by_cases h1 : k = 1
 · simp [h1]
 ·
  by_cases h : 0 ≤ idxP (qau n) l
  · by_cases h2 : k = 2 <;> by_cases h3 : k = 3 <;> simp [h1, h, h2, h3]
  · simp [h1, h]
theorem spec_l4Do.ev (l : List S80) (k : Int) (n t d : ByteArray) (hr : qci l) (hl : l.length ≤ 1099511627775) (hs : ∀ x ∈ l, x.f1.size ≤ 1099512000000) (hd : d.size ≤ 1099511627776) : Ev (fun q => spec_l4Do.f q l k n t d) (doS l k n t d) := by
 unfold spec_l4Do.f
 refine Ev.bind (spec_l4At.ev l n (by omega)) ?_
 unfold doS
 have hlt := idxP_lt (qau n) l
 by_cases h1 : k = 1
 ·
  rw [if_pos h1]
  refine Ev.pos h1 ?_
  by_cases h0 : 0 ≤ idxP (qau n) l
  ·
   rw [if_pos h0]
   have hsz := hs _ (qdw z80 l _ h0 hlt)
   change (qai l (idxP (qau n) l)).f1.size ≤ _ at hsz
   refine Ev.pos h0 (Ev.pos h0 (Ev.pos hlt (Ev.pos (by omega) (Ev.bind (spec_l4Put.ev l n _ (by omega)) (Ev.ret' ?_)))))
   rw [qen n _ l hr]
  ·
   rw [if_neg h0]
   refine Ev.neg h0 (Ev.bind (spec_l4Put.ev l n _ (by omega)) (Ev.ret' ?_))
   rw [qen n _ l hr]
 ·
  rw [if_neg h1]
  refine Ev.neg h1 ?_
  by_cases h0 : 0 ≤ idxP (qau n) l
  ·
   rw [if_pos h0]
   refine Ev.neg (by omega) (Ev.bind (spec_l4Cut.ev l n (by omega)) ?_)
   rw [cut_filter n l hr h0]
   by_cases h2 : k = 2
   ·
    rw [if_pos h2]
    refine Ev.pos h2 (Ev.pos h0 (Ev.pos hlt (Ev.bind (spec_l4Put.ev _ t _ ?_) (Ev.ret' ?_))))
    · rw [List.length_append, List.length_take, List.length_drop]; omega
    · rw [qen t _ _ (risesF_cut hr _)]
   ·
    rw [if_neg h2]
    exact Ev.neg h2 (Ev.ret _)
  ·
   rw [if_neg h0]
   refine Ev.pos (by omega) (Ev.bindS rfl (Ev.pos (by simp; omega) (Ev.ret' ?_)))
   rw [List.nil_append]
theorem doS_small {now : List S80} (hn : ∀ x ∈ now, x.f1.size ≤ 200000) (k : Int) (n t d : ByteArray) (hf : formB k n t d = true) (hd : d.size ≤ 1099511627776) (ho : (doS now k n t d).2 = true) : ∀ x ∈ (doS now k n t d).1, x.f1.size ≤ 1099512000000 := by
 rw [doS_onF now k n t d hf] at ho ⊢
 exact qem hn k n t d hd ho
theorem spec_DiskOk.l0_ev (live : List S80) (safe : List S80) (ops : List S73) (ho : ∀ x ∈ ops, x.f3.size ≤ 1099511627776) (hl : ops.length ≤ 200) (d : Nat) : ∀ (i : Nat) (now : List S80), ops.length - i = d → i ≤ ops.length → qbh now = true →
 Ev (fun k => spec_DiskOk.l0 k now i live safe ops) (runB live now (ops.drop i)) := by
 induction d with
 | zero =>
  intro i now hd hi hf
  obtain ⟨_, h60, _⟩ := qbn hf
  refine Ev.step (fun k => by rw [spec_DiskOk.l0]) ?_
  refine Ev.neg (by omega) (Ev.bind (spec_l4Same.ev now live (by omega)) (Ev.ret' ?_))
  rw [List.drop_of_length_le (by omega), runB]
 | succ d ih =>
  intro i now hd hi hf
  obtain ⟨hris, h60, hsz⟩ := qbn hf
  have h1 : i < ops.length := by omega
  refine Ev.step (fun k => by rw [spec_DiskOk.l0]) ?_
  refine Ev.pos (by omega) (Ev.pos (by omega) ?_)
  rw [rdO_nat ops i h1, List.drop_eq_getElem_cons h1, runB]
  have hop := ho _ (List.getElem_mem h1)
  generalize ops[i] = op at *
  refine Ev.bind (spec_l4Do.ev now op.f0 op.f1 op.f2 op.f3 hris (by omega) (fun x hx => by have := hsz x hx; omega) hop) ?_
  cases hok : (onF now op.f0 op.f1 op.f2 op.f3).2 with
  | false =>
   rw [← doS_ok] at hok
   refine Ev.neg (by rw [hok]; simp) (Ev.ret' ?_)
   simp
  | true =>
   have hok' := hok
   rw [← doS_ok] at hok'
   refine Ev.pos hok' (Ev.bind (spec_l4Form.ev _ _ _ _) ?_)
   cases hfm : formB op.f0 op.f1 op.f2 op.f3 with
   | false => exact Ev.neg (by simp) (Ev.ret' (by simp))
   | true =>
    refine Ev.pos rfl (Ev.bind (spec_l4Files.ev' _ (doS_small hsz _ _ _ _ hfm hop hok')) ?_)
    rw [doS_onF now _ _ _ _ hfm]
    cases hfn : qbh (onF now op.f0 op.f1 op.f2 op.f3).1 with
    | false => exact Ev.neg (by simp) (Ev.ret' (by simp))
    | true =>
     refine Ev.pos rfl ?_
     rw [show wrap64 ((i : Int) + 1) = ((i + 1 : Nat) : Int) by rw [qba (by omega) (by omega)]; omega]
     exact Ev.eq (ih (i + 1) _ (by omega) (by omega) hfn) (by simp)
theorem spec_DiskOk.ev (live safe : List S80) (ops : List S73) (h0 : smallF live) (h1 : smallF safe) (ho : ∀ x ∈ ops, x.f3.size ≤ 1099511627776) : Ev (fun k => spec_DiskOk.f k live safe ops) (diskB live safe ops) := by
 unfold spec_DiskOk.f diskB
 refine Ev.bind (spec_l4Files.ev' live (fun x hx => by have := h0 x hx; omega)) ?_
 have hj : Ev (fun k => spec_DiskOk.j0 k true live safe ops) false := Ev.step (fun k => by rw [spec_DiskOk.j0]) (Ev.pos rfl (Ev.ret _))
 cases hf0 : qbh live with
 | false => exact Ev.neg (by simp) (Ev.eq hj (by simp))
 | true =>
  refine Ev.pos rfl (Ev.bind (spec_l4Files.ev' safe (fun x hx => by have := h1 x hx; omega)) ?_)
  cases hf1 : qbh safe with
  | false => exact Ev.neg (by simp) (Ev.eq hj (by simp))
  | true =>
   refine Ev.pos rfl ?_
   by_cases hl : (ops.length : Int) > 200
   ·
    rw [decide_eq_true hl]
    exact Ev.eq hj (by rw [decide_eq_false (by omega : ¬ ops.length ≤ 200)]; simp)
   ·
    rw [decide_eq_false hl]
    refine Ev.step (fun k => by rw [spec_DiskOk.j0]) (Ev.neg (by simp) ?_)
    exact Ev.eq (spec_DiskOk.l0_ev live safe ops ho (by omega) _ 0 safe rfl (Nat.zero_le _) hf1) (by rw [decide_eq_true (by omega : ops.length ≤ 200)]; simp)
theorem impl_isDisk.eq (live safe : List S80) (ops : List S73) (h0 : smallF live) (h1 : smallF safe) (ho : ∀ x ∈ ops, x.f3.size ≤ 1099511627776) : impl_isDisk.f live safe ops = some (diskB live safe ops) := by
 unfold impl_isDisk.f
 rw [if_pos]
 rw [(qdl live).2 h0, (qdl safe).2 h1, Bool.true_and, Bool.true_and]
 unfold smallOB
 rw [List.all_eq_true]
 exact fun x hx => decide_eq_true (ho x hx)

end

section
def actB (live safe : List S80) (ops : List S73) (k : Int) (n t d : ByteArray) : List S80 × List S80 × List S73 × Int :=
 if formB k n t d = true then
  if (onF live k n t d).2 = true then
   if ops.length = 200 then (live, safe, ops, 4)
   else if qbh (onF live k n t d).1 = true then ((onF live k n t d).1, safe, ops ++ [⟨k, n, t, d⟩], 0)
   else (live, safe, ops, 4)
  else (live, safe, ops, 3)
 else (live, safe, ops, 2)
theorem actB_ok (live safe : List S80) (ops : List S73) (k : Int) (n t d : ByteArray) (h : (actB live safe ops k n t d).2.2.2 = 0) : qbh (actB live safe ops k n t d).1 = true ∧ (actB live safe ops k n t d).2.1 = safe ∧ (actB live safe ops k n t d).2.2.1.length ≤ ops.length + 1 := by
 unfold actB at h ⊢
 by_cases h1 : formB k n t d = true
 ·
  rw [if_pos h1] at h ⊢
  by_cases h2 : (onF live k n t d).2 = true
  ·
   rw [if_pos h2] at h ⊢
   by_cases h3 : ops.length = 200
   ·
    rw [if_pos h3] at h
    simp at h
   ·
    rw [if_neg h3] at h ⊢
    by_cases h4 : qbh (onF live k n t d).1 = true
    ·
     rw [if_pos h4]
     exact ⟨h4, rfl, by simp⟩
    ·
     rw [if_neg h4] at h
     simp at h
  ·
   rw [if_neg h2] at h
   simp at h
 ·
  rw [if_neg h1] at h
  simp at h
theorem l4Copy_eq (live safe : List S80) (ops : List S73) (h0 : live.length ≤ 1099511627776) (h1 : safe.length ≤ 1099511627776) (h2 : ops.length ≤ 1099511627776) : spec_l4Copy.f live safe ops = some (live, safe, ops) := by
 unfold spec_l4Copy.f
 rw [Option.bind_some, if_pos (by simp; omega), Option.bind_some, if_pos (by simp; omega), Option.bind_some, if_pos (by simp; omega)]
 simp
theorem qec (live safe : List S80) (ops : List S73) (h0 : live.length ≤ 1099511627776) (h1 : safe.length ≤ 1099511627776) (h2 : ops.length ≤ 1099511627776) : impl_copyDisk.f live safe ops = some (live, safe, ops) := by
 unfold impl_copyDisk.f
 rw [qcr live (by omega), Option.bind_some, qcr safe (by omega), Option.bind_some, Option.bind_some, if_pos (by simp; omega)]
 simp
theorem onF_len (live : List S80) (k : Int) (n t d : ByteArray) : (onF live k n t d).1.length ≤ live.length + 1 := by
 have hp : ∀ (l : List S80) (m e : ByteArray), (putF l m e).length ≤ l.length + 1 := fun l m e => by
  unfold putF
  split
  · simp
  ·
   simp [List.length_take, List.length_drop]
   omega
 unfold onF
 split
 · exact hp _ _ _
 ·
  split
  ·
   split
   ·
    simp only [List.length_append, List.length_take, List.length_drop]
    omega
   ·
    refine Nat.le_trans (hp _ _ _) ?_
    simp only [List.length_append, List.length_take, List.length_drop]
    omega
  · simp
theorem spec_l4Act.ev (live safe : List S80) (ops : List S73) (k : Int) (n t d : ByteArray) (hl : qbh live = true) (h1 : safe.length ≤ 1099511627776) (h2 : ops.length ≤ 1099511627776) (hd : d.size ≤ 1099511627776) :
 Ev (fun q => spec_l4Act.f q live safe ops k n t d) (actB live safe ops k n t d) := by
 obtain ⟨hris, hl60, hsz⟩ := qbn hl
 have hcp := l4Copy_eq live safe ops (by omega) h1 h2
 unfold spec_l4Act.f actB
 refine Ev.bind (spec_l4Form.ev k n t d) ?_
 by_cases hf : formB k n t d = true
 ·
  rw [if_pos hf]
  refine Ev.pos hf ?_
  have hdo := spec_l4Do.ev live k n t d hris (by omega) (fun x hx => by have := hsz x hx; omega) hd
  rw [doS_onF live k n t d hf] at hdo
  refine Ev.bind hdo ?_
  by_cases ho : (onF live k n t d).2 = true
  ·
   rw [if_pos ho]
   refine Ev.pos ho ?_
   have j0t : Ev (fun q => spec_l4Act.j0 q (onF live k n t d).1 true live safe ops k n t d) (live, safe, ops, 4) := Ev.step (fun k => by rw [spec_l4Act.j0]) (Ev.pos rfl (Ev.bindS hcp (Ev.ret _)))
   by_cases h200 : ops.length = 200
   ·
    rw [if_pos h200]
    exact Ev.pos (by omega) j0t
   ·
    rw [if_neg h200]
    refine Ev.neg (by omega) (Ev.bind (spec_l4Files.ev' _ (qem hsz k n t d hd ho)) ?_)
    cases hfb : qbh (onF live k n t d).1 with
    | true =>
     rw [if_pos rfl]
     exact Ev.step (fun k => by rw [spec_l4Act.j0]) (Ev.neg (by simp) (Ev.bindS hcp (Ev.pos (by show ops.length < 2513169434916; omega) (Ev.ret _))))
    | false =>
     rw [if_neg (by simp)]
     exact j0t
  ·
   rw [if_neg ho]
   exact Ev.neg ho (Ev.bindS hcp (Ev.ret _))
 ·
  rw [if_neg hf]
  exact Ev.neg hf (Ev.bindS hcp (Ev.ret _))
theorem on_eq (live : List S80) (k : Int) (n t d : ByteArray) (hl : qbh live = true) (hd : d.size ≤ 1099511627776) : impl_DOp_on.f k n t d live = some (onF live k n t d) := by
 obtain ⟨hris, hl60, hsz⟩ := qbn hl
 unfold impl_DOp_on.f
 rw [if_pos ⟨by omega, hris, List.all_eq_true.2 (fun x hx => decide_eq_true (by have := hsz x hx; omega)), by omega⟩]
theorem impl_doRight.ev (live safe : List S80) (ops : List S73) (k : Int) (n t d : ByteArray) (hl : qbh live = true) (h1 : safe.length ≤ 1099511627776) (h2 : ops.length ≤ 1099511627776) (hd : d.size ≤ 1099511627776) :
 Ev (fun q => impl_doRight.f q live safe ops k n t d) (actB live safe ops k n t d) := by
 obtain ⟨hris, hl60, hsz⟩ := qbn hl
 have hcp := qec live safe ops (by omega) h1 h2
 have hol := onF_len live k n t d
 unfold impl_doRight.f actB
 refine Ev.bindS (impl_DOp_isFormed.eq k n t d) ?_
 by_cases hf : formB k n t d = true
 ·
  rw [if_pos hf]
  refine Ev.pos hf (Ev.bindS (on_eq live k n t d hl hd) ?_)
  by_cases ho : (onF live k n t d).2 = true
  ·
   rw [if_pos ho]
   refine Ev.pos ho ?_
   have j0t : Ev (fun q => impl_doRight.j0 q (onF live k n t d).1 true live safe ops k n t d) (live, safe, ops, 4) := Ev.step (fun k => by rw [impl_doRight.j0]) (Ev.pos rfl (Ev.bindS hcp (Ev.ret _)))
   by_cases h200 : ops.length = 200
   ·
    rw [if_pos h200]
    exact Ev.pos (by omega) j0t
   ·
    rw [if_neg h200]
    refine Ev.neg (by omega) (Ev.bind (impl_areFiles.ev' _ (qem hsz k n t d hd ho) (by omega)) ?_)
    cases hfb : qbh (onF live k n t d).1 with
    | true =>
     rw [if_pos rfl]
     exact Ev.step (fun k => by rw [impl_doRight.j0]) (Ev.neg (by simp) (Ev.bindS hcp (Ev.bindS (qcr (onF live k n t d).1 (by omega)) (Ev.pos (by show ops.length < 2513169434916; omega) (Ev.ret _)))))
    | false =>
     rw [if_neg (by simp)]
     exact j0t
  ·
   rw [if_neg ho]
   exact Ev.neg ho (Ev.bindS hcp (Ev.ret _))
 ·
  rw [if_neg hf]
  exact Ev.neg hf (Ev.bindS hcp (Ev.ret _))

end

end Go.Proofs.Ytfjoamlgbegpgaa.Q
