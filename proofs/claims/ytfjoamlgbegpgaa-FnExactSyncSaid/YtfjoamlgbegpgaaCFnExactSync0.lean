/- Part 0 of what the row of FnExactSync needs: functions of the program as plain Lean functions, their contracts, and lemmas; made by a program of this session out of its texts. -/
import Derived.Test.YtfjoamlgbegpgaaVFnExactSync0
import Derived.Test.YtfjoamlgbegpgaaProg
import Derived.Below
import Derived.Deep.Draws
import Derived.Deep.AppendLies
import Derived.Maps.AppendAt
import Derived.OwnWalk
import Derived.Laws.BytesArg
import Derived.Laws.MakeOwn
import Derived.Laws.OwnMore
import Derived.Deep.OwnRows
import Derived.Tactics
import Derived.Lib.ConvBytes
import Derived.Laws.Slices
import Derived.WalkKit
import Derived.KernelRfl
import Derived.RowKit3
import Derived.Deep.LoopGhost
import Derived.Deep.QuietTactic
import Derived.BigQuiet
import Derived.WideLaws
import Derived.Deep.DeepCutAuto
import Derived.Deep.CutBlock
import Derived.Deep.RegionHeld3
import Derived.Laws.Rows
import Derived.Lib.AppendStr
import Derived.ArgAppend
import Derived.Laws.IdiomCopy
import Derived.OrdersHeld
import Derived.Laws.BitsLemmas
import Derived.RowKit
import Derived.Shelf.Abstract
import Derived.Shelf.Spec.SlicesInsert
import Derived.Lib.AppendZerosOnto
import Derived.Lib.Overlaps
import Derived.Laws.CopyRow
import Derived.Laws.NewBlocks
import Derived.Lib.Bytealg
import Derived.Lib.Strings
import Derived.Shelf.Small.Strs
import Derived.Shelf.Bin.LEUint32
import Derived.Shelf.Bin.ReadersZ
import Derived.Deep.RegionLaw
import Derived.Deep.RegionWith
namespace Go.Proofs.Ytfjoamlgbegpgaa.Q
open Go.RowKit Go.Proofs.YtfjoamlgbegpgaaW.PrintWords Go.Proofs.YtfjoamlgbegpgaaW.PrintLast Go.Proofs.YtfjoamlgbegpgaaW.PrintMore
attribute [local go_sem] max2_int min2_int max_two min_two max_three min_three max_four min_four   -- for this text's walks alone
set_option linter.unusedVariables false
set_option linter.unusedSimpArgs false
section
def errW : Option Int → Value
 | none => .nilIface
 | some c => .iface 0 (.int .i64 c)
theorem qal : errW none = .nilIface := rfl
theorem qam (c : Int) : errW (some c) = .iface 0 (.int .i64 c) := rfl
theorem info73 : (Try.prog.info? 73).map (fun i => (i.zero, i.size, i.bytes)) = some (some (.agg #[(.int .i64 0), (.string ⟨#[]⟩), (.string ⟨#[]⟩), (.string ⟨#[]⟩)]), 4, 56) := by kernel_rfl
theorem qcl : (Try.prog.info? 80).map (fun i => (i.zero, i.size, i.bytes)) = some (some (.agg #[(.string ⟨#[]⟩), (.string ⟨#[]⟩)]), 2, 32) := by kernel_rfl
structure S106 where
 f0 : ByteArray
 f1 : ByteArray
def z106 : S106 := ⟨(⟨#[]⟩ : ByteArray), (⟨#[]⟩ : ByteArray)⟩
def k106 : Kd S106 := Kd.iso (Kd.pair Kd.string Kd.string) (fun x : S106 => (x.f0, x.f1))
theorem k106_open {w : World} {x : S106} {cs : List Value} (h : k106.K w x cs) : cs = [.string x.f0, .string x.f1] := by
 obtain ⟨_, _, rfl, rfl, rfl⟩ := h
 exact rfl
theorem k106_mk (w : World) (x : S106)  : k106.K w x [.string x.f0, .string x.f1] := ⟨[.string x.f0], [.string x.f1], rfl, rfl, rfl⟩
def qbn (xs : List S106) (i : Int) : S106 := xs.getD i.toNat z106
theorem at_T106 {w : World} {A : Option Addr} {n : Nat} {xs : List S106} (h : Kd.C k106 w A n xs) (i : Int) (h0 : 0 ≤ i) (h1 : i < n) : ∃ ad , A = some ad ∧ w.cell? (ad.add (i.toNat * 2)) = some (.string (qbn xs i).f0) ∧ w.cell? ⟨(ad.add (i.toNat * 2)).block, (ad.add (i.toNat * 2)).off + 1, none⟩ = some (.string (qbn xs i).f1) := by
 obtain ⟨ad, c, e, _, hK, hc0⟩ := Kd.C_get h z106 i h0 h1
 have hc : ∀ j u, c[j]? = some u → w.cell? (ad.add (i.toNat * 2 + j)) = some u := hc0
 obtain rfl := k106_open hK
 exact ⟨ad, e, hc 0 _ rfl, by rw [← qck _ _ 1 (by omega)]; exact hc 1 _ rfl⟩
structure S108 where
 f0 : Int
 f1 : ByteArray
 f2 : ByteArray
 f3 : ByteArray
def z108 : S108 := ⟨(0 : Int), (⟨#[]⟩ : ByteArray), (⟨#[]⟩ : ByteArray), (⟨#[]⟩ : ByteArray)⟩
def k108 : Kd S108 := Kd.iso (Kd.pair (Kd.int .i64) (Kd.pair Kd.string (Kd.pair Kd.string Kd.string))) (fun x : S108 => (x.f0, x.f1, x.f2, x.f3))
theorem k108_open {w : World} {x : S108} {cs : List Value} (h : k108.K w x cs) : cs = [.int .i64 x.f0, .string x.f1, .string x.f2, .string x.f3] := by
 obtain ⟨_, _, rfl, rfl, ⟨_, _, rfl, rfl, ⟨_, _, rfl, rfl, rfl⟩⟩⟩ := h
 exact rfl
theorem k108_mk (w : World) (x : S108)  : k108.K w x [.int .i64 x.f0, .string x.f1, .string x.f2, .string x.f3] := ⟨[.int .i64 x.f0], [.string x.f1, .string x.f2, .string x.f3], rfl, rfl, ⟨[.string x.f1], [.string x.f2, .string x.f3], rfl, rfl, ⟨[.string x.f2], [.string x.f3], rfl, rfl, rfl⟩⟩⟩
def qbe (xs : List S108) (i : Int) : S108 := xs.getD i.toNat z108
theorem at_T108 {w : World} {A : Option Addr} {n : Nat} {xs : List S108} (h : Kd.C k108 w A n xs) (i : Int) (h0 : 0 ≤ i) (h1 : i < n) : ∃ ad , A = some ad ∧ w.cell? (ad.add (i.toNat * 4)) = some (.int .i64 (qbe xs i).f0) ∧ w.cell? ⟨(ad.add (i.toNat * 4)).block, (ad.add (i.toNat * 4)).off + 1, none⟩ = some (.string (qbe xs i).f1) ∧ w.cell? ⟨(ad.add (i.toNat * 4)).block, (ad.add (i.toNat * 4)).off + 2, none⟩ = some (.string (qbe xs i).f2) ∧ w.cell? ⟨(ad.add (i.toNat * 4)).block, (ad.add (i.toNat * 4)).off + 3, none⟩ = some (.string (qbe xs i).f3) := by
 obtain ⟨ad, c, e, _, hK, hc0⟩ := Kd.C_get h z108 i h0 h1
 have hc : ∀ j u, c[j]? = some u → w.cell? (ad.add (i.toNat * 4 + j)) = some u := hc0
 obtain rfl := k108_open hK
 exact ⟨ad, e, hc 0 _ rfl, by rw [← qck _ _ 1 (by omega)]; exact hc 1 _ rfl, by rw [← qck _ _ 2 (by omega)]; exact hc 2 _ rfl, by rw [← qck _ _ 3 (by omega)]; exact hc 3 _ rfl⟩
structure S80 where
 f0 : ByteArray
 f1 : ByteArray
def z80 : S80 := ⟨(⟨#[]⟩ : ByteArray), (⟨#[]⟩ : ByteArray)⟩
def k80 : Kd S80 := Kd.iso (Kd.pair Kd.string Kd.string) (fun x : S80 => (x.f0, x.f1))
theorem k80_heap : Kd.Heap k80 := Kd.heap_iso _ (Kd.heap_pair Kd.heap_string Kd.heap_string)
theorem k80_open {w : World} {x : S80} {cs : List Value} (h : k80.K w x cs) : cs = [.string x.f0, .string x.f1] := by
 obtain ⟨_, _, rfl, rfl, rfl⟩ := h
 exact rfl
theorem qcm {w : World} {base : Nat} {ok : Nat → Prop} {x : S80} {cs : List Value} (h : k80.M w base ok x cs) : cs = [.string x.f0, .string x.f1] := by
 obtain ⟨_, _, rfl, rfl, rfl⟩ := h
 exact rfl
theorem qcp (w : World) (base : Nat) (ok : Nat → Prop) (x : S80)  : k80.M w base ok x [.string x.f0, .string x.f1] := ⟨[.string x.f0], [.string x.f1], rfl, rfl, rfl⟩
def qan (xs : List S80) (i : Int) : S80 := xs.getD i.toNat z80
theorem qba {w : World} {A : Option Addr} {n : Nat} {xs : List S80} (h : Kd.C k80 w A n xs) (i : Int) (h0 : 0 ≤ i) (h1 : i < n) : ∃ ad , A = some ad ∧ w.cell? (ad.add (i.toNat * 2)) = some (.string (qan xs i).f0) ∧ w.cell? ⟨(ad.add (i.toNat * 2)).block, (ad.add (i.toNat * 2)).off + 1, none⟩ = some (.string (qan xs i).f1) := by
 obtain ⟨ad, c, e, _, hK, hc0⟩ := Kd.C_get h z80 i h0 h1
 have hc : ∀ j u, c[j]? = some u → w.cell? (ad.add (i.toNat * 2 + j)) = some u := hc0
 obtain rfl := k80_open hK
 exact ⟨ad, e, hc 0 _ rfl, by rw [← qck _ _ 1 (by omega)]; exact hc 1 _ rfl⟩
structure S73 where
 f0 : Int
 f1 : ByteArray
 f2 : ByteArray
 f3 : ByteArray
def z73 : S73 := ⟨(0 : Int), (⟨#[]⟩ : ByteArray), (⟨#[]⟩ : ByteArray), (⟨#[]⟩ : ByteArray)⟩
def k73 : Kd S73 := Kd.iso (Kd.pair (Kd.int .i64) (Kd.pair Kd.string (Kd.pair Kd.string Kd.string))) (fun x : S73 => (x.f0, x.f1, x.f2, x.f3))
theorem k73_open {w : World} {x : S73} {cs : List Value} (h : k73.K w x cs) : cs = [.int .i64 x.f0, .string x.f1, .string x.f2, .string x.f3] := by
 obtain ⟨_, _, rfl, rfl, ⟨_, _, rfl, rfl, ⟨_, _, rfl, rfl, rfl⟩⟩⟩ := h
 exact rfl
theorem qbx {w : World} {base : Nat} {ok : Nat → Prop} {x : S73} {cs : List Value} (h : k73.M w base ok x cs) : cs = [.int .i64 x.f0, .string x.f1, .string x.f2, .string x.f3] := by
 obtain ⟨_, _, rfl, rfl, ⟨_, _, rfl, rfl, ⟨_, _, rfl, rfl, rfl⟩⟩⟩ := h
 exact rfl
theorem qef (w : World) (base : Nat) (ok : Nat → Prop) (x : S73)  : k73.M w base ok x [.int .i64 x.f0, .string x.f1, .string x.f2, .string x.f3] := ⟨[.int .i64 x.f0], [.string x.f1, .string x.f2, .string x.f3], rfl, rfl, ⟨[.string x.f1], [.string x.f2, .string x.f3], rfl, rfl, ⟨[.string x.f2], [.string x.f3], rfl, rfl, rfl⟩⟩⟩
def qap (xs : List S73) (i : Int) : S73 := xs.getD i.toNat z73
theorem qbp {w : World} {A : Option Addr} {n : Nat} {xs : List S73} (h : Kd.C k73 w A n xs) (i : Int) (h0 : 0 ≤ i) (h1 : i < n) : ∃ ad , A = some ad ∧ w.cell? (ad.add (i.toNat * 4)) = some (.int .i64 (qap xs i).f0) ∧ w.cell? ⟨(ad.add (i.toNat * 4)).block, (ad.add (i.toNat * 4)).off + 1, none⟩ = some (.string (qap xs i).f1) ∧ w.cell? ⟨(ad.add (i.toNat * 4)).block, (ad.add (i.toNat * 4)).off + 2, none⟩ = some (.string (qap xs i).f2) ∧ w.cell? ⟨(ad.add (i.toNat * 4)).block, (ad.add (i.toNat * 4)).off + 3, none⟩ = some (.string (qap xs i).f3) := by
 obtain ⟨ad, c, e, _, hK, hc0⟩ := Kd.C_get h z73 i h0 h1
 have hc : ∀ j u, c[j]? = some u → w.cell? (ad.add (i.toNat * 4 + j)) = some u := hc0
 obtain rfl := k73_open hK
 exact ⟨ad, e, hc 0 _ rfl, by rw [← qck _ _ 1 (by omega)]; exact hc 1 _ rfl, by rw [← qck _ _ 2 (by omega)]; exact hc 2 _ rfl, by rw [← qck _ _ 3 (by omega)]; exact hc 3 _ rfl⟩
theorem qdk : ∀ (x y : List UInt8), Op.bytesLess x y = decide (x < y)
 | [], [] => by simp [Op.bytesLess]
 | [], _ :: _ => by simp [Op.bytesLess]
 | _ :: _, [] => by simp [Op.bytesLess]
 | a :: x, b :: y => by
   rw [Op.bytesLess, qdk x y]
   rw [Bool.eq_iff_iff]
   simp [List.cons_lt_cons_iff]
theorem bytes_flip (x y : List UInt8) : (Op.bytesLess x y || x == y) = !(Op.bytesLess y x) := by
 rw [qdk, qdk, Bool.eq_iff_iff]
 simp only [Bool.or_eq_true, decide_eq_true_eq, beq_iff_eq, Bool.not_eq_true', decide_eq_false_iff_not, List.not_lt]
 constructor
 · rintro (h | rfl)
   · exact List.le_of_lt h
   · exact List.le_refl _
 · intro h
   exact List.le_iff_lt_or_eq.1 h
theorem str_leq (t : TypeId) (a b : ByteArray) : binOp .leq t (.string a) (.string b) = pure (.bool !(Op.bytesLess b.toList a.toList)) := by
 rw [← bytes_flip]
 simp [binOp, Op.stringOp]
theorem str_gtr (t : TypeId) (a b : ByteArray) : binOp .gtr t (.string a) (.string b) = pure (.bool (Op.bytesLess b.toList a.toList)) := by
 have h : Op.bytesLess b.toList a.toList = !(Op.bytesLess a.toList b.toList || a.toList == b.toList) := by rw [bytes_flip, Bool.not_not]
 rw [h]
 simp [binOp, Op.stringOp]
theorem str_geq (t : TypeId) (a b : ByteArray) : binOp .geq t (.string a) (.string b) = pure (.bool !(Op.bytesLess a.toList b.toList)) := by simp [binOp, Op.stringOp]

end

section
def impl_copyFiles.f (l0 : List (S80)) : Option ((List (S80))) := (some (([] : List (S80)) : List (S80))).bind fun y101 => (if y101.length + l0.length < 4398046511104 then (some (y101 ++ l0)) else (none))
set_option maxHeartbeats 8000000 in
set_option maxRecDepth 100000 in
theorem impl_copyFiles.calls (A0 : Option Addr) (c0 : Nat) (l0 : List (S80)) (r : List (S80)) (w : World) (hr0 : Kd.C k80 w A0 l0.length l0) (hc0 : l0.length ≤ c0) (h : impl_copyFiles.f l0 = some r) :
   Calls Try.prog 59 #[.slice A0 l0.length c0] w fun e w' => ∃ v0_ : Value, e = .returned (v0_) ∧ Kd.R k80 80 w' w.heap.size (fun _ => True) v0_ r ∧ Below w.heap.size w w' := by
 have HR0 := Aside0.mk hr0
 have HC0 := Aside0.mk hc0
 clear hr0 hc0
 have HB := Aside0.mk (Below.refl w.heap.size w)
 have H : ((some (([] : List (S80)) : List (S80))).bind fun y101 => (if y101.length + l0.length < 4398046511104 then (some (y101 ++ l0)) else (none))) = some r := h
 clear h
 obtain ⟨y101, hy101⟩ : ∃ y_ : List (S80), y_ = (([] : List (S80))) := ⟨_, rfl⟩
 replace H : (if y101.length + l0.length < 4398046511104 then (some (y101 ++ l0)) else (none)) = some r := by first | (rw [hy101]; with_reducible exact H) | (have H2_ := (Option.bind_some _ _).symm.trans H; rw [hy101]; with_reducible exact H2_) | (have H2_ := (Option.bind_some _ _).symm.trans H; with_reducible exact H2_) | with_reducible exact H | (rw [hy101]; exact H) | exact H
 have Ny101 := Aside0.mk hy101
 clear hy101
 by_cases c2 : y101.length + l0.length < 4398046511104
 · rw [if_pos c2] at H
   have LMc2 := Aside0.mk c2
   clear c2
   obtain ⟨y104, hy104⟩ : ∃ y_ : List (S80), y_ = (y101 ++ l0) := ⟨_, rfl⟩
   replace H : (some y104) = some r := by first | (rw [hy104]; with_reducible exact H) | (have H2_ := (Option.bind_some _ _).symm.trans H; rw [hy104]; with_reducible exact H2_) | (have H2_ := (Option.bind_some _ _).symm.trans H; with_reducible exact H2_) | with_reducible exact H | (rw [hy104]; exact H) | exact H
   have Ny104 := Aside0.mk hy104
   clear hy104
   obtain rfl := Option.some.inj H
   go_enter Try.func59, Try.ntmps59
   go_wp2_with (first | ((with_reducible refine qas (N := 3) rfl ?_); refine Kd.R_lit k80 _ 80 ?hg (N := 3) ?hd (xs := ([] : List (S80))) (inner := []) (ok := fun _ => True) (okp := fun _ => True) ?hr ?hp (fun _ hk => hk) trivial (Below.refl _ _) (Nat.le_refl _) (by simp) ?_; (case hd => rfl); (case hg => rfl); (case hr => first | (go_simp; done) | (go_simp; rfl)); (case hp => exact (Reps.none _ _)); intro v102 w3 ho4 hb hg_ hnew_; clear hg_ hnew_; (first | rw [← Ny101.out] at ho4 | (simp only [Int.reduceToNat] at ho4; rw [← Ny101.out] at ho4)); have n0_ := Aside0.mk (Kd.R_lower ho4 (qaj (by repeat (first | (with_reducible first | exact HB.out | apply qab | apply qaa | apply qac) | exact HB.out)))); have n1_ := Aside0.mk (qak (by repeat (first | (with_reducible first | exact HB.out | apply qab | apply qaa | apply qac) | exact HB.out)) hb); clear HB; have HO103 := n0_; have HB := n1_; clear n0_ n1_; clear hb ho4) | ((with_reducible refine qbo (b := .append) (xs := #[.tmp 3, .tmp 4]) rfl ?_); at_builtin; refine Kd.R_append_rows k80 (w0 := w) w.heap.size rfl (.tmp 3) (.tmp 4) 28 80 (.agg #[(.string ⟨#[]⟩), (.string ⟨#[]⟩)]) 32 rfl Try.underlying28 qcl rfl (by decide) (by omega) v102 y101 l0 _ _ _ (fun _ => True) (fun _ => False) rfl rfl ?aO ?aR (fun _ _ h => h) (fun _ h => h.elim) ?aF ?aB ?aS ?aL ?_; (case aR => repeat (first | exact (Kd.C_below HR0.out HB.out) | (with_reducible refine Kd.C_alloc ?_ _) | (with_reducible refine Kd.C_drewN ?_ _) | (with_reducible refine Kd.C_drew ?_))); (case aB => exact (by repeat (first | (with_reducible first | exact HB.out | apply qab | apply qaa | apply qac) | exact HB.out))); (case aF => exact (fun _ _ => trivial)); (case aO => exact (by (with_reducible repeat (first | apply Kd.R_alloc | apply Kd.R_drewN | apply Kd.R_drew)); exact HO103.out)); (case aS => exact (qaj (by repeat (first | (with_reducible first | exact HB.out | apply qab | apply qaa | apply qac) | exact HB.out)))); (case aL => have := LMc2.out; omega); intro v105 w5 ho hb hg hat; rw [← Ny104.out] at ho; have n0_ := Aside0.mk (hb); have n1_ := Aside0.mk (ho); clear HB; clear HO103; have HB := n0_; have HO106 := n1_; clear n0_ n1_; clear ho hb hg hat))
   go_ret
   exact ⟨_, by first | rfl | (simp [qal, qam] <;> rfl) | (simp [*, qal, qam] <;> rfl), by (with_reducible repeat (first | apply Kd.R_alloc | apply Kd.R_drewN | apply Kd.R_drew)); exact HO106.out, by repeat (first | (with_reducible first | exact HB.out | apply qab | apply qaa | apply qac) | exact HB.out)⟩
 · rw [if_neg c2] at H
   exact absurd H (by simp)

end

section
def impl_isFileName.f (a0 : ByteArray) : Option (Bool) := if (a0.size : Int) ≥ 1 then (some (decide ((a0.size : Int) ≤ 100))) else (some false)
set_option maxHeartbeats 8000000 in
set_option maxRecDepth 100000 in
theorem impl_isFileName.calls (a0 : ByteArray) (r : Bool) (w : World) (h : impl_isFileName.f a0 = some r) :
   Calls Try.prog 101 #[.string a0] w fun e w' => e = .returned (.bool r) ∧ Drawn0 w w' := by
 have H : (if (a0.size : Int) ≥ 1 then (some (decide ((a0.size : Int) ≤ 100))) else (some false)) = some r := h
 clear h
 by_cases c2 : (a0.size : Int) ≥ 1
 · rw [if_pos c2] at H
   have c2b0 : decide (1 ≤ (a0.size : Int)) = true := decide_eq_true c2
   have c2b1 : decide (1 ≤ a0.size) = true := decide_eq_true (by omega)
   clear c2
   obtain rfl := Option.some.inj H
   go_enter Try.func101, Try.ntmps101
   go_wp2
   go_ret
   exact ⟨by first | rfl | (simp; done) | (simp [*]; done), by repeat (first | exact Drawn0.refl _ | apply Drawn0.step)⟩
 · rw [if_neg c2] at H
   have c2b0 : decide (1 ≤ (a0.size : Int)) = false := decide_eq_false c2
   have c2b1 : decide (1 ≤ a0.size) = false := decide_eq_false (by omega)
   clear c2
   obtain rfl := Option.some.inj H
   go_enter Try.func101, Try.ntmps101
   go_wp2
   go_ret
   exact ⟨by first | rfl | (simp; done) | (simp [*]; done), by repeat (first | exact Drawn0.refl _ | apply Drawn0.step)⟩

end

section
def impl_DOp_isFormed.f (a0_0 : Int) (a0_1 : ByteArray) (a0_2 : ByteArray) (a0_3 : ByteArray) : Option (Bool) := if a0_0 = 1 then ((impl_isFileName.f a0_1).bind fun t102 => (if t102 = true then (some (a0_2.toList == ([] : List UInt8))) else (some false))) else (if a0_0 = 2 then ((impl_isFileName.f a0_1).bind fun t103 => (if t103 = true then ((impl_isFileName.f a0_2).bind fun t104 => (if t104 = true then (some (a0_3.toList == ([] : List UInt8))) else (some false))) else (some false))) else (if a0_0 = 3 then ((impl_isFileName.f a0_1).bind fun t105 => (if t105 = true then (if a0_2.toList = ([] : List UInt8) then (some (a0_3.toList == ([] : List UInt8))) else (some false)) else (some false))) else (some false)))
set_option maxHeartbeats 8000000 in
set_option maxRecDepth 100000 in
theorem impl_DOp_isFormed.calls (a0_0 : Int) (a0_1 : ByteArray) (a0_2 : ByteArray) (a0_3 : ByteArray) (r : Bool) (w : World) (h : impl_DOp_isFormed.f a0_0 a0_1 a0_2 a0_3 = some r) :
   Calls Try.prog 89 #[.agg #[.int .i64 a0_0, .string a0_1, .string a0_2, .string a0_3]] w fun e w' => e = .returned (.bool r) ∧ Below w.heap.size w w' := by
 have hu73 := Try.underlying73
 have HB := Aside0.mk (Below.refl w.heap.size w)
 have H : (if a0_0 = 1 then ((impl_isFileName.f a0_1).bind fun t102 => (if t102 = true then (some (a0_2.toList == ([] : List UInt8))) else (some false))) else (if a0_0 = 2 then ((impl_isFileName.f a0_1).bind fun t103 => (if t103 = true then ((impl_isFileName.f a0_2).bind fun t104 => (if t104 = true then (some (a0_3.toList == ([] : List UInt8))) else (some false))) else (some false))) else (if a0_0 = 3 then ((impl_isFileName.f a0_1).bind fun t105 => (if t105 = true then (if a0_2.toList = ([] : List UInt8) then (some (a0_3.toList == ([] : List UInt8))) else (some false)) else (some false))) else (some false)))) = some r := h
 clear h
 by_cases c2 : a0_0 = 1
 · rw [if_pos c2] at H
   have c2b0 : (a0_0 == 1) = true := beq_iff_eq.mpr c2
   have c2b1 : (a0_0 != 1) = false := bne_eq_false_iff_eq.mpr c2
   clear c2
   replace H := Option.bind_eq_some_iff.mp H
   obtain ⟨t102, A30, H⟩ := H
   replace H : (if t102 = true then (some (a0_2.toList == ([] : List UInt8))) else (some false)) = some r := H
   have A3 := Aside0.mk A30
   clear A30
   by_cases c4 : t102 = true
   · subst c4
     have H1 : (some (a0_2.toList == ([] : List UInt8))) = some r := by rw [if_pos rfl] at H; exact H
     clear H
     have H := H1
     clear H1
     obtain rfl := Option.some.inj H
     go_enter Try.func89, Try.ntmps89
     go_wp2_with (first | ((with_reducible refine qas (N := 1) rfl ?_); refine qar ?hg (N := 1) ?hd (cs := #[.int .i64 a0_0, .string a0_1, .string a0_2, .string a0_3]) (t := 73) ?hr ?_; (case hd => rfl); (case hg => rfl); (case hr => first | (go_simp; done) | (go_simp; rfl)); intro gb101 hg w5 hbox hb; have n0_ := Aside0.mk (qak (by repeat (first | (with_reducible first | exact HB.out | apply qab | apply qaa | apply qac) | exact HB.out)) hb); have n1_ := Aside0.mk (hbox); have n2_ := Aside0.mk ((by rw [hg]; exact (qaj (by repeat (first | (with_reducible first | exact HB.out | apply qab | apply qaa | apply qac) | exact HB.out))) : w.heap.size ≤ gb101)); have n3_ := Aside0.mk ((by rw [hg]; exact (qaj (by repeat (first | (with_reducible first | exact HB.out | apply qab | apply qaa | apply qac) | exact HB.out))) : w.heap.size ≤ gb101)); clear HB; have HB := n0_; have BK101 := n1_; have GW101 := n2_; have GE101 := n3_; clear n0_ n1_ n2_ n3_; clear hb hbox hg; have hcz6_0 : w5.cell? ⟨gb101, 0, none⟩ = some (.int .i64 a0_0) := (qaf BK101.out 0).trans rfl; have hcz6_1 : w5.cell? ⟨gb101, 1, none⟩ = some (.string a0_1) := (qaf BK101.out 1).trans rfl; have hcz6_2 : w5.cell? ⟨gb101, 2, none⟩ = some (.string a0_2) := (qaf BK101.out 2).trans rfl; have hcz6_3 : w5.cell? ⟨gb101, 3, none⟩ = some (.string a0_3) := (qaf BK101.out 3).trans rfl; have hfz6_0 := qad BK101.out 0; have hfz6_1 := qad BK101.out 1; have hfz6_2 := qad BK101.out 2; have hfz6_3 := qad BK101.out 3) | ((with_reducible refine qaq (f := 101) rfl ?_); refine qav (some 9) rfl rfl Try.func101 (by kernel_rfl) rfl #[.string a0_1] rfl (by (try simp only [List.map_toArray, List.map_cons, List.map_nil]); first | done | rfl | (simp only [List.length_drop, List.length_take]; rfl)) ?_; (with_reducible refine (impl_isFileName.calls a0_1 true _ A3.out).mono ?_); rintro e w' ⟨rfl, ⟨nd, rfl⟩⟩; refine ⟨_, rfl, ?_⟩))
     go_ret
     exact ⟨by first | rfl | (simp [qal, qam] <;> rfl) | (simp [*, qal, qam] <;> rfl), by repeat (first | (with_reducible first | exact HB.out | apply qab | apply qaa | apply qac | refine qae ?_ GE101.out) | exact HB.out)⟩
   · replace c4 := Bool.eq_false_iff.mpr c4
     subst c4
     have H1 : (some false) = some r := by rw [if_neg (show ¬ (false = true) by decide)] at H; exact H
     clear H
     have H := H1
     clear H1
     obtain rfl := Option.some.inj H
     go_enter Try.func89, Try.ntmps89
     go_wp2_with (first | ((with_reducible refine qas (N := 1) rfl ?_); refine qar ?hg (N := 1) ?hd (cs := #[.int .i64 a0_0, .string a0_1, .string a0_2, .string a0_3]) (t := 73) ?hr ?_; (case hd => rfl); (case hg => rfl); (case hr => first | (go_simp; done) | (go_simp; rfl)); intro gb101 hg w7 hbox hb; have n0_ := Aside0.mk (qak (by repeat (first | (with_reducible first | exact HB.out | apply qab | apply qaa | apply qac) | exact HB.out)) hb); have n1_ := Aside0.mk (hbox); have n2_ := Aside0.mk ((by rw [hg]; exact (qaj (by repeat (first | (with_reducible first | exact HB.out | apply qab | apply qaa | apply qac) | exact HB.out))) : w.heap.size ≤ gb101)); have n3_ := Aside0.mk ((by rw [hg]; exact (qaj (by repeat (first | (with_reducible first | exact HB.out | apply qab | apply qaa | apply qac) | exact HB.out))) : w.heap.size ≤ gb101)); clear HB; have HB := n0_; have BK101 := n1_; have GW101 := n2_; have GE101 := n3_; clear n0_ n1_ n2_ n3_; clear hb hbox hg; have hcz8_0 : w7.cell? ⟨gb101, 0, none⟩ = some (.int .i64 a0_0) := (qaf BK101.out 0).trans rfl; have hcz8_1 : w7.cell? ⟨gb101, 1, none⟩ = some (.string a0_1) := (qaf BK101.out 1).trans rfl; have hcz8_2 : w7.cell? ⟨gb101, 2, none⟩ = some (.string a0_2) := (qaf BK101.out 2).trans rfl; have hcz8_3 : w7.cell? ⟨gb101, 3, none⟩ = some (.string a0_3) := (qaf BK101.out 3).trans rfl; have hfz8_0 := qad BK101.out 0; have hfz8_1 := qad BK101.out 1; have hfz8_2 := qad BK101.out 2; have hfz8_3 := qad BK101.out 3) | ((with_reducible refine qaq (f := 101) rfl ?_); refine qav (some 9) rfl rfl Try.func101 (by kernel_rfl) rfl #[.string a0_1] rfl (by (try simp only [List.map_toArray, List.map_cons, List.map_nil]); first | done | rfl | (simp only [List.length_drop, List.length_take]; rfl)) ?_; (with_reducible refine (impl_isFileName.calls a0_1 false _ A3.out).mono ?_); rintro e w' ⟨rfl, ⟨nd, rfl⟩⟩; refine ⟨_, rfl, ?_⟩))
     go_ret
     exact ⟨by first | rfl | (simp [qal, qam] <;> rfl) | (simp [*, qal, qam] <;> rfl), by repeat (first | (with_reducible first | exact HB.out | apply qab | apply qaa | apply qac | refine qae ?_ GE101.out) | exact HB.out)⟩
 · rw [if_neg c2] at H
   have c2b0 : (a0_0 == 1) = false := beq_eq_false_iff_ne.mpr c2
   have c2b1 : (a0_0 != 1) = true := bne_iff_ne.mpr c2
   by_cases c9 : a0_0 = 2
   · rw [if_pos c9] at H
     have c9b0 : (a0_0 == 2) = true := beq_iff_eq.mpr c9
     have c9b1 : (a0_0 != 2) = false := bne_eq_false_iff_eq.mpr c9
     clear c9
     replace H := Option.bind_eq_some_iff.mp H
     obtain ⟨t103, A100, H⟩ := H
     replace H : (if t103 = true then ((impl_isFileName.f a0_2).bind fun t104 => (if t104 = true then (some (a0_3.toList == ([] : List UInt8))) else (some false))) else (some false)) = some r := H
     have A10 := Aside0.mk A100
     clear A100
     by_cases c11 : t103 = true
     · subst c11
       have H1 : ((impl_isFileName.f a0_2).bind fun t104 => (if t104 = true then (some (a0_3.toList == ([] : List UInt8))) else (some false))) = some r := by rw [if_pos rfl] at H; exact H
       clear H
       have H := H1
       clear H1
       replace H := Option.bind_eq_some_iff.mp H
       obtain ⟨t104, A120, H⟩ := H
       replace H : (if t104 = true then (some (a0_3.toList == ([] : List UInt8))) else (some false)) = some r := H
       have A12 := Aside0.mk A120
       clear A120
       by_cases c13 : t104 = true
       · subst c13
         have H1 : (some (a0_3.toList == ([] : List UInt8))) = some r := by rw [if_pos rfl] at H; exact H
         clear H
         have H := H1
         clear H1
         obtain rfl := Option.some.inj H
         go_enter Try.func89, Try.ntmps89
         go_wp2_with (first | ((with_reducible refine qas (N := 1) rfl ?_); refine qar ?hg (N := 1) ?hd (cs := #[.int .i64 a0_0, .string a0_1, .string a0_2, .string a0_3]) (t := 73) ?hr ?_; (case hd => rfl); (case hg => rfl); (case hr => first | (go_simp; done) | (go_simp; rfl)); intro gb101 hg w14 hbox hb; have n0_ := Aside0.mk (qak (by repeat (first | (with_reducible first | exact HB.out | apply qab | apply qaa | apply qac) | exact HB.out)) hb); have n1_ := Aside0.mk (hbox); have n2_ := Aside0.mk ((by rw [hg]; exact (qaj (by repeat (first | (with_reducible first | exact HB.out | apply qab | apply qaa | apply qac) | exact HB.out))) : w.heap.size ≤ gb101)); have n3_ := Aside0.mk ((by rw [hg]; exact (qaj (by repeat (first | (with_reducible first | exact HB.out | apply qab | apply qaa | apply qac) | exact HB.out))) : w.heap.size ≤ gb101)); clear HB; have HB := n0_; have BK101 := n1_; have GW101 := n2_; have GE101 := n3_; clear n0_ n1_ n2_ n3_; clear hb hbox hg; have hcz15_0 : w14.cell? ⟨gb101, 0, none⟩ = some (.int .i64 a0_0) := (qaf BK101.out 0).trans rfl; have hcz15_1 : w14.cell? ⟨gb101, 1, none⟩ = some (.string a0_1) := (qaf BK101.out 1).trans rfl; have hcz15_2 : w14.cell? ⟨gb101, 2, none⟩ = some (.string a0_2) := (qaf BK101.out 2).trans rfl; have hcz15_3 : w14.cell? ⟨gb101, 3, none⟩ = some (.string a0_3) := (qaf BK101.out 3).trans rfl; have hfz15_0 := qad BK101.out 0; have hfz15_1 := qad BK101.out 1; have hfz15_2 := qad BK101.out 2; have hfz15_3 := qad BK101.out 3) | ((with_reducible refine qaq (f := 101) rfl ?_); refine qav (some 19) rfl rfl Try.func101 (by kernel_rfl) rfl #[.string a0_1] rfl (by (try simp only [List.map_toArray, List.map_cons, List.map_nil]); first | done | rfl | (simp only [List.length_drop, List.length_take]; rfl)) ?_; (with_reducible refine (impl_isFileName.calls a0_1 true _ A10.out).mono ?_); rintro e w' ⟨rfl, ⟨nd, rfl⟩⟩; refine ⟨_, rfl, ?_⟩) | (go_at_call 101; (with_reducible refine (impl_isFileName.calls a0_2 true _ A12.out).mono ?_); rintro e w' ⟨rfl, ⟨nd, rfl⟩⟩))
         go_ret
         exact ⟨by first | rfl | (simp [qal, qam] <;> rfl) | (simp [*, qal, qam] <;> rfl), by repeat (first | (with_reducible first | exact HB.out | apply qab | apply qaa | apply qac | refine qae ?_ GE101.out) | exact HB.out)⟩
       · replace c13 := Bool.eq_false_iff.mpr c13
         subst c13
         have H1 : (some false) = some r := by rw [if_neg (show ¬ (false = true) by decide)] at H; exact H
         clear H
         have H := H1
         clear H1
         obtain rfl := Option.some.inj H
         go_enter Try.func89, Try.ntmps89
         go_wp2_with (first | ((with_reducible refine qas (N := 1) rfl ?_); refine qar ?hg (N := 1) ?hd (cs := #[.int .i64 a0_0, .string a0_1, .string a0_2, .string a0_3]) (t := 73) ?hr ?_; (case hd => rfl); (case hg => rfl); (case hr => first | (go_simp; done) | (go_simp; rfl)); intro gb101 hg w16 hbox hb; have n0_ := Aside0.mk (qak (by repeat (first | (with_reducible first | exact HB.out | apply qab | apply qaa | apply qac) | exact HB.out)) hb); have n1_ := Aside0.mk (hbox); have n2_ := Aside0.mk ((by rw [hg]; exact (qaj (by repeat (first | (with_reducible first | exact HB.out | apply qab | apply qaa | apply qac) | exact HB.out))) : w.heap.size ≤ gb101)); have n3_ := Aside0.mk ((by rw [hg]; exact (qaj (by repeat (first | (with_reducible first | exact HB.out | apply qab | apply qaa | apply qac) | exact HB.out))) : w.heap.size ≤ gb101)); clear HB; have HB := n0_; have BK101 := n1_; have GW101 := n2_; have GE101 := n3_; clear n0_ n1_ n2_ n3_; clear hb hbox hg; have hcz17_0 : w16.cell? ⟨gb101, 0, none⟩ = some (.int .i64 a0_0) := (qaf BK101.out 0).trans rfl; have hcz17_1 : w16.cell? ⟨gb101, 1, none⟩ = some (.string a0_1) := (qaf BK101.out 1).trans rfl; have hcz17_2 : w16.cell? ⟨gb101, 2, none⟩ = some (.string a0_2) := (qaf BK101.out 2).trans rfl; have hcz17_3 : w16.cell? ⟨gb101, 3, none⟩ = some (.string a0_3) := (qaf BK101.out 3).trans rfl; have hfz17_0 := qad BK101.out 0; have hfz17_1 := qad BK101.out 1; have hfz17_2 := qad BK101.out 2; have hfz17_3 := qad BK101.out 3) | ((with_reducible refine qaq (f := 101) rfl ?_); refine qav (some 19) rfl rfl Try.func101 (by kernel_rfl) rfl #[.string a0_1] rfl (by (try simp only [List.map_toArray, List.map_cons, List.map_nil]); first | done | rfl | (simp only [List.length_drop, List.length_take]; rfl)) ?_; (with_reducible refine (impl_isFileName.calls a0_1 true _ A10.out).mono ?_); rintro e w' ⟨rfl, ⟨nd, rfl⟩⟩; refine ⟨_, rfl, ?_⟩) | (go_at_call 101; (with_reducible refine (impl_isFileName.calls a0_2 false _ A12.out).mono ?_); rintro e w' ⟨rfl, ⟨nd, rfl⟩⟩))
         go_ret
         exact ⟨by first | rfl | (simp [qal, qam] <;> rfl) | (simp [*, qal, qam] <;> rfl), by repeat (first | (with_reducible first | exact HB.out | apply qab | apply qaa | apply qac | refine qae ?_ GE101.out) | exact HB.out)⟩
     · replace c11 := Bool.eq_false_iff.mpr c11
       subst c11
       have H1 : (some false) = some r := by rw [if_neg (show ¬ (false = true) by decide)] at H; exact H
       clear H
       have H := H1
       clear H1
       obtain rfl := Option.some.inj H
       go_enter Try.func89, Try.ntmps89
       go_wp2_with (first | ((with_reducible refine qas (N := 1) rfl ?_); refine qar ?hg (N := 1) ?hd (cs := #[.int .i64 a0_0, .string a0_1, .string a0_2, .string a0_3]) (t := 73) ?hr ?_; (case hd => rfl); (case hg => rfl); (case hr => first | (go_simp; done) | (go_simp; rfl)); intro gb101 hg w18 hbox hb; have n0_ := Aside0.mk (qak (by repeat (first | (with_reducible first | exact HB.out | apply qab | apply qaa | apply qac) | exact HB.out)) hb); have n1_ := Aside0.mk (hbox); have n2_ := Aside0.mk ((by rw [hg]; exact (qaj (by repeat (first | (with_reducible first | exact HB.out | apply qab | apply qaa | apply qac) | exact HB.out))) : w.heap.size ≤ gb101)); have n3_ := Aside0.mk ((by rw [hg]; exact (qaj (by repeat (first | (with_reducible first | exact HB.out | apply qab | apply qaa | apply qac) | exact HB.out))) : w.heap.size ≤ gb101)); clear HB; have HB := n0_; have BK101 := n1_; have GW101 := n2_; have GE101 := n3_; clear n0_ n1_ n2_ n3_; clear hb hbox hg; have hcz19_0 : w18.cell? ⟨gb101, 0, none⟩ = some (.int .i64 a0_0) := (qaf BK101.out 0).trans rfl; have hcz19_1 : w18.cell? ⟨gb101, 1, none⟩ = some (.string a0_1) := (qaf BK101.out 1).trans rfl; have hcz19_2 : w18.cell? ⟨gb101, 2, none⟩ = some (.string a0_2) := (qaf BK101.out 2).trans rfl; have hcz19_3 : w18.cell? ⟨gb101, 3, none⟩ = some (.string a0_3) := (qaf BK101.out 3).trans rfl; have hfz19_0 := qad BK101.out 0; have hfz19_1 := qad BK101.out 1; have hfz19_2 := qad BK101.out 2; have hfz19_3 := qad BK101.out 3) | ((with_reducible refine qaq (f := 101) rfl ?_); refine qav (some 19) rfl rfl Try.func101 (by kernel_rfl) rfl #[.string a0_1] rfl (by (try simp only [List.map_toArray, List.map_cons, List.map_nil]); first | done | rfl | (simp only [List.length_drop, List.length_take]; rfl)) ?_; (with_reducible refine (impl_isFileName.calls a0_1 false _ A10.out).mono ?_); rintro e w' ⟨rfl, ⟨nd, rfl⟩⟩; refine ⟨_, rfl, ?_⟩))
       go_ret
       exact ⟨by first | rfl | (simp [qal, qam] <;> rfl) | (simp [*, qal, qam] <;> rfl), by repeat (first | (with_reducible first | exact HB.out | apply qab | apply qaa | apply qac | refine qae ?_ GE101.out) | exact HB.out)⟩
   · rw [if_neg c9] at H
     have c9b0 : (a0_0 == 2) = false := beq_eq_false_iff_ne.mpr c9
     have c9b1 : (a0_0 != 2) = true := bne_iff_ne.mpr c9
     by_cases c20 : a0_0 = 3
     · rw [if_pos c20] at H
       have c20b0 : (a0_0 == 3) = true := beq_iff_eq.mpr c20
       have c20b1 : (a0_0 != 3) = false := bne_eq_false_iff_eq.mpr c20
       clear c20
       replace H := Option.bind_eq_some_iff.mp H
       obtain ⟨t105, A210, H⟩ := H
       replace H : (if t105 = true then (if a0_2.toList = ([] : List UInt8) then (some (a0_3.toList == ([] : List UInt8))) else (some false)) else (some false)) = some r := H
       have A21 := Aside0.mk A210
       clear A210
       by_cases c22 : t105 = true
       · subst c22
         have H1 : (if a0_2.toList = ([] : List UInt8) then (some (a0_3.toList == ([] : List UInt8))) else (some false)) = some r := by rw [if_pos rfl] at H; exact H
         clear H
         have H := H1
         clear H1
         by_cases c23 : a0_2.toList = ([] : List UInt8)
         · rw [if_pos c23] at H
           have c23b0 : (a0_2.toList == ([] : List UInt8)) = true := beq_iff_eq.mpr c23
           have c23b1 : (a0_2.toList != ([] : List UInt8)) = false := bne_eq_false_iff_eq.mpr c23
           clear c23
           obtain rfl := Option.some.inj H
           go_enter Try.func89, Try.ntmps89
           go_wp2_with (first | ((with_reducible refine qas (N := 1) rfl ?_); refine qar ?hg (N := 1) ?hd (cs := #[.int .i64 a0_0, .string a0_1, .string a0_2, .string a0_3]) (t := 73) ?hr ?_; (case hd => rfl); (case hg => rfl); (case hr => first | (go_simp; done) | (go_simp; rfl)); intro gb101 hg w24 hbox hb; have n0_ := Aside0.mk (qak (by repeat (first | (with_reducible first | exact HB.out | apply qab | apply qaa | apply qac) | exact HB.out)) hb); have n1_ := Aside0.mk (hbox); have n2_ := Aside0.mk ((by rw [hg]; exact (qaj (by repeat (first | (with_reducible first | exact HB.out | apply qab | apply qaa | apply qac) | exact HB.out))) : w.heap.size ≤ gb101)); have n3_ := Aside0.mk ((by rw [hg]; exact (qaj (by repeat (first | (with_reducible first | exact HB.out | apply qab | apply qaa | apply qac) | exact HB.out))) : w.heap.size ≤ gb101)); clear HB; have HB := n0_; have BK101 := n1_; have GW101 := n2_; have GE101 := n3_; clear n0_ n1_ n2_ n3_; clear hb hbox hg; have hcz25_0 : w24.cell? ⟨gb101, 0, none⟩ = some (.int .i64 a0_0) := (qaf BK101.out 0).trans rfl; have hcz25_1 : w24.cell? ⟨gb101, 1, none⟩ = some (.string a0_1) := (qaf BK101.out 1).trans rfl; have hcz25_2 : w24.cell? ⟨gb101, 2, none⟩ = some (.string a0_2) := (qaf BK101.out 2).trans rfl; have hcz25_3 : w24.cell? ⟨gb101, 3, none⟩ = some (.string a0_3) := (qaf BK101.out 3).trans rfl; have hfz25_0 := qad BK101.out 0; have hfz25_1 := qad BK101.out 1; have hfz25_2 := qad BK101.out 2; have hfz25_3 := qad BK101.out 3) | ((with_reducible refine qaq (f := 101) rfl ?_); refine qav (some 34) rfl rfl Try.func101 (by kernel_rfl) rfl #[.string a0_1] rfl (by (try simp only [List.map_toArray, List.map_cons, List.map_nil]); first | done | rfl | (simp only [List.length_drop, List.length_take]; rfl)) ?_; (with_reducible refine (impl_isFileName.calls a0_1 true _ A21.out).mono ?_); rintro e w' ⟨rfl, ⟨nd, rfl⟩⟩; refine ⟨_, rfl, ?_⟩))
           go_ret
           exact ⟨by first | rfl | (simp [qal, qam] <;> rfl) | (simp [*, qal, qam] <;> rfl), by repeat (first | (with_reducible first | exact HB.out | apply qab | apply qaa | apply qac | refine qae ?_ GE101.out) | exact HB.out)⟩
         · rw [if_neg c23] at H
           have c23b0 : (a0_2.toList == ([] : List UInt8)) = false := beq_eq_false_iff_ne.mpr c23
           have c23b1 : (a0_2.toList != ([] : List UInt8)) = true := bne_iff_ne.mpr c23
           obtain rfl := Option.some.inj H
           go_enter Try.func89, Try.ntmps89
           go_wp2_with (first | ((with_reducible refine qas (N := 1) rfl ?_); refine qar ?hg (N := 1) ?hd (cs := #[.int .i64 a0_0, .string a0_1, .string a0_2, .string a0_3]) (t := 73) ?hr ?_; (case hd => rfl); (case hg => rfl); (case hr => first | (go_simp; done) | (go_simp; rfl)); intro gb101 hg w26 hbox hb; have n0_ := Aside0.mk (qak (by repeat (first | (with_reducible first | exact HB.out | apply qab | apply qaa | apply qac) | exact HB.out)) hb); have n1_ := Aside0.mk (hbox); have n2_ := Aside0.mk ((by rw [hg]; exact (qaj (by repeat (first | (with_reducible first | exact HB.out | apply qab | apply qaa | apply qac) | exact HB.out))) : w.heap.size ≤ gb101)); have n3_ := Aside0.mk ((by rw [hg]; exact (qaj (by repeat (first | (with_reducible first | exact HB.out | apply qab | apply qaa | apply qac) | exact HB.out))) : w.heap.size ≤ gb101)); clear HB; have HB := n0_; have BK101 := n1_; have GW101 := n2_; have GE101 := n3_; clear n0_ n1_ n2_ n3_; clear hb hbox hg; have hcz27_0 : w26.cell? ⟨gb101, 0, none⟩ = some (.int .i64 a0_0) := (qaf BK101.out 0).trans rfl; have hcz27_1 : w26.cell? ⟨gb101, 1, none⟩ = some (.string a0_1) := (qaf BK101.out 1).trans rfl; have hcz27_2 : w26.cell? ⟨gb101, 2, none⟩ = some (.string a0_2) := (qaf BK101.out 2).trans rfl; have hcz27_3 : w26.cell? ⟨gb101, 3, none⟩ = some (.string a0_3) := (qaf BK101.out 3).trans rfl; have hfz27_0 := qad BK101.out 0; have hfz27_1 := qad BK101.out 1; have hfz27_2 := qad BK101.out 2; have hfz27_3 := qad BK101.out 3) | ((with_reducible refine qaq (f := 101) rfl ?_); refine qav (some 34) rfl rfl Try.func101 (by kernel_rfl) rfl #[.string a0_1] rfl (by (try simp only [List.map_toArray, List.map_cons, List.map_nil]); first | done | rfl | (simp only [List.length_drop, List.length_take]; rfl)) ?_; (with_reducible refine (impl_isFileName.calls a0_1 true _ A21.out).mono ?_); rintro e w' ⟨rfl, ⟨nd, rfl⟩⟩; refine ⟨_, rfl, ?_⟩))
           go_ret
           exact ⟨by first | rfl | (simp [qal, qam] <;> rfl) | (simp [*, qal, qam] <;> rfl), by repeat (first | (with_reducible first | exact HB.out | apply qab | apply qaa | apply qac | refine qae ?_ GE101.out) | exact HB.out)⟩
       · replace c22 := Bool.eq_false_iff.mpr c22
         subst c22
         have H1 : (some false) = some r := by rw [if_neg (show ¬ (false = true) by decide)] at H; exact H
         clear H
         have H := H1
         clear H1
         obtain rfl := Option.some.inj H
         go_enter Try.func89, Try.ntmps89
         go_wp2_with (first | ((with_reducible refine qas (N := 1) rfl ?_); refine qar ?hg (N := 1) ?hd (cs := #[.int .i64 a0_0, .string a0_1, .string a0_2, .string a0_3]) (t := 73) ?hr ?_; (case hd => rfl); (case hg => rfl); (case hr => first | (go_simp; done) | (go_simp; rfl)); intro gb101 hg w28 hbox hb; have n0_ := Aside0.mk (qak (by repeat (first | (with_reducible first | exact HB.out | apply qab | apply qaa | apply qac) | exact HB.out)) hb); have n1_ := Aside0.mk (hbox); have n2_ := Aside0.mk ((by rw [hg]; exact (qaj (by repeat (first | (with_reducible first | exact HB.out | apply qab | apply qaa | apply qac) | exact HB.out))) : w.heap.size ≤ gb101)); have n3_ := Aside0.mk ((by rw [hg]; exact (qaj (by repeat (first | (with_reducible first | exact HB.out | apply qab | apply qaa | apply qac) | exact HB.out))) : w.heap.size ≤ gb101)); clear HB; have HB := n0_; have BK101 := n1_; have GW101 := n2_; have GE101 := n3_; clear n0_ n1_ n2_ n3_; clear hb hbox hg; have hcz29_0 : w28.cell? ⟨gb101, 0, none⟩ = some (.int .i64 a0_0) := (qaf BK101.out 0).trans rfl; have hcz29_1 : w28.cell? ⟨gb101, 1, none⟩ = some (.string a0_1) := (qaf BK101.out 1).trans rfl; have hcz29_2 : w28.cell? ⟨gb101, 2, none⟩ = some (.string a0_2) := (qaf BK101.out 2).trans rfl; have hcz29_3 : w28.cell? ⟨gb101, 3, none⟩ = some (.string a0_3) := (qaf BK101.out 3).trans rfl; have hfz29_0 := qad BK101.out 0; have hfz29_1 := qad BK101.out 1; have hfz29_2 := qad BK101.out 2; have hfz29_3 := qad BK101.out 3) | ((with_reducible refine qaq (f := 101) rfl ?_); refine qav (some 34) rfl rfl Try.func101 (by kernel_rfl) rfl #[.string a0_1] rfl (by (try simp only [List.map_toArray, List.map_cons, List.map_nil]); first | done | rfl | (simp only [List.length_drop, List.length_take]; rfl)) ?_; (with_reducible refine (impl_isFileName.calls a0_1 false _ A21.out).mono ?_); rintro e w' ⟨rfl, ⟨nd, rfl⟩⟩; refine ⟨_, rfl, ?_⟩))
         go_ret
         exact ⟨by first | rfl | (simp [qal, qam] <;> rfl) | (simp [*, qal, qam] <;> rfl), by repeat (first | (with_reducible first | exact HB.out | apply qab | apply qaa | apply qac | refine qae ?_ GE101.out) | exact HB.out)⟩
     · rw [if_neg c20] at H
       have c20b0 : (a0_0 == 3) = false := beq_eq_false_iff_ne.mpr c20
       have c20b1 : (a0_0 != 3) = true := bne_iff_ne.mpr c20
       obtain rfl := Option.some.inj H
       go_enter Try.func89, Try.ntmps89
       go_wp2_with (first | ((with_reducible refine qas (N := 1) rfl ?_); refine qar ?hg (N := 1) ?hd (cs := #[.int .i64 a0_0, .string a0_1, .string a0_2, .string a0_3]) (t := 73) ?hr ?_; (case hd => rfl); (case hg => rfl); (case hr => first | (go_simp; done) | (go_simp; rfl)); intro gb101 hg w30 hbox hb; have n0_ := Aside0.mk (qak (by repeat (first | (with_reducible first | exact HB.out | apply qab | apply qaa | apply qac) | exact HB.out)) hb); have n1_ := Aside0.mk (hbox); have n2_ := Aside0.mk ((by rw [hg]; exact (qaj (by repeat (first | (with_reducible first | exact HB.out | apply qab | apply qaa | apply qac) | exact HB.out))) : w.heap.size ≤ gb101)); have n3_ := Aside0.mk ((by rw [hg]; exact (qaj (by repeat (first | (with_reducible first | exact HB.out | apply qab | apply qaa | apply qac) | exact HB.out))) : w.heap.size ≤ gb101)); clear HB; have HB := n0_; have BK101 := n1_; have GW101 := n2_; have GE101 := n3_; clear n0_ n1_ n2_ n3_; clear hb hbox hg; have hcz31_0 : w30.cell? ⟨gb101, 0, none⟩ = some (.int .i64 a0_0) := (qaf BK101.out 0).trans rfl; have hcz31_1 : w30.cell? ⟨gb101, 1, none⟩ = some (.string a0_1) := (qaf BK101.out 1).trans rfl; have hcz31_2 : w30.cell? ⟨gb101, 2, none⟩ = some (.string a0_2) := (qaf BK101.out 2).trans rfl; have hcz31_3 : w30.cell? ⟨gb101, 3, none⟩ = some (.string a0_3) := (qaf BK101.out 3).trans rfl; have hfz31_0 := qad BK101.out 0; have hfz31_1 := qad BK101.out 1; have hfz31_2 := qad BK101.out 2; have hfz31_3 := qad BK101.out 3))
       go_ret
       exact ⟨by first | rfl | (simp [qal, qam] <;> rfl) | (simp [*, qal, qam] <;> rfl), by repeat (first | (with_reducible first | exact HB.out | apply qab | apply qaa | apply qac | refine qae ?_ GE101.out) | exact HB.out)⟩

end

section
theorem eqA80 (d : Nat) (w : World) (x0 y0 : ByteArray) (x1 y1 : ByteArray) :
   (Op.equalIn (d + 2) 80 (.agg #[.string x0, .string x1]) (.agg #[.string y0, .string y1])).run Try.prog w = .ok (x0.toList == y0.toList && (x1.toList == y1.toList)) w := by
 refine eqA_of Try.underlying80 (by kernel_rfl) ?_
 refine eqf_cons (by rfl) (by go_simp; rfl) (by go_simp; rfl) (by go_simp) ?_
 exact eqf_last (by rfl) (by go_simp; rfl) (by go_simp; rfl) (by go_simp)

end

section
attribute [local go_sem high] eqA80
def impl_File_90.l0 : Nat → List (S80) → List (S80) → Int → Int → Option (Bool)
 | 0, _, _, _, _ => none
 | k + 1, x0, x1, x12, x13 => if x13 < x12 then (if 0 ≤ x13 then (if x13 < (x0.length : Int) then (if x13 < (x1.length : Int) then (if (!((((qan x0 x13).f0).toList) == (((qan x1 x13).f0).toList)) || (!((((qan x0 x13).f1).toList) == (((qan x1 x13).f1).toList)))) = true then (some false) else (impl_File_90.l0 k x0 x1 x12 (wrap64 (x13 + 1)))) else (none)) else (none)) else (none)) else (some true)
def impl_File_90.f (k : Nat) (l0 : List (S80)) (l1 : List (S80)) : Option (Bool) := if (l0.length : Int) = (l1.length : Int) then (impl_File_90.l0 k l0 l1 (l0.length : Int) 0) else (some false)
theorem impl_File_90.mono_l : ∀ k, (∀ y0 y1 y2 y3, LeO (impl_File_90.l0 k y0 y1 y2 y3) (impl_File_90.l0 (k + 1) y0 y1 y2 y3))
 | 0 => fun _ _ _ _ r h => by simp [impl_File_90.l0] at h
 | k + 1 => by
   have ih0 := impl_File_90.mono_l k
   · intro y0 y1 y2 y3
     unfold impl_File_90.l0
     repeat' first
     | (with_reducible exact ih0 _ _ _ _)
     | (with_reducible exact LeO.refl _)
     | (with_reducible exact LeO.none _)
     | (with_reducible refine LeO.ite ?_ ?_)
     | (with_reducible refine LeO.bind ?_ (fun _ => ?_))
     | exact ih0 _ _ _ _
     | exact LeO.none _
     | refine LeO.ite ?_ ?_
     | refine LeO.bind ?_ (fun _ => ?_)
theorem impl_File_90.mono : ∀ a0 a1 k, LeO (impl_File_90.f k a0 a1) (impl_File_90.f (k + 1) a0 a1) := by
 intro a0 a1 k
 have ih0 := impl_File_90.mono_l k
 unfold impl_File_90.f
 repeat' first
     | (with_reducible exact ih0 _ _ _ _)
     | (with_reducible exact LeO.refl _)
     | (with_reducible exact LeO.none _)
     | (with_reducible refine LeO.ite ?_ ?_)
     | (with_reducible refine LeO.bind ?_ (fun _ => ?_))
     | exact ih0 _ _ _ _
     | exact LeO.none _
     | refine LeO.ite ?_ ?_
     | refine LeO.bind ?_ (fun _ => ?_)
set_option maxHeartbeats 8000000 in
set_option maxRecDepth 100000 in
theorem impl_File_90.calls (k : Nat) (A0 : Option Addr) (c0 : Nat) (l0 : List (S80)) (A1 : Option Addr) (c1 : Nat) (l1 : List (S80)) (r : Bool) (w : World) (hr0 : Kd.C k80 w A0 l0.length l0) (hc0 : l0.length ≤ c0) (hr1 : Kd.C k80 w A1 l1.length l1) (hc1 : l1.length ≤ c1) (h : impl_File_90.f k l0 l1 = some r) :
   Calls Try.prog 90 #[.slice A0 l0.length c0, .slice A1 l1.length c1] w fun e w' => e = .returned (.bool r) ∧ Drawn0 w w' := by
 have hu80 := Try.underlying80
 have HR0 := Aside0.mk hr0
 have HC0 := Aside0.mk hc0
 clear hr0 hc0
 have HR1 := Aside0.mk hr1
 have HC1 := Aside0.mk hc1
 clear hr1 hc1
 have H : (if (l0.length : Int) = (l1.length : Int) then (impl_File_90.l0 k l0 l1 (l0.length : Int) 0) else (some false)) = some r := h
 clear h
 by_cases c3 : (l0.length : Int) = (l1.length : Int)
 · rw [if_pos c3] at H
   have c3b0 : ((l0.length : Int) == (l1.length : Int)) = true := beq_iff_eq.mpr c3
   have c3b1 : ((l0.length : Int) != (l1.length : Int)) = false := bne_eq_false_iff_eq.mpr c3
   have c3b2 : (l0.length == l1.length) = true := by first | simpa using c3 | (simp at c3 ⊢; omega)
   clear c3
   have H' := Aside0.mk H
   clear H
   go_enter Try.func90, Try.ntmps90
   go_wp2
   repeat (go_quiet (fail); try go_wp2)
   go_loopg [13] k (fun kq v13 w' => ∃ (x13_1 : Int), v13 = .int .i64 x13_1 ∧ Aside0 (impl_File_90.l0 kq l0 l1 (l0.length : Int) x13_1 = some r) ∧ Aside0 (kq ≤ k) ∧ Drawn0 w w')
   case atStart => exact ⟨(0), (by first | rfl | (simp; done) | (simp [*]; done)), H', ⟨Nat.le_refl _⟩, by repeat (first | exact Drawn0.refl _ | apply Drawn0.step)⟩
   case round =>
     clear H'
     try clear c1
     try clear p2
     try clear c3
     try clear c3b0
     try clear c3b1
     try clear c3b2
     obtain ⟨x13_1, rfl, HA, HK1, ⟨m1, rfl⟩⟩ := hrel
     cases gk with
     | zero => exact absurd HA.out (by simp [impl_File_90.l0])
     | succ k1 =>
       have H := HA.out
       clear HA
       simp only [impl_File_90.l0] at H
       by_cases c4 : x13_1 < (l0.length : Int)
       · rw [if_pos c4] at H
         have c4b0 : decide (x13_1 < (l0.length : Int)) = true := decide_eq_true c4
         clear c4
         by_cases c5 : 0 ≤ x13_1
         · rw [if_pos c5] at H
           have c5b0 : decide (0 ≤ x13_1) = true := decide_eq_true c5
           clear c5
           by_cases c6 : x13_1 < (l0.length : Int)
           · rw [if_pos c6] at H
             have c6b0 : decide (x13_1 < (l0.length : Int)) = true := decide_eq_true c6
             clear c6
             by_cases c7 : x13_1 < (l1.length : Int)
             · rw [if_pos c7] at H
               have c7b0 : decide (x13_1 < (l1.length : Int)) = true := decide_eq_true c7
               clear c7
               by_cases c8 : (!((((qan l0 x13_1).f0).toList) == (((qan l1 x13_1).f0).toList)) || (!((((qan l0 x13_1).f1).toList) == (((qan l1 x13_1).f1).toList)))) = true
               · rw [if_pos c8] at H
                 have c8b0 : (!((((qan l0 x13_1).f0).toList) == (((qan l1 x13_1).f0).toList)) || (!((((qan l0 x13_1).f1).toList) == (((qan l1 x13_1).f1).toList)))) = true := c8
                 clear c8
                 obtain rfl := Option.some.inj H
                 have p101 : 0 ≤ (x13_1 : Int) := of_decide_eq_true (by first | (with_reducible assumption) | assumption)
                 have q101 : x13_1 < (l0.length : Int) := of_decide_eq_true (by first | (with_reducible assumption) | assumption)
                 obtain ⟨ad101, e101, hx101_0, hx101_1⟩ := qba HR0.out x13_1 p101 q101
                 cases e101
                 replace p101 := eq_true p101
                 replace q101 := eq_true q101
                 have p102 : 0 ≤ (x13_1 : Int) := of_decide_eq_true (by first | (with_reducible assumption) | assumption)
                 have q102 : x13_1 < (l1.length : Int) := of_decide_eq_true (by first | (with_reducible assumption) | assumption)
                 obtain ⟨ad102, e102, hx102_0, hx102_1⟩ := qba HR1.out x13_1 p102 q102
                 cases e102
                 replace p102 := eq_true p102
                 replace q102 := eq_true q102
                 go_wp2
                 repeat (go_quiet (fail); try go_wp2)
                 go_ret
                 exact ⟨by first | rfl | (simp; done) | (simp [*]; done), by repeat (first | exact Drawn0.refl _ | apply Drawn0.step)⟩
               · rw [if_neg c8] at H
                 have c8b0 : (!((((qan l0 x13_1).f0).toList) == (((qan l1 x13_1).f0).toList)) || (!((((qan l0 x13_1).f1).toList) == (((qan l1 x13_1).f1).toList)))) = false := by simpa using c8
                 clear c8
                 have H' := Aside0.mk H
                 clear H
                 have p101 : 0 ≤ (x13_1 : Int) := of_decide_eq_true (by first | (with_reducible assumption) | assumption)
                 have q101 : x13_1 < (l0.length : Int) := of_decide_eq_true (by first | (with_reducible assumption) | assumption)
                 obtain ⟨ad101, e101, hx101_0, hx101_1⟩ := qba HR0.out x13_1 p101 q101
                 cases e101
                 replace p101 := eq_true p101
                 replace q101 := eq_true q101
                 have p102 : 0 ≤ (x13_1 : Int) := of_decide_eq_true (by first | (with_reducible assumption) | assumption)
                 have q102 : x13_1 < (l1.length : Int) := of_decide_eq_true (by first | (with_reducible assumption) | assumption)
                 obtain ⟨ad102, e102, hx102_0, hx102_1⟩ := qba HR1.out x13_1 p102 q102
                 cases e102
                 replace p102 := eq_true p102
                 replace q102 := eq_true q102
                 go_wp2
                 repeat (go_quiet (fail); try go_wp2)
                 go_roundg k1
                 case measure => have := HK1.out; omega
                 case rel => exact ⟨(wrap64 (x13_1 + 1)), (by first | rfl | (simp; done) | (simp [*]; done)), H', ⟨by have := HK1.out; omega⟩, by repeat (first | exact Drawn0.refl _ | apply Drawn0.step)⟩
             · rw [if_neg c7] at H
               exact absurd H (by simp)
           · rw [if_neg c6] at H
             exact absurd H (by simp)
         · rw [if_neg c5] at H
           exact absurd H (by simp)
       · rw [if_neg c4] at H
         have c4b0 : decide (x13_1 < (l0.length : Int)) = false := decide_eq_false c4
         clear c4
         obtain rfl := Option.some.inj H
         go_wp2
         repeat (go_quiet (fail); try go_wp2)
         go_ret
         exact ⟨by first | rfl | (simp; done) | (simp [*]; done), by repeat (first | exact Drawn0.refl _ | apply Drawn0.step)⟩
 · rw [if_neg c3] at H
   have c3b0 : ((l0.length : Int) == (l1.length : Int)) = false := beq_eq_false_iff_ne.mpr c3
   have c3b1 : ((l0.length : Int) != (l1.length : Int)) = true := bne_iff_ne.mpr c3
   have c3b2 : (l0.length == l1.length) = false := by first | simpa using c3 | (simp at c3 ⊢; omega)
   obtain rfl := Option.some.inj H
   go_enter Try.func90, Try.ntmps90
   go_wp2
   repeat (go_quiet (fail); try go_wp2)
   go_ret
   exact ⟨by first | rfl | (simp; done) | (simp [*]; done), by repeat (first | exact Drawn0.refl _ | apply Drawn0.step)⟩

end

section
attribute [local go_sem] str_geq str_leq str_gtr
def impl_areFiles.l0 : Nat → List (S80) → Int → List (S80) → Int → Int → Option (Bool)
 | 0, _, _, _, _, _ => none
 | k + 1, x0, x3, x6, x7, x8 => if x8 < x7 then (if 0 ≤ x8 then (if x8 < (x6.length : Int) then ((impl_isFileName.f ((qan x6 x8).f0)).bind fun t103 => (if t103 = true then (if (wrap64 (x3 + (((qan x6 x8).f1).size : Int))) > 200000 then (some false) else (if x8 > 0 then (if 0 ≤ (wrap64 (x8 - 1)) then (if (wrap64 (x8 - 1)) < (x0.length : Int) then (if ((Op.bytesLess (((qan x0 (wrap64 (x8 - 1))).f0).toList) (((qan x6 x8).f0).toList)) = true) then (impl_areFiles.l0 k x0 (wrap64 (x3 + (((qan x6 x8).f1).size : Int))) x6 x7 (wrap64 (x8 + 1))) else (some false)) else (none)) else (none)) else (impl_areFiles.l0 k x0 (wrap64 (x3 + (((qan x6 x8).f1).size : Int))) x6 x7 (wrap64 (x8 + 1))))) else (some false))) else (none)) else (none)) else (some (decide ((x0.length : Int) ≤ 60)))
def impl_areFiles.f (k : Nat) (l0 : List (S80)) : Option (Bool) := impl_areFiles.l0 k l0 0 l0 (l0.length : Int) 0
theorem impl_areFiles.mono_l : ∀ k, (∀ y0 y1 y2 y3 y4, LeO (impl_areFiles.l0 k y0 y1 y2 y3 y4) (impl_areFiles.l0 (k + 1) y0 y1 y2 y3 y4))
 | 0 => fun _ _ _ _ _ r h => by simp [impl_areFiles.l0] at h
 | k + 1 => by
   have ih0 := impl_areFiles.mono_l k
   · intro y0 y1 y2 y3 y4
     unfold impl_areFiles.l0
     repeat' first
     | (with_reducible exact ih0 _ _ _ _ _)
     | (with_reducible exact LeO.refl _)
     | (with_reducible exact LeO.none _)
     | (with_reducible refine LeO.ite ?_ ?_)
     | (with_reducible refine LeO.bind ?_ (fun _ => ?_))
     | exact ih0 _ _ _ _ _
     | exact LeO.none _
     | refine LeO.ite ?_ ?_
     | refine LeO.bind ?_ (fun _ => ?_)
theorem impl_areFiles.mono : ∀ a0 k, LeO (impl_areFiles.f k a0) (impl_areFiles.f (k + 1) a0) := by
 intro a0 k
 have ih0 := impl_areFiles.mono_l k
 unfold impl_areFiles.f
 repeat' first
     | (with_reducible exact ih0 _ _ _ _ _)
     | (with_reducible exact LeO.refl _)
     | (with_reducible exact LeO.none _)
     | (with_reducible refine LeO.ite ?_ ?_)
     | (with_reducible refine LeO.bind ?_ (fun _ => ?_))
     | exact ih0 _ _ _ _ _
     | exact LeO.none _
     | refine LeO.ite ?_ ?_
     | refine LeO.bind ?_ (fun _ => ?_)
set_option maxHeartbeats 8000000 in
set_option maxRecDepth 100000 in
theorem impl_areFiles.calls (k : Nat) (A0 : Option Addr) (c0 : Nat) (l0 : List (S80)) (r : Bool) (w : World) (hr0 : Kd.C k80 w A0 l0.length l0) (hc0 : l0.length ≤ c0) (h : impl_areFiles.f k l0 = some r) :
   Calls Try.prog 62 #[.slice A0 l0.length c0] w fun e w' => e = .returned (.bool r) ∧ Below w.heap.size w w' := by
 have hu80 := Try.underlying80
 have HR0 := Aside0.mk hr0
 have HC0 := Aside0.mk hc0
 clear hr0 hc0
 have HB := Aside0.mk (Below.refl w.heap.size w)
 have H : (impl_areFiles.l0 k l0 0 l0 (l0.length : Int) 0) = some r := h
 clear h
 have H' := Aside0.mk H
 clear H
 go_enter Try.func62, Try.ntmps62
 go_wp2
 repeat (go_quiet (fail); try go_wp2)
 go_loopg [3, 8] k (fun kq v3 v8 w' => ∃ (x3_1 : Int) (x8_1 : Int), v3 = .int .i64 x3_1 ∧ v8 = .int .i64 x8_1 ∧ Aside0 (impl_areFiles.l0 kq l0 x3_1 l0 (l0.length : Int) x8_1 = some r) ∧ Aside0 (kq ≤ k) ∧ Aside0 (Below w.heap.size w w'))
 case atStart => exact ⟨(0), (0), (by first | rfl | (simp; done) | (simp [*]; done)), (by first | rfl | (simp; done) | (simp [*]; done)), H', ⟨Nat.le_refl _⟩, ⟨by repeat (first | (with_reducible first | exact HB.out | apply qab | apply qaa | apply qac) | exact HB.out)⟩⟩
 case round =>
   clear H'
   obtain ⟨x3_1, x8_1, rfl, rfl, HA, HK1, HB⟩ := hrel
   cases gk with
   | zero => exact absurd HA.out (by simp [impl_areFiles.l0])
   | succ k1 =>
     have H := HA.out
     clear HA
     simp only [impl_areFiles.l0] at H
     by_cases c2 : x8_1 < (l0.length : Int)
     · rw [if_pos c2] at H
       have c2b0 : decide (x8_1 < (l0.length : Int)) = true := decide_eq_true c2
       clear c2
       by_cases c3 : 0 ≤ x8_1
       · rw [if_pos c3] at H
         have c3b0 : decide (0 ≤ x8_1) = true := decide_eq_true c3
         clear c3
         by_cases c4 : x8_1 < (l0.length : Int)
         · rw [if_pos c4] at H
           have c4b0 : decide (x8_1 < (l0.length : Int)) = true := decide_eq_true c4
           clear c4
           replace H := Option.bind_eq_some_iff.mp H
           obtain ⟨t103, A50, H⟩ := H
           replace H : (if t103 = true then (if (wrap64 (x3_1 + (((qan l0 x8_1).f1).size : Int))) > 200000 then (some false) else (if x8_1 > 0 then (if 0 ≤ (wrap64 (x8_1 - 1)) then (if (wrap64 (x8_1 - 1)) < (l0.length : Int) then (if ((Op.bytesLess (((qan l0 (wrap64 (x8_1 - 1))).f0).toList) (((qan l0 x8_1).f0).toList)) = true) then (impl_areFiles.l0 k1 l0 (wrap64 (x3_1 + (((qan l0 x8_1).f1).size : Int))) l0 (l0.length : Int) (wrap64 (x8_1 + 1))) else (some false)) else (none)) else (none)) else (impl_areFiles.l0 k1 l0 (wrap64 (x3_1 + (((qan l0 x8_1).f1).size : Int))) l0 (l0.length : Int) (wrap64 (x8_1 + 1))))) else (some false)) = some r := H
           have A5 := Aside0.mk A50
           clear A50
           by_cases c6 : t103 = true
           · subst c6
             have H1 : (if (wrap64 (x3_1 + (((qan l0 x8_1).f1).size : Int))) > 200000 then (some false) else (if x8_1 > 0 then (if 0 ≤ (wrap64 (x8_1 - 1)) then (if (wrap64 (x8_1 - 1)) < (l0.length : Int) then (if ((Op.bytesLess (((qan l0 (wrap64 (x8_1 - 1))).f0).toList) (((qan l0 x8_1).f0).toList)) = true) then (impl_areFiles.l0 k1 l0 (wrap64 (x3_1 + (((qan l0 x8_1).f1).size : Int))) l0 (l0.length : Int) (wrap64 (x8_1 + 1))) else (some false)) else (none)) else (none)) else (impl_areFiles.l0 k1 l0 (wrap64 (x3_1 + (((qan l0 x8_1).f1).size : Int))) l0 (l0.length : Int) (wrap64 (x8_1 + 1))))) = some r := by rw [if_pos rfl] at H; exact H
             clear H
             have H := H1
             clear H1
             by_cases c7 : (wrap64 (x3_1 + (((qan l0 x8_1).f1).size : Int))) > 200000
             · rw [if_pos c7] at H
               have c7b0 : decide (200000 < (wrap64 (x3_1 + (((qan l0 x8_1).f1).size : Int)))) = true := decide_eq_true c7
               clear c7
               obtain rfl := Option.some.inj H
               have p101 : 0 ≤ (x8_1 : Int) := of_decide_eq_true (by first | (with_reducible assumption) | assumption)
               have q101 : x8_1 < (l0.length : Int) := of_decide_eq_true (by first | (with_reducible assumption) | assumption)
               obtain ⟨ad101, e101, hx101_0, hx101_1⟩ := qba HR0.out x8_1 p101 q101
               cases e101
               replace hx101_0 := (HB.out.cell (World.block_lt_of_cell? w _ hx101_0)).trans hx101_0
               replace hx101_1 := (HB.out.cell (World.block_lt_of_cell? w _ hx101_1)).trans hx101_1
               replace p101 := eq_true p101
               replace q101 := eq_true q101
               go_wp2_with (first | ((with_reducible refine qas (N := 5) rfl ?_); refine qar ?hg (N := 5) ?hd (cs := #[.string (⟨#[]⟩ : ByteArray), .string (⟨#[]⟩ : ByteArray)]) (t := 80) ?hr ?_; (case hd => rfl); (case hg => rfl); (case hr => first | (go_simp; done) | (go_simp; rfl)); intro gb102 hg w8 hbox hb; have n0_ := Aside0.mk (qak (by repeat (first | (with_reducible first | exact HB.out | apply qab | apply qaa | apply qac) | exact HB.out)) hb); have n1_ := Aside0.mk (hbox); have n2_ := Aside0.mk ((by rw [hg]; exact (qaj (by repeat (first | (with_reducible first | exact HB.out | apply qab | apply qaa | apply qac) | exact HB.out))) : w.heap.size ≤ gb102)); have n3_ := Aside0.mk ((by rw [hg]; exact (qaj (by repeat (first | (with_reducible first | exact HB.out | apply qab | apply qaa | apply qac) | exact HB.out))) : w.heap.size ≤ gb102)); clear HB; have HB := n0_; have BK102 := n1_; have GW102 := n2_; have GE102 := n3_; clear n0_ n1_ n2_ n3_; clear hb hbox hg; have hcz9_0 : w8.cell? ⟨gb102, 0, none⟩ = some (.string (⟨#[]⟩ : ByteArray)) := (qaf BK102.out 0).trans rfl; have hcz9_1 : w8.cell? ⟨gb102, 1, none⟩ = some (.string (⟨#[]⟩ : ByteArray)) := (qaf BK102.out 1).trans rfl; have hfz9_0 := qad BK102.out 0; have hfz9_1 := qad BK102.out 1) | (go_at_call 101; (with_reducible refine (impl_isFileName.calls ((qan l0 x8_1).f0) true _ A5.out).mono ?_); rintro e w' ⟨rfl, ⟨nd, rfl⟩⟩; (try first | exact ⟨rfl, _, World.drewN_drewN _ _ _⟩ | exact ⟨rfl, _, Eq.trans (World.drewN_drewN _ _ _) (congrArg (World.drewN _) (Nat.add_assoc _ _ _))⟩)))
               repeat (go_quiet (first | ((with_reducible refine qas (N := 5) rfl ?_); refine qar ?hg (N := 5) ?hd (cs := #[.string (⟨#[]⟩ : ByteArray), .string (⟨#[]⟩ : ByteArray)]) (t := 80) ?hr ?_; (case hd => rfl); (case hg => rfl); (case hr => first | (go_simp; done) | (go_simp; rfl)); intro gb102 hg w8 hbox hb; have n0_ := Aside0.mk (qak (by repeat (first | (with_reducible first | exact HB.out | apply qab | apply qaa | apply qac) | exact HB.out)) hb); have n1_ := Aside0.mk (hbox); have n2_ := Aside0.mk ((by rw [hg]; exact (qaj (by repeat (first | (with_reducible first | exact HB.out | apply qab | apply qaa | apply qac) | exact HB.out))) : w.heap.size ≤ gb102)); have n3_ := Aside0.mk ((by rw [hg]; exact (qaj (by repeat (first | (with_reducible first | exact HB.out | apply qab | apply qaa | apply qac) | exact HB.out))) : w.heap.size ≤ gb102)); clear HB; have HB := n0_; have BK102 := n1_; have GW102 := n2_; have GE102 := n3_; clear n0_ n1_ n2_ n3_; clear hb hbox hg; have hcz9_0 : w8.cell? ⟨gb102, 0, none⟩ = some (.string (⟨#[]⟩ : ByteArray)) := (qaf BK102.out 0).trans rfl; have hcz9_1 : w8.cell? ⟨gb102, 1, none⟩ = some (.string (⟨#[]⟩ : ByteArray)) := (qaf BK102.out 1).trans rfl; have hfz9_0 := qad BK102.out 0; have hfz9_1 := qad BK102.out 1) | (go_at_call 101; (with_reducible refine (impl_isFileName.calls ((qan l0 x8_1).f0) true _ A5.out).mono ?_); rintro e w' ⟨rfl, ⟨nd, rfl⟩⟩; (try first | exact ⟨rfl, _, World.drewN_drewN _ _ _⟩ | exact ⟨rfl, _, Eq.trans (World.drewN_drewN _ _ _) (congrArg (World.drewN _) (Nat.add_assoc _ _ _))⟩))); try go_wp2_with (first | ((with_reducible refine qas (N := 5) rfl ?_); refine qar ?hg (N := 5) ?hd (cs := #[.string (⟨#[]⟩ : ByteArray), .string (⟨#[]⟩ : ByteArray)]) (t := 80) ?hr ?_; (case hd => rfl); (case hg => rfl); (case hr => first | (go_simp; done) | (go_simp; rfl)); intro gb102 hg w8 hbox hb; have n0_ := Aside0.mk (qak (by repeat (first | (with_reducible first | exact HB.out | apply qab | apply qaa | apply qac) | exact HB.out)) hb); have n1_ := Aside0.mk (hbox); have n2_ := Aside0.mk ((by rw [hg]; exact (qaj (by repeat (first | (with_reducible first | exact HB.out | apply qab | apply qaa | apply qac) | exact HB.out))) : w.heap.size ≤ gb102)); have n3_ := Aside0.mk ((by rw [hg]; exact (qaj (by repeat (first | (with_reducible first | exact HB.out | apply qab | apply qaa | apply qac) | exact HB.out))) : w.heap.size ≤ gb102)); clear HB; have HB := n0_; have BK102 := n1_; have GW102 := n2_; have GE102 := n3_; clear n0_ n1_ n2_ n3_; clear hb hbox hg; have hcz9_0 : w8.cell? ⟨gb102, 0, none⟩ = some (.string (⟨#[]⟩ : ByteArray)) := (qaf BK102.out 0).trans rfl; have hcz9_1 : w8.cell? ⟨gb102, 1, none⟩ = some (.string (⟨#[]⟩ : ByteArray)) := (qaf BK102.out 1).trans rfl; have hfz9_0 := qad BK102.out 0; have hfz9_1 := qad BK102.out 1) | (go_at_call 101; (with_reducible refine (impl_isFileName.calls ((qan l0 x8_1).f0) true _ A5.out).mono ?_); rintro e w' ⟨rfl, ⟨nd, rfl⟩⟩; (try first | exact ⟨rfl, _, World.drewN_drewN _ _ _⟩ | exact ⟨rfl, _, Eq.trans (World.drewN_drewN _ _ _) (congrArg (World.drewN _) (Nat.add_assoc _ _ _))⟩))))
               go_ret
               exact ⟨by first | rfl | (simp [qal, qam] <;> rfl) | (simp [*, qal, qam] <;> rfl), by repeat (first | (with_reducible first | exact HB.out | apply qab | apply qaa | apply qac | refine qae ?_ GE102.out) | exact HB.out)⟩
             · rw [if_neg c7] at H
               have c7b0 : decide (200000 < (wrap64 (x3_1 + (((qan l0 x8_1).f1).size : Int)))) = false := decide_eq_false c7
               clear c7
               by_cases c10 : x8_1 > 0
               · rw [if_pos c10] at H
                 have c10b0 : decide (0 < x8_1) = true := decide_eq_true c10
                 clear c10
                 obtain ⟨ji11, hji11⟩ : ∃ j_ : Int, (wrap64 (x8_1 - 1)) = j_ := ⟨_, rfl⟩
                 replace H : (if 0 ≤ (ji11) then (if (ji11) < (l0.length : Int) then (if ((Op.bytesLess (((qan l0 (ji11)).f0).toList) (((qan l0 x8_1).f0).toList)) = true) then (impl_areFiles.l0 k1 l0 (wrap64 (x3_1 + (((qan l0 x8_1).f1).size : Int))) l0 (l0.length : Int) (wrap64 (x8_1 + 1))) else (some false)) else (none)) else (none)) = some r := by first | (rw [hji11] at H; exact H) | (simp only [hji11] at H ⊢; exact H)
                 (try rw [hji11] at A5)
                 have hji11w : (IntKind.i64.wrap (x8_1 - 1)) = ji11 := (i64_w _).trans hji11
                 by_cases c12 : 0 ≤ (ji11)
                 · rw [if_pos c12] at H
                   have c12b0 : decide (0 ≤ (ji11)) = true := decide_eq_true c12
                   clear c12
                   by_cases c13 : (ji11) < (l0.length : Int)
                   · rw [if_pos c13] at H
                     have c13b0 : decide ((ji11) < (l0.length : Int)) = true := decide_eq_true c13
                     clear c13
                     by_cases c14 : ((Op.bytesLess (((qan l0 (ji11)).f0).toList) (((qan l0 x8_1).f0).toList)) = true)
                     · rw [if_pos c14] at H
                       have c14b0 : (Op.bytesLess (((qan l0 (ji11)).f0).toList) (((qan l0 x8_1).f0).toList)) = true := c14
                       clear c14
                       have H' := Aside0.mk H
                       clear H
                       have p101 : 0 ≤ (x8_1 : Int) := of_decide_eq_true (by first | (with_reducible assumption) | assumption)
                       have q101 : x8_1 < (l0.length : Int) := of_decide_eq_true (by first | (with_reducible assumption) | assumption)
                       obtain ⟨ad101, e101, hx101_0, hx101_1⟩ := qba HR0.out x8_1 p101 q101
                       cases e101
                       replace hx101_0 := (HB.out.cell (World.block_lt_of_cell? w _ hx101_0)).trans hx101_0
                       replace hx101_1 := (HB.out.cell (World.block_lt_of_cell? w _ hx101_1)).trans hx101_1
                       replace p101 := eq_true p101
                       replace q101 := eq_true q101
                       go_wp2_with (first | ((with_reducible refine qas (N := 5) rfl ?_); refine qar ?hg (N := 5) ?hd (cs := #[.string (⟨#[]⟩ : ByteArray), .string (⟨#[]⟩ : ByteArray)]) (t := 80) ?hr ?_; (case hd => rfl); (case hg => rfl); (case hr => first | (go_simp; done) | (go_simp; rfl)); intro gb102 hg w15 hbox hb; have n0_ := Aside0.mk (qak (by repeat (first | (with_reducible first | exact HB.out | apply qab | apply qaa | apply qac) | exact HB.out)) hb); have n1_ := Aside0.mk (hbox); have n2_ := Aside0.mk ((by rw [hg]; exact (qaj (by repeat (first | (with_reducible first | exact HB.out | apply qab | apply qaa | apply qac) | exact HB.out))) : w.heap.size ≤ gb102)); have n3_ := Aside0.mk ((by rw [hg]; exact (qaj (by repeat (first | (with_reducible first | exact HB.out | apply qab | apply qaa | apply qac) | exact HB.out))) : w.heap.size ≤ gb102)); clear HB; have HB := n0_; have BK102 := n1_; have GW102 := n2_; have GE102 := n3_; clear n0_ n1_ n2_ n3_; clear hb hbox hg; have hcz16_0 : w15.cell? ⟨gb102, 0, none⟩ = some (.string (⟨#[]⟩ : ByteArray)) := (qaf BK102.out 0).trans rfl; have hcz16_1 : w15.cell? ⟨gb102, 1, none⟩ = some (.string (⟨#[]⟩ : ByteArray)) := (qaf BK102.out 1).trans rfl; have hfz16_0 := qad BK102.out 0; have hfz16_1 := qad BK102.out 1) | (go_at_call 101; (with_reducible refine (impl_isFileName.calls ((qan l0 x8_1).f0) true _ A5.out).mono ?_); rintro e w' ⟨rfl, ⟨nd, rfl⟩⟩; (try first | exact ⟨rfl, _, World.drewN_drewN _ _ _⟩ | exact ⟨rfl, _, Eq.trans (World.drewN_drewN _ _ _) (congrArg (World.drewN _) (Nat.add_assoc _ _ _))⟩); have p104 : 0 ≤ ((ji11) : Int) := of_decide_eq_true (by first | (with_reducible assumption) | assumption); have q104 : (ji11) < (l0.length : Int) := of_decide_eq_true (by first | (with_reducible assumption) | assumption); obtain ⟨ad104, e104, hx104_0, hx104_1⟩ := qba HR0.out (ji11) p104 q104; obtain rfl : ad101 = ad104 := (by injection e104); have hn104_0 : ad101.block ≠ gb102 := Nat.ne_of_lt (Nat.lt_of_lt_of_le (by have := World.block_lt_of_cell? _ _ hx104_0; first | rwa [qau] at this | exact this) GW102.out); have hn104_1 : ad101.block ≠ gb102 := Nat.ne_of_lt (Nat.lt_of_lt_of_le (by have := World.block_lt_of_cell? _ _ hx104_0; first | rwa [qau] at this | exact this) GW102.out); replace hx104_0 := (HB.out.cell (World.block_lt_of_cell? w _ hx104_0)).trans hx104_0; replace hx104_1 := (HB.out.cell (World.block_lt_of_cell? w _ hx104_1)).trans hx104_1; replace hx104_0 := (qax (p := ⟨gb102, 0, none⟩) (by first | (rw [qau]; exact hn104_0) | (show (Addr.add _ _).block ≠ _; rw [qau]; exact hn104_0) | exact hn104_0) (.string ((qan l0 x8_1).f0))).trans hx104_0; replace hx104_1 := (qax (p := ⟨gb102, 0, none⟩) (by first | (rw [qau]; exact hn104_0) | (show (Addr.add _ _).block ≠ _; rw [qau]; exact hn104_0) | exact hn104_0) (.string ((qan l0 x8_1).f0))).trans hx104_1; replace hx104_0 := (qax (p := ⟨gb102, 1, none⟩) (by first | (rw [qau]; exact hn104_1) | (show (Addr.add _ _).block ≠ _; rw [qau]; exact hn104_1) | exact hn104_1) (.string ((qan l0 x8_1).f1))).trans hx104_0; replace hx104_1 := (qax (p := ⟨gb102, 1, none⟩) (by first | (rw [qau]; exact hn104_1) | (show (Addr.add _ _).block ≠ _; rw [qau]; exact hn104_1) | exact hn104_1) (.string ((qan l0 x8_1).f1))).trans hx104_1; (try have hy104_0 := fun (n_ : Nat) => (show ((((w15.drewN n_).setCell ⟨gb102, 0, none⟩ (.string ((qan l0 x8_1).f0))).setCell ⟨gb102, 1, none⟩ (.string ((qan l0 x8_1).f1)))).cell? _ = some _ from hx104_0)); (try have hy104_1 := fun (n_ : Nat) => (show ((((w15.drewN n_).setCell ⟨gb102, 0, none⟩ (.string ((qan l0 x8_1).f0))).setCell ⟨gb102, 1, none⟩ (.string ((qan l0 x8_1).f1)))).cell? _ = some _ from hx104_1)); clear hn104_0; clear hn104_1; replace p104 := eq_true p104; replace q104 := eq_true q104))
                       (try (have p104 : 0 ≤ ((ji11) : Int) := of_decide_eq_true (by first | (with_reducible assumption) | assumption); have q104 : (ji11) < (l0.length : Int) := of_decide_eq_true (by first | (with_reducible assumption) | assumption); obtain ⟨ad104, e104, hx104_0, hx104_1⟩ := qba HR0.out (ji11) p104 q104; obtain rfl : ad101 = ad104 := (by injection e104); have hn104_0 : ad101.block ≠ gb102 := Nat.ne_of_lt (Nat.lt_of_lt_of_le (by have := World.block_lt_of_cell? _ _ hx104_0; first | rwa [qau] at this | exact this) GW102.out); have hn104_1 : ad101.block ≠ gb102 := Nat.ne_of_lt (Nat.lt_of_lt_of_le (by have := World.block_lt_of_cell? _ _ hx104_0; first | rwa [qau] at this | exact this) GW102.out); replace hx104_0 := (HB.out.cell (World.block_lt_of_cell? w _ hx104_0)).trans hx104_0; replace hx104_1 := (HB.out.cell (World.block_lt_of_cell? w _ hx104_1)).trans hx104_1; replace hx104_0 := (qax (p := ⟨gb102, 0, none⟩) (by first | (rw [qau]; exact hn104_0) | (show (Addr.add _ _).block ≠ _; rw [qau]; exact hn104_0) | exact hn104_0) (.string ((qan l0 x8_1).f0))).trans hx104_0; replace hx104_1 := (qax (p := ⟨gb102, 0, none⟩) (by first | (rw [qau]; exact hn104_0) | (show (Addr.add _ _).block ≠ _; rw [qau]; exact hn104_0) | exact hn104_0) (.string ((qan l0 x8_1).f0))).trans hx104_1; replace hx104_0 := (qax (p := ⟨gb102, 1, none⟩) (by first | (rw [qau]; exact hn104_1) | (show (Addr.add _ _).block ≠ _; rw [qau]; exact hn104_1) | exact hn104_1) (.string ((qan l0 x8_1).f1))).trans hx104_0; replace hx104_1 := (qax (p := ⟨gb102, 1, none⟩) (by first | (rw [qau]; exact hn104_1) | (show (Addr.add _ _).block ≠ _; rw [qau]; exact hn104_1) | exact hn104_1) (.string ((qan l0 x8_1).f1))).trans hx104_1; (try have hy104_0 := fun (n_ : Nat) => (show ((((w15.drewN n_).setCell ⟨gb102, 0, none⟩ (.string ((qan l0 x8_1).f0))).setCell ⟨gb102, 1, none⟩ (.string ((qan l0 x8_1).f1)))).cell? _ = some _ from hx104_0)); (try have hy104_1 := fun (n_ : Nat) => (show ((((w15.drewN n_).setCell ⟨gb102, 0, none⟩ (.string ((qan l0 x8_1).f0))).setCell ⟨gb102, 1, none⟩ (.string ((qan l0 x8_1).f1)))).cell? _ = some _ from hx104_1)); clear hn104_0; clear hn104_1; replace p104 := eq_true p104; replace q104 := eq_true q104))
                       repeat (go_quiet (first | ((with_reducible refine qas (N := 5) rfl ?_); refine qar ?hg (N := 5) ?hd (cs := #[.string (⟨#[]⟩ : ByteArray), .string (⟨#[]⟩ : ByteArray)]) (t := 80) ?hr ?_; (case hd => rfl); (case hg => rfl); (case hr => first | (go_simp; done) | (go_simp; rfl)); intro gb102 hg w15 hbox hb; have n0_ := Aside0.mk (qak (by repeat (first | (with_reducible first | exact HB.out | apply qab | apply qaa | apply qac) | exact HB.out)) hb); have n1_ := Aside0.mk (hbox); have n2_ := Aside0.mk ((by rw [hg]; exact (qaj (by repeat (first | (with_reducible first | exact HB.out | apply qab | apply qaa | apply qac) | exact HB.out))) : w.heap.size ≤ gb102)); have n3_ := Aside0.mk ((by rw [hg]; exact (qaj (by repeat (first | (with_reducible first | exact HB.out | apply qab | apply qaa | apply qac) | exact HB.out))) : w.heap.size ≤ gb102)); clear HB; have HB := n0_; have BK102 := n1_; have GW102 := n2_; have GE102 := n3_; clear n0_ n1_ n2_ n3_; clear hb hbox hg; have hcz16_0 : w15.cell? ⟨gb102, 0, none⟩ = some (.string (⟨#[]⟩ : ByteArray)) := (qaf BK102.out 0).trans rfl; have hcz16_1 : w15.cell? ⟨gb102, 1, none⟩ = some (.string (⟨#[]⟩ : ByteArray)) := (qaf BK102.out 1).trans rfl; have hfz16_0 := qad BK102.out 0; have hfz16_1 := qad BK102.out 1) | (go_at_call 101; (with_reducible refine (impl_isFileName.calls ((qan l0 x8_1).f0) true _ A5.out).mono ?_); rintro e w' ⟨rfl, ⟨nd, rfl⟩⟩; (try first | exact ⟨rfl, _, World.drewN_drewN _ _ _⟩ | exact ⟨rfl, _, Eq.trans (World.drewN_drewN _ _ _) (congrArg (World.drewN _) (Nat.add_assoc _ _ _))⟩))); try go_wp2_with (first | ((with_reducible refine qas (N := 5) rfl ?_); refine qar ?hg (N := 5) ?hd (cs := #[.string (⟨#[]⟩ : ByteArray), .string (⟨#[]⟩ : ByteArray)]) (t := 80) ?hr ?_; (case hd => rfl); (case hg => rfl); (case hr => first | (go_simp; done) | (go_simp; rfl)); intro gb102 hg w15 hbox hb; have n0_ := Aside0.mk (qak (by repeat (first | (with_reducible first | exact HB.out | apply qab | apply qaa | apply qac) | exact HB.out)) hb); have n1_ := Aside0.mk (hbox); have n2_ := Aside0.mk ((by rw [hg]; exact (qaj (by repeat (first | (with_reducible first | exact HB.out | apply qab | apply qaa | apply qac) | exact HB.out))) : w.heap.size ≤ gb102)); have n3_ := Aside0.mk ((by rw [hg]; exact (qaj (by repeat (first | (with_reducible first | exact HB.out | apply qab | apply qaa | apply qac) | exact HB.out))) : w.heap.size ≤ gb102)); clear HB; have HB := n0_; have BK102 := n1_; have GW102 := n2_; have GE102 := n3_; clear n0_ n1_ n2_ n3_; clear hb hbox hg; have hcz16_0 : w15.cell? ⟨gb102, 0, none⟩ = some (.string (⟨#[]⟩ : ByteArray)) := (qaf BK102.out 0).trans rfl; have hcz16_1 : w15.cell? ⟨gb102, 1, none⟩ = some (.string (⟨#[]⟩ : ByteArray)) := (qaf BK102.out 1).trans rfl; have hfz16_0 := qad BK102.out 0; have hfz16_1 := qad BK102.out 1) | (go_at_call 101; (with_reducible refine (impl_isFileName.calls ((qan l0 x8_1).f0) true _ A5.out).mono ?_); rintro e w' ⟨rfl, ⟨nd, rfl⟩⟩; (try first | exact ⟨rfl, _, World.drewN_drewN _ _ _⟩ | exact ⟨rfl, _, Eq.trans (World.drewN_drewN _ _ _) (congrArg (World.drewN _) (Nat.add_assoc _ _ _))⟩); have p104 : 0 ≤ ((ji11) : Int) := of_decide_eq_true (by first | (with_reducible assumption) | assumption); have q104 : (ji11) < (l0.length : Int) := of_decide_eq_true (by first | (with_reducible assumption) | assumption); obtain ⟨ad104, e104, hx104_0, hx104_1⟩ := qba HR0.out (ji11) p104 q104; obtain rfl : ad101 = ad104 := (by injection e104); have hn104_0 : ad101.block ≠ gb102 := Nat.ne_of_lt (Nat.lt_of_lt_of_le (by have := World.block_lt_of_cell? _ _ hx104_0; first | rwa [qau] at this | exact this) GW102.out); have hn104_1 : ad101.block ≠ gb102 := Nat.ne_of_lt (Nat.lt_of_lt_of_le (by have := World.block_lt_of_cell? _ _ hx104_0; first | rwa [qau] at this | exact this) GW102.out); replace hx104_0 := (HB.out.cell (World.block_lt_of_cell? w _ hx104_0)).trans hx104_0; replace hx104_1 := (HB.out.cell (World.block_lt_of_cell? w _ hx104_1)).trans hx104_1; replace hx104_0 := (qax (p := ⟨gb102, 0, none⟩) (by first | (rw [qau]; exact hn104_0) | (show (Addr.add _ _).block ≠ _; rw [qau]; exact hn104_0) | exact hn104_0) (.string ((qan l0 x8_1).f0))).trans hx104_0; replace hx104_1 := (qax (p := ⟨gb102, 0, none⟩) (by first | (rw [qau]; exact hn104_0) | (show (Addr.add _ _).block ≠ _; rw [qau]; exact hn104_0) | exact hn104_0) (.string ((qan l0 x8_1).f0))).trans hx104_1; replace hx104_0 := (qax (p := ⟨gb102, 1, none⟩) (by first | (rw [qau]; exact hn104_1) | (show (Addr.add _ _).block ≠ _; rw [qau]; exact hn104_1) | exact hn104_1) (.string ((qan l0 x8_1).f1))).trans hx104_0; replace hx104_1 := (qax (p := ⟨gb102, 1, none⟩) (by first | (rw [qau]; exact hn104_1) | (show (Addr.add _ _).block ≠ _; rw [qau]; exact hn104_1) | exact hn104_1) (.string ((qan l0 x8_1).f1))).trans hx104_1; (try have hy104_0 := fun (n_ : Nat) => (show ((((w15.drewN n_).setCell ⟨gb102, 0, none⟩ (.string ((qan l0 x8_1).f0))).setCell ⟨gb102, 1, none⟩ (.string ((qan l0 x8_1).f1)))).cell? _ = some _ from hx104_0)); (try have hy104_1 := fun (n_ : Nat) => (show ((((w15.drewN n_).setCell ⟨gb102, 0, none⟩ (.string ((qan l0 x8_1).f0))).setCell ⟨gb102, 1, none⟩ (.string ((qan l0 x8_1).f1)))).cell? _ = some _ from hx104_1)); clear hn104_0; clear hn104_1; replace p104 := eq_true p104; replace q104 := eq_true q104)))
                       go_roundg k1
                       case measure => have := HK1.out; omega
                       case rel => exact ⟨(wrap64 (x3_1 + (((qan l0 x8_1).f1).size : Int))), (wrap64 (x8_1 + 1)), (by first | rfl | (simp; done) | (simp [*]; done)), (by first | rfl | (simp; done) | (simp [*]; done)), H', ⟨by have := HK1.out; omega⟩, ⟨by repeat (first | (with_reducible first | exact HB.out | apply qab | apply qaa | apply qac | refine qae ?_ GE102.out) | exact HB.out)⟩⟩
                     · rw [if_neg c14] at H
                       have c14b0 : (Op.bytesLess (((qan l0 (ji11)).f0).toList) (((qan l0 x8_1).f0).toList)) = false := by simpa using c14
                       clear c14
                       obtain rfl := Option.some.inj H
                       have p101 : 0 ≤ (x8_1 : Int) := of_decide_eq_true (by first | (with_reducible assumption) | assumption)
                       have q101 : x8_1 < (l0.length : Int) := of_decide_eq_true (by first | (with_reducible assumption) | assumption)
                       obtain ⟨ad101, e101, hx101_0, hx101_1⟩ := qba HR0.out x8_1 p101 q101
                       cases e101
                       replace hx101_0 := (HB.out.cell (World.block_lt_of_cell? w _ hx101_0)).trans hx101_0
                       replace hx101_1 := (HB.out.cell (World.block_lt_of_cell? w _ hx101_1)).trans hx101_1
                       replace p101 := eq_true p101
                       replace q101 := eq_true q101
                       go_wp2_with (first | ((with_reducible refine qas (N := 5) rfl ?_); refine qar ?hg (N := 5) ?hd (cs := #[.string (⟨#[]⟩ : ByteArray), .string (⟨#[]⟩ : ByteArray)]) (t := 80) ?hr ?_; (case hd => rfl); (case hg => rfl); (case hr => first | (go_simp; done) | (go_simp; rfl)); intro gb102 hg w17 hbox hb; have n0_ := Aside0.mk (qak (by repeat (first | (with_reducible first | exact HB.out | apply qab | apply qaa | apply qac) | exact HB.out)) hb); have n1_ := Aside0.mk (hbox); have n2_ := Aside0.mk ((by rw [hg]; exact (qaj (by repeat (first | (with_reducible first | exact HB.out | apply qab | apply qaa | apply qac) | exact HB.out))) : w.heap.size ≤ gb102)); have n3_ := Aside0.mk ((by rw [hg]; exact (qaj (by repeat (first | (with_reducible first | exact HB.out | apply qab | apply qaa | apply qac) | exact HB.out))) : w.heap.size ≤ gb102)); clear HB; have HB := n0_; have BK102 := n1_; have GW102 := n2_; have GE102 := n3_; clear n0_ n1_ n2_ n3_; clear hb hbox hg; have hcz18_0 : w17.cell? ⟨gb102, 0, none⟩ = some (.string (⟨#[]⟩ : ByteArray)) := (qaf BK102.out 0).trans rfl; have hcz18_1 : w17.cell? ⟨gb102, 1, none⟩ = some (.string (⟨#[]⟩ : ByteArray)) := (qaf BK102.out 1).trans rfl; have hfz18_0 := qad BK102.out 0; have hfz18_1 := qad BK102.out 1) | (go_at_call 101; (with_reducible refine (impl_isFileName.calls ((qan l0 x8_1).f0) true _ A5.out).mono ?_); rintro e w' ⟨rfl, ⟨nd, rfl⟩⟩; (try first | exact ⟨rfl, _, World.drewN_drewN _ _ _⟩ | exact ⟨rfl, _, Eq.trans (World.drewN_drewN _ _ _) (congrArg (World.drewN _) (Nat.add_assoc _ _ _))⟩); have p104 : 0 ≤ ((ji11) : Int) := of_decide_eq_true (by first | (with_reducible assumption) | assumption); have q104 : (ji11) < (l0.length : Int) := of_decide_eq_true (by first | (with_reducible assumption) | assumption); obtain ⟨ad104, e104, hx104_0, hx104_1⟩ := qba HR0.out (ji11) p104 q104; obtain rfl : ad101 = ad104 := (by injection e104); have hn104_0 : ad101.block ≠ gb102 := Nat.ne_of_lt (Nat.lt_of_lt_of_le (by have := World.block_lt_of_cell? _ _ hx104_0; first | rwa [qau] at this | exact this) GW102.out); have hn104_1 : ad101.block ≠ gb102 := Nat.ne_of_lt (Nat.lt_of_lt_of_le (by have := World.block_lt_of_cell? _ _ hx104_0; first | rwa [qau] at this | exact this) GW102.out); replace hx104_0 := (HB.out.cell (World.block_lt_of_cell? w _ hx104_0)).trans hx104_0; replace hx104_1 := (HB.out.cell (World.block_lt_of_cell? w _ hx104_1)).trans hx104_1; replace hx104_0 := (qax (p := ⟨gb102, 0, none⟩) (by first | (rw [qau]; exact hn104_0) | (show (Addr.add _ _).block ≠ _; rw [qau]; exact hn104_0) | exact hn104_0) (.string ((qan l0 x8_1).f0))).trans hx104_0; replace hx104_1 := (qax (p := ⟨gb102, 0, none⟩) (by first | (rw [qau]; exact hn104_0) | (show (Addr.add _ _).block ≠ _; rw [qau]; exact hn104_0) | exact hn104_0) (.string ((qan l0 x8_1).f0))).trans hx104_1; replace hx104_0 := (qax (p := ⟨gb102, 1, none⟩) (by first | (rw [qau]; exact hn104_1) | (show (Addr.add _ _).block ≠ _; rw [qau]; exact hn104_1) | exact hn104_1) (.string ((qan l0 x8_1).f1))).trans hx104_0; replace hx104_1 := (qax (p := ⟨gb102, 1, none⟩) (by first | (rw [qau]; exact hn104_1) | (show (Addr.add _ _).block ≠ _; rw [qau]; exact hn104_1) | exact hn104_1) (.string ((qan l0 x8_1).f1))).trans hx104_1; (try have hy104_0 := fun (n_ : Nat) => (show ((((w17.drewN n_).setCell ⟨gb102, 0, none⟩ (.string ((qan l0 x8_1).f0))).setCell ⟨gb102, 1, none⟩ (.string ((qan l0 x8_1).f1)))).cell? _ = some _ from hx104_0)); (try have hy104_1 := fun (n_ : Nat) => (show ((((w17.drewN n_).setCell ⟨gb102, 0, none⟩ (.string ((qan l0 x8_1).f0))).setCell ⟨gb102, 1, none⟩ (.string ((qan l0 x8_1).f1)))).cell? _ = some _ from hx104_1)); clear hn104_0; clear hn104_1; replace p104 := eq_true p104; replace q104 := eq_true q104))
                       (try (have p104 : 0 ≤ ((ji11) : Int) := of_decide_eq_true (by first | (with_reducible assumption) | assumption); have q104 : (ji11) < (l0.length : Int) := of_decide_eq_true (by first | (with_reducible assumption) | assumption); obtain ⟨ad104, e104, hx104_0, hx104_1⟩ := qba HR0.out (ji11) p104 q104; obtain rfl : ad101 = ad104 := (by injection e104); have hn104_0 : ad101.block ≠ gb102 := Nat.ne_of_lt (Nat.lt_of_lt_of_le (by have := World.block_lt_of_cell? _ _ hx104_0; first | rwa [qau] at this | exact this) GW102.out); have hn104_1 : ad101.block ≠ gb102 := Nat.ne_of_lt (Nat.lt_of_lt_of_le (by have := World.block_lt_of_cell? _ _ hx104_0; first | rwa [qau] at this | exact this) GW102.out); replace hx104_0 := (HB.out.cell (World.block_lt_of_cell? w _ hx104_0)).trans hx104_0; replace hx104_1 := (HB.out.cell (World.block_lt_of_cell? w _ hx104_1)).trans hx104_1; replace hx104_0 := (qax (p := ⟨gb102, 0, none⟩) (by first | (rw [qau]; exact hn104_0) | (show (Addr.add _ _).block ≠ _; rw [qau]; exact hn104_0) | exact hn104_0) (.string ((qan l0 x8_1).f0))).trans hx104_0; replace hx104_1 := (qax (p := ⟨gb102, 0, none⟩) (by first | (rw [qau]; exact hn104_0) | (show (Addr.add _ _).block ≠ _; rw [qau]; exact hn104_0) | exact hn104_0) (.string ((qan l0 x8_1).f0))).trans hx104_1; replace hx104_0 := (qax (p := ⟨gb102, 1, none⟩) (by first | (rw [qau]; exact hn104_1) | (show (Addr.add _ _).block ≠ _; rw [qau]; exact hn104_1) | exact hn104_1) (.string ((qan l0 x8_1).f1))).trans hx104_0; replace hx104_1 := (qax (p := ⟨gb102, 1, none⟩) (by first | (rw [qau]; exact hn104_1) | (show (Addr.add _ _).block ≠ _; rw [qau]; exact hn104_1) | exact hn104_1) (.string ((qan l0 x8_1).f1))).trans hx104_1; (try have hy104_0 := fun (n_ : Nat) => (show ((((w17.drewN n_).setCell ⟨gb102, 0, none⟩ (.string ((qan l0 x8_1).f0))).setCell ⟨gb102, 1, none⟩ (.string ((qan l0 x8_1).f1)))).cell? _ = some _ from hx104_0)); (try have hy104_1 := fun (n_ : Nat) => (show ((((w17.drewN n_).setCell ⟨gb102, 0, none⟩ (.string ((qan l0 x8_1).f0))).setCell ⟨gb102, 1, none⟩ (.string ((qan l0 x8_1).f1)))).cell? _ = some _ from hx104_1)); clear hn104_0; clear hn104_1; replace p104 := eq_true p104; replace q104 := eq_true q104))
                       repeat (go_quiet (first | ((with_reducible refine qas (N := 5) rfl ?_); refine qar ?hg (N := 5) ?hd (cs := #[.string (⟨#[]⟩ : ByteArray), .string (⟨#[]⟩ : ByteArray)]) (t := 80) ?hr ?_; (case hd => rfl); (case hg => rfl); (case hr => first | (go_simp; done) | (go_simp; rfl)); intro gb102 hg w17 hbox hb; have n0_ := Aside0.mk (qak (by repeat (first | (with_reducible first | exact HB.out | apply qab | apply qaa | apply qac) | exact HB.out)) hb); have n1_ := Aside0.mk (hbox); have n2_ := Aside0.mk ((by rw [hg]; exact (qaj (by repeat (first | (with_reducible first | exact HB.out | apply qab | apply qaa | apply qac) | exact HB.out))) : w.heap.size ≤ gb102)); have n3_ := Aside0.mk ((by rw [hg]; exact (qaj (by repeat (first | (with_reducible first | exact HB.out | apply qab | apply qaa | apply qac) | exact HB.out))) : w.heap.size ≤ gb102)); clear HB; have HB := n0_; have BK102 := n1_; have GW102 := n2_; have GE102 := n3_; clear n0_ n1_ n2_ n3_; clear hb hbox hg; have hcz18_0 : w17.cell? ⟨gb102, 0, none⟩ = some (.string (⟨#[]⟩ : ByteArray)) := (qaf BK102.out 0).trans rfl; have hcz18_1 : w17.cell? ⟨gb102, 1, none⟩ = some (.string (⟨#[]⟩ : ByteArray)) := (qaf BK102.out 1).trans rfl; have hfz18_0 := qad BK102.out 0; have hfz18_1 := qad BK102.out 1) | (go_at_call 101; (with_reducible refine (impl_isFileName.calls ((qan l0 x8_1).f0) true _ A5.out).mono ?_); rintro e w' ⟨rfl, ⟨nd, rfl⟩⟩; (try first | exact ⟨rfl, _, World.drewN_drewN _ _ _⟩ | exact ⟨rfl, _, Eq.trans (World.drewN_drewN _ _ _) (congrArg (World.drewN _) (Nat.add_assoc _ _ _))⟩))); try go_wp2_with (first | ((with_reducible refine qas (N := 5) rfl ?_); refine qar ?hg (N := 5) ?hd (cs := #[.string (⟨#[]⟩ : ByteArray), .string (⟨#[]⟩ : ByteArray)]) (t := 80) ?hr ?_; (case hd => rfl); (case hg => rfl); (case hr => first | (go_simp; done) | (go_simp; rfl)); intro gb102 hg w17 hbox hb; have n0_ := Aside0.mk (qak (by repeat (first | (with_reducible first | exact HB.out | apply qab | apply qaa | apply qac) | exact HB.out)) hb); have n1_ := Aside0.mk (hbox); have n2_ := Aside0.mk ((by rw [hg]; exact (qaj (by repeat (first | (with_reducible first | exact HB.out | apply qab | apply qaa | apply qac) | exact HB.out))) : w.heap.size ≤ gb102)); have n3_ := Aside0.mk ((by rw [hg]; exact (qaj (by repeat (first | (with_reducible first | exact HB.out | apply qab | apply qaa | apply qac) | exact HB.out))) : w.heap.size ≤ gb102)); clear HB; have HB := n0_; have BK102 := n1_; have GW102 := n2_; have GE102 := n3_; clear n0_ n1_ n2_ n3_; clear hb hbox hg; have hcz18_0 : w17.cell? ⟨gb102, 0, none⟩ = some (.string (⟨#[]⟩ : ByteArray)) := (qaf BK102.out 0).trans rfl; have hcz18_1 : w17.cell? ⟨gb102, 1, none⟩ = some (.string (⟨#[]⟩ : ByteArray)) := (qaf BK102.out 1).trans rfl; have hfz18_0 := qad BK102.out 0; have hfz18_1 := qad BK102.out 1) | (go_at_call 101; (with_reducible refine (impl_isFileName.calls ((qan l0 x8_1).f0) true _ A5.out).mono ?_); rintro e w' ⟨rfl, ⟨nd, rfl⟩⟩; (try first | exact ⟨rfl, _, World.drewN_drewN _ _ _⟩ | exact ⟨rfl, _, Eq.trans (World.drewN_drewN _ _ _) (congrArg (World.drewN _) (Nat.add_assoc _ _ _))⟩); have p104 : 0 ≤ ((ji11) : Int) := of_decide_eq_true (by first | (with_reducible assumption) | assumption); have q104 : (ji11) < (l0.length : Int) := of_decide_eq_true (by first | (with_reducible assumption) | assumption); obtain ⟨ad104, e104, hx104_0, hx104_1⟩ := qba HR0.out (ji11) p104 q104; obtain rfl : ad101 = ad104 := (by injection e104); have hn104_0 : ad101.block ≠ gb102 := Nat.ne_of_lt (Nat.lt_of_lt_of_le (by have := World.block_lt_of_cell? _ _ hx104_0; first | rwa [qau] at this | exact this) GW102.out); have hn104_1 : ad101.block ≠ gb102 := Nat.ne_of_lt (Nat.lt_of_lt_of_le (by have := World.block_lt_of_cell? _ _ hx104_0; first | rwa [qau] at this | exact this) GW102.out); replace hx104_0 := (HB.out.cell (World.block_lt_of_cell? w _ hx104_0)).trans hx104_0; replace hx104_1 := (HB.out.cell (World.block_lt_of_cell? w _ hx104_1)).trans hx104_1; replace hx104_0 := (qax (p := ⟨gb102, 0, none⟩) (by first | (rw [qau]; exact hn104_0) | (show (Addr.add _ _).block ≠ _; rw [qau]; exact hn104_0) | exact hn104_0) (.string ((qan l0 x8_1).f0))).trans hx104_0; replace hx104_1 := (qax (p := ⟨gb102, 0, none⟩) (by first | (rw [qau]; exact hn104_0) | (show (Addr.add _ _).block ≠ _; rw [qau]; exact hn104_0) | exact hn104_0) (.string ((qan l0 x8_1).f0))).trans hx104_1; replace hx104_0 := (qax (p := ⟨gb102, 1, none⟩) (by first | (rw [qau]; exact hn104_1) | (show (Addr.add _ _).block ≠ _; rw [qau]; exact hn104_1) | exact hn104_1) (.string ((qan l0 x8_1).f1))).trans hx104_0; replace hx104_1 := (qax (p := ⟨gb102, 1, none⟩) (by first | (rw [qau]; exact hn104_1) | (show (Addr.add _ _).block ≠ _; rw [qau]; exact hn104_1) | exact hn104_1) (.string ((qan l0 x8_1).f1))).trans hx104_1; (try have hy104_0 := fun (n_ : Nat) => (show ((((w17.drewN n_).setCell ⟨gb102, 0, none⟩ (.string ((qan l0 x8_1).f0))).setCell ⟨gb102, 1, none⟩ (.string ((qan l0 x8_1).f1)))).cell? _ = some _ from hx104_0)); (try have hy104_1 := fun (n_ : Nat) => (show ((((w17.drewN n_).setCell ⟨gb102, 0, none⟩ (.string ((qan l0 x8_1).f0))).setCell ⟨gb102, 1, none⟩ (.string ((qan l0 x8_1).f1)))).cell? _ = some _ from hx104_1)); clear hn104_0; clear hn104_1; replace p104 := eq_true p104; replace q104 := eq_true q104)))
                       go_ret
                       exact ⟨by first | rfl | (simp [qal, qam] <;> rfl) | (simp only [← hji11]; first | rfl | (simp [qal, qam] <;> rfl)) | (simp [*, qal, qam] <;> rfl), by repeat (first | (with_reducible first | exact HB.out | apply qab | apply qaa | apply qac | refine qae ?_ GE102.out) | exact HB.out)⟩
                   · rw [if_neg c13] at H
                     exact absurd H (by simp)
                 · rw [if_neg c12] at H
                   exact absurd H (by simp)
               · rw [if_neg c10] at H
                 have c10b0 : decide (0 < x8_1) = false := decide_eq_false c10
                 clear c10
                 have H' := Aside0.mk H
                 clear H
                 have p101 : 0 ≤ (x8_1 : Int) := of_decide_eq_true (by first | (with_reducible assumption) | assumption)
                 have q101 : x8_1 < (l0.length : Int) := of_decide_eq_true (by first | (with_reducible assumption) | assumption)
                 obtain ⟨ad101, e101, hx101_0, hx101_1⟩ := qba HR0.out x8_1 p101 q101
                 cases e101
                 replace hx101_0 := (HB.out.cell (World.block_lt_of_cell? w _ hx101_0)).trans hx101_0
                 replace hx101_1 := (HB.out.cell (World.block_lt_of_cell? w _ hx101_1)).trans hx101_1
                 replace p101 := eq_true p101
                 replace q101 := eq_true q101
                 go_wp2_with (first | ((with_reducible refine qas (N := 5) rfl ?_); refine qar ?hg (N := 5) ?hd (cs := #[.string (⟨#[]⟩ : ByteArray), .string (⟨#[]⟩ : ByteArray)]) (t := 80) ?hr ?_; (case hd => rfl); (case hg => rfl); (case hr => first | (go_simp; done) | (go_simp; rfl)); intro gb102 hg w19 hbox hb; have n0_ := Aside0.mk (qak (by repeat (first | (with_reducible first | exact HB.out | apply qab | apply qaa | apply qac) | exact HB.out)) hb); have n1_ := Aside0.mk (hbox); have n2_ := Aside0.mk ((by rw [hg]; exact (qaj (by repeat (first | (with_reducible first | exact HB.out | apply qab | apply qaa | apply qac) | exact HB.out))) : w.heap.size ≤ gb102)); have n3_ := Aside0.mk ((by rw [hg]; exact (qaj (by repeat (first | (with_reducible first | exact HB.out | apply qab | apply qaa | apply qac) | exact HB.out))) : w.heap.size ≤ gb102)); clear HB; have HB := n0_; have BK102 := n1_; have GW102 := n2_; have GE102 := n3_; clear n0_ n1_ n2_ n3_; clear hb hbox hg; have hcz20_0 : w19.cell? ⟨gb102, 0, none⟩ = some (.string (⟨#[]⟩ : ByteArray)) := (qaf BK102.out 0).trans rfl; have hcz20_1 : w19.cell? ⟨gb102, 1, none⟩ = some (.string (⟨#[]⟩ : ByteArray)) := (qaf BK102.out 1).trans rfl; have hfz20_0 := qad BK102.out 0; have hfz20_1 := qad BK102.out 1) | (go_at_call 101; (with_reducible refine (impl_isFileName.calls ((qan l0 x8_1).f0) true _ A5.out).mono ?_); rintro e w' ⟨rfl, ⟨nd, rfl⟩⟩; (try first | exact ⟨rfl, _, World.drewN_drewN _ _ _⟩ | exact ⟨rfl, _, Eq.trans (World.drewN_drewN _ _ _) (congrArg (World.drewN _) (Nat.add_assoc _ _ _))⟩)))
                 repeat (go_quiet (first | ((with_reducible refine qas (N := 5) rfl ?_); refine qar ?hg (N := 5) ?hd (cs := #[.string (⟨#[]⟩ : ByteArray), .string (⟨#[]⟩ : ByteArray)]) (t := 80) ?hr ?_; (case hd => rfl); (case hg => rfl); (case hr => first | (go_simp; done) | (go_simp; rfl)); intro gb102 hg w19 hbox hb; have n0_ := Aside0.mk (qak (by repeat (first | (with_reducible first | exact HB.out | apply qab | apply qaa | apply qac) | exact HB.out)) hb); have n1_ := Aside0.mk (hbox); have n2_ := Aside0.mk ((by rw [hg]; exact (qaj (by repeat (first | (with_reducible first | exact HB.out | apply qab | apply qaa | apply qac) | exact HB.out))) : w.heap.size ≤ gb102)); have n3_ := Aside0.mk ((by rw [hg]; exact (qaj (by repeat (first | (with_reducible first | exact HB.out | apply qab | apply qaa | apply qac) | exact HB.out))) : w.heap.size ≤ gb102)); clear HB; have HB := n0_; have BK102 := n1_; have GW102 := n2_; have GE102 := n3_; clear n0_ n1_ n2_ n3_; clear hb hbox hg; have hcz20_0 : w19.cell? ⟨gb102, 0, none⟩ = some (.string (⟨#[]⟩ : ByteArray)) := (qaf BK102.out 0).trans rfl; have hcz20_1 : w19.cell? ⟨gb102, 1, none⟩ = some (.string (⟨#[]⟩ : ByteArray)) := (qaf BK102.out 1).trans rfl; have hfz20_0 := qad BK102.out 0; have hfz20_1 := qad BK102.out 1) | (go_at_call 101; (with_reducible refine (impl_isFileName.calls ((qan l0 x8_1).f0) true _ A5.out).mono ?_); rintro e w' ⟨rfl, ⟨nd, rfl⟩⟩; (try first | exact ⟨rfl, _, World.drewN_drewN _ _ _⟩ | exact ⟨rfl, _, Eq.trans (World.drewN_drewN _ _ _) (congrArg (World.drewN _) (Nat.add_assoc _ _ _))⟩))); try go_wp2_with (first | ((with_reducible refine qas (N := 5) rfl ?_); refine qar ?hg (N := 5) ?hd (cs := #[.string (⟨#[]⟩ : ByteArray), .string (⟨#[]⟩ : ByteArray)]) (t := 80) ?hr ?_; (case hd => rfl); (case hg => rfl); (case hr => first | (go_simp; done) | (go_simp; rfl)); intro gb102 hg w19 hbox hb; have n0_ := Aside0.mk (qak (by repeat (first | (with_reducible first | exact HB.out | apply qab | apply qaa | apply qac) | exact HB.out)) hb); have n1_ := Aside0.mk (hbox); have n2_ := Aside0.mk ((by rw [hg]; exact (qaj (by repeat (first | (with_reducible first | exact HB.out | apply qab | apply qaa | apply qac) | exact HB.out))) : w.heap.size ≤ gb102)); have n3_ := Aside0.mk ((by rw [hg]; exact (qaj (by repeat (first | (with_reducible first | exact HB.out | apply qab | apply qaa | apply qac) | exact HB.out))) : w.heap.size ≤ gb102)); clear HB; have HB := n0_; have BK102 := n1_; have GW102 := n2_; have GE102 := n3_; clear n0_ n1_ n2_ n3_; clear hb hbox hg; have hcz20_0 : w19.cell? ⟨gb102, 0, none⟩ = some (.string (⟨#[]⟩ : ByteArray)) := (qaf BK102.out 0).trans rfl; have hcz20_1 : w19.cell? ⟨gb102, 1, none⟩ = some (.string (⟨#[]⟩ : ByteArray)) := (qaf BK102.out 1).trans rfl; have hfz20_0 := qad BK102.out 0; have hfz20_1 := qad BK102.out 1) | (go_at_call 101; (with_reducible refine (impl_isFileName.calls ((qan l0 x8_1).f0) true _ A5.out).mono ?_); rintro e w' ⟨rfl, ⟨nd, rfl⟩⟩; (try first | exact ⟨rfl, _, World.drewN_drewN _ _ _⟩ | exact ⟨rfl, _, Eq.trans (World.drewN_drewN _ _ _) (congrArg (World.drewN _) (Nat.add_assoc _ _ _))⟩))))
                 go_roundg k1
                 case measure => have := HK1.out; omega
                 case rel => exact ⟨(wrap64 (x3_1 + (((qan l0 x8_1).f1).size : Int))), (wrap64 (x8_1 + 1)), (by first | rfl | (simp; done) | (simp [*]; done)), (by first | rfl | (simp; done) | (simp [*]; done)), H', ⟨by have := HK1.out; omega⟩, ⟨by repeat (first | (with_reducible first | exact HB.out | apply qab | apply qaa | apply qac | refine qae ?_ GE102.out) | exact HB.out)⟩⟩
           · replace c6 := Bool.eq_false_iff.mpr c6
             subst c6
             have H1 : (some false) = some r := by rw [if_neg (show ¬ (false = true) by decide)] at H; exact H
             clear H
             have H := H1
             clear H1
             obtain rfl := Option.some.inj H
             have p101 : 0 ≤ (x8_1 : Int) := of_decide_eq_true (by first | (with_reducible assumption) | assumption)
             have q101 : x8_1 < (l0.length : Int) := of_decide_eq_true (by first | (with_reducible assumption) | assumption)
             obtain ⟨ad101, e101, hx101_0, hx101_1⟩ := qba HR0.out x8_1 p101 q101
             cases e101
             replace hx101_0 := (HB.out.cell (World.block_lt_of_cell? w _ hx101_0)).trans hx101_0
             replace hx101_1 := (HB.out.cell (World.block_lt_of_cell? w _ hx101_1)).trans hx101_1
             replace p101 := eq_true p101
             replace q101 := eq_true q101
             go_wp2_with (first | ((with_reducible refine qas (N := 5) rfl ?_); refine qar ?hg (N := 5) ?hd (cs := #[.string (⟨#[]⟩ : ByteArray), .string (⟨#[]⟩ : ByteArray)]) (t := 80) ?hr ?_; (case hd => rfl); (case hg => rfl); (case hr => first | (go_simp; done) | (go_simp; rfl)); intro gb102 hg w21 hbox hb; have n0_ := Aside0.mk (qak (by repeat (first | (with_reducible first | exact HB.out | apply qab | apply qaa | apply qac) | exact HB.out)) hb); have n1_ := Aside0.mk (hbox); have n2_ := Aside0.mk ((by rw [hg]; exact (qaj (by repeat (first | (with_reducible first | exact HB.out | apply qab | apply qaa | apply qac) | exact HB.out))) : w.heap.size ≤ gb102)); have n3_ := Aside0.mk ((by rw [hg]; exact (qaj (by repeat (first | (with_reducible first | exact HB.out | apply qab | apply qaa | apply qac) | exact HB.out))) : w.heap.size ≤ gb102)); clear HB; have HB := n0_; have BK102 := n1_; have GW102 := n2_; have GE102 := n3_; clear n0_ n1_ n2_ n3_; clear hb hbox hg; have hcz22_0 : w21.cell? ⟨gb102, 0, none⟩ = some (.string (⟨#[]⟩ : ByteArray)) := (qaf BK102.out 0).trans rfl; have hcz22_1 : w21.cell? ⟨gb102, 1, none⟩ = some (.string (⟨#[]⟩ : ByteArray)) := (qaf BK102.out 1).trans rfl; have hfz22_0 := qad BK102.out 0; have hfz22_1 := qad BK102.out 1) | (go_at_call 101; (with_reducible refine (impl_isFileName.calls ((qan l0 x8_1).f0) false _ A5.out).mono ?_); rintro e w' ⟨rfl, ⟨nd, rfl⟩⟩; (try first | exact ⟨rfl, _, World.drewN_drewN _ _ _⟩ | exact ⟨rfl, _, Eq.trans (World.drewN_drewN _ _ _) (congrArg (World.drewN _) (Nat.add_assoc _ _ _))⟩)))
             repeat (go_quiet (first | ((with_reducible refine qas (N := 5) rfl ?_); refine qar ?hg (N := 5) ?hd (cs := #[.string (⟨#[]⟩ : ByteArray), .string (⟨#[]⟩ : ByteArray)]) (t := 80) ?hr ?_; (case hd => rfl); (case hg => rfl); (case hr => first | (go_simp; done) | (go_simp; rfl)); intro gb102 hg w21 hbox hb; have n0_ := Aside0.mk (qak (by repeat (first | (with_reducible first | exact HB.out | apply qab | apply qaa | apply qac) | exact HB.out)) hb); have n1_ := Aside0.mk (hbox); have n2_ := Aside0.mk ((by rw [hg]; exact (qaj (by repeat (first | (with_reducible first | exact HB.out | apply qab | apply qaa | apply qac) | exact HB.out))) : w.heap.size ≤ gb102)); have n3_ := Aside0.mk ((by rw [hg]; exact (qaj (by repeat (first | (with_reducible first | exact HB.out | apply qab | apply qaa | apply qac) | exact HB.out))) : w.heap.size ≤ gb102)); clear HB; have HB := n0_; have BK102 := n1_; have GW102 := n2_; have GE102 := n3_; clear n0_ n1_ n2_ n3_; clear hb hbox hg; have hcz22_0 : w21.cell? ⟨gb102, 0, none⟩ = some (.string (⟨#[]⟩ : ByteArray)) := (qaf BK102.out 0).trans rfl; have hcz22_1 : w21.cell? ⟨gb102, 1, none⟩ = some (.string (⟨#[]⟩ : ByteArray)) := (qaf BK102.out 1).trans rfl; have hfz22_0 := qad BK102.out 0; have hfz22_1 := qad BK102.out 1) | (go_at_call 101; (with_reducible refine (impl_isFileName.calls ((qan l0 x8_1).f0) false _ A5.out).mono ?_); rintro e w' ⟨rfl, ⟨nd, rfl⟩⟩; (try first | exact ⟨rfl, _, World.drewN_drewN _ _ _⟩ | exact ⟨rfl, _, Eq.trans (World.drewN_drewN _ _ _) (congrArg (World.drewN _) (Nat.add_assoc _ _ _))⟩))); try go_wp2_with (first | ((with_reducible refine qas (N := 5) rfl ?_); refine qar ?hg (N := 5) ?hd (cs := #[.string (⟨#[]⟩ : ByteArray), .string (⟨#[]⟩ : ByteArray)]) (t := 80) ?hr ?_; (case hd => rfl); (case hg => rfl); (case hr => first | (go_simp; done) | (go_simp; rfl)); intro gb102 hg w21 hbox hb; have n0_ := Aside0.mk (qak (by repeat (first | (with_reducible first | exact HB.out | apply qab | apply qaa | apply qac) | exact HB.out)) hb); have n1_ := Aside0.mk (hbox); have n2_ := Aside0.mk ((by rw [hg]; exact (qaj (by repeat (first | (with_reducible first | exact HB.out | apply qab | apply qaa | apply qac) | exact HB.out))) : w.heap.size ≤ gb102)); have n3_ := Aside0.mk ((by rw [hg]; exact (qaj (by repeat (first | (with_reducible first | exact HB.out | apply qab | apply qaa | apply qac) | exact HB.out))) : w.heap.size ≤ gb102)); clear HB; have HB := n0_; have BK102 := n1_; have GW102 := n2_; have GE102 := n3_; clear n0_ n1_ n2_ n3_; clear hb hbox hg; have hcz22_0 : w21.cell? ⟨gb102, 0, none⟩ = some (.string (⟨#[]⟩ : ByteArray)) := (qaf BK102.out 0).trans rfl; have hcz22_1 : w21.cell? ⟨gb102, 1, none⟩ = some (.string (⟨#[]⟩ : ByteArray)) := (qaf BK102.out 1).trans rfl; have hfz22_0 := qad BK102.out 0; have hfz22_1 := qad BK102.out 1) | (go_at_call 101; (with_reducible refine (impl_isFileName.calls ((qan l0 x8_1).f0) false _ A5.out).mono ?_); rintro e w' ⟨rfl, ⟨nd, rfl⟩⟩; (try first | exact ⟨rfl, _, World.drewN_drewN _ _ _⟩ | exact ⟨rfl, _, Eq.trans (World.drewN_drewN _ _ _) (congrArg (World.drewN _) (Nat.add_assoc _ _ _))⟩))))
             go_ret
             exact ⟨by first | rfl | (simp [qal, qam] <;> rfl) | (simp [*, qal, qam] <;> rfl), by repeat (first | (with_reducible first | exact HB.out | apply qab | apply qaa | apply qac | refine qae ?_ GE102.out) | exact HB.out)⟩
         · rw [if_neg c4] at H
           exact absurd H (by simp)
       · rw [if_neg c3] at H
         exact absurd H (by simp)
     · rw [if_neg c2] at H
       have c2b0 : decide (x8_1 < (l0.length : Int)) = false := decide_eq_false c2
       clear c2
       obtain rfl := Option.some.inj H
       go_wp2
       repeat (go_quiet (fail); try go_wp2)
       go_ret
       exact ⟨by first | rfl | (simp [qal, qam] <;> rfl) | (simp [*, qal, qam] <;> rfl), by repeat (first | (with_reducible first | exact HB.out | apply qab | apply qaa | apply qac) | exact HB.out)⟩

end

section
def idxP {α : Type} (p : α → Bool) (xs : List α) : Int := match xs.findIdx? p with
 | some i => (i : Int)
 | none => -1

end

section
def PredBy {α : Type} (g : Nat) (lb : Array Value) (enc : α → Value) (p : α → Bool) (B : Nat) (w : World) (xs : List α) : Prop :=
 ∀ x ∈ xs, ∀ W, Below B w W → Calls Try.prog g (#[enc x] ++ lb) W fun e W' => e = .returned (.bool (p x)) ∧ Below W.heap.size W W'
theorem qdp {α : Type} (z : α) (xs : List α) (i : Int) (h0 : 0 ≤ i) (h1 : i < xs.length) : xs.getD i.toNat z ∈ xs := by
 have h : i.toNat < xs.length := by omega
 rw [List.getD_eq_getElem?_getD, List.getElem?_eq_getElem h]
 exact List.getElem_mem h
theorem idxG_hit {α : Type} (z : α) (p : α → Bool) (xs : List α) (i : Int) (h0 : 0 ≤ i) (h1 : i < xs.length) (hp : p (xs.getD i.toNat z) = true) (hn : ∀ j : Nat, j < i.toNat → p (xs.getD j z) = false) : idxP p xs = i := by
 have h : i.toNat < xs.length := by omega
 have e : xs.findIdx? p = some i.toNat := by
   rw [List.findIdx?_eq_some_iff_getElem]
   refine ⟨h, ?_, ?_⟩
   · rw [List.getD_eq_getElem?_getD, List.getElem?_eq_getElem h] at hp
     exact hp
   · intro j hj
     have := hn j hj
     rw [List.getD_eq_getElem?_getD, List.getElem?_eq_getElem (by omega)] at this
     simp at this ⊢
     exact this
 unfold idxP
 rw [e]
 show ((i.toNat : Nat) : Int) = i
 omega
theorem idxG_miss {α : Type} (z : α) (p : α → Bool) (xs : List α) (i : Int) (h1 : (xs.length : Int) ≤ i) (hn : ∀ j : Nat, j < i.toNat → p (xs.getD j z) = false) : idxP p xs = -1 := by
 have e : xs.findIdx? p = none := by
   rw [List.findIdx?_eq_none_iff]
   intro x hx
   obtain ⟨j, hj, rfl⟩ := List.getElem_of_mem hx
   have := hn j (by omega)
   rw [List.getD_eq_getElem?_getD, List.getElem?_eq_getElem hj] at this
   exact this
 unfold idxP
 rw [e]
theorem missG_step {α : Type} (z : α) (p : α → Bool) (xs : List α) (i : Int) (h0 : 0 ≤ i) (hp : p (xs.getD i.toNat z) = false) (hn : ∀ j : Nat, j < i.toNat → p (xs.getD j z) = false) : ∀ j : Nat, j < (i + 1).toNat → p (xs.getD j z) = false := by
 intro j hj
 by_cases e : (j : Int) = i
 · rw [show j = i.toNat by omega]; exact hp
 · exact hn j (by omega)
def CmpBy {α : Type} (g : Nat) (lb : Array Value) (enc : α → Value) (tv : Value) (cf : α → Int) (B : Nat) (w : World) (xs : List α) : Prop :=
 ∀ x ∈ xs, ∀ W, Below B w W → Calls Try.prog g (#[enc x, tv] ++ lb) W fun e W' => e = .returned (.int .i64 (cf x)) ∧ Below W.heap.size W W'
def cntLt {α : Type} (cf : α → Int) (xs : List α) : Nat := xs.countP (fun x => decide (cf x < 0))
def hitAt {α : Type} (z : α) (cf : α → Int) (xs : List α) : Bool := decide (cntLt cf xs < xs.length) && decide (cf (xs.getD (cntLt cf xs) z) = 0)
theorem countP_bound {α : Type} (p : α → Bool) (z : α) (l : List α) (i : Nat) (hi : i ≤ l.length) (h1 : ∀ t, t < i → p (l.getD t z) = true) (h2 : ∀ t, i ≤ t → t < l.length → p (l.getD t z) = false) : l.countP p = i := by
 conv => lhs; rw [← List.take_append_drop i l]
 rw [List.countP_append]
 have e1 : (l.take i).countP p = i := by
   rw [List.countP_eq_length.2]
   · rw [List.length_take]; omega
   · intro a ha
     obtain ⟨t, ht, rfl⟩ := List.getElem_of_mem ha
     rw [List.length_take] at ht
     have := h1 t (by omega)
     rw [List.getD_eq_getElem?_getD, List.getElem?_eq_getElem (by omega)] at this
     rw [List.getElem_take]
     exact this
 have e2 : (l.drop i).countP p = 0 := by
   rw [List.countP_eq_zero]
   intro a ha
   obtain ⟨t, ht, rfl⟩ := List.getElem_of_mem ha
   rw [List.length_drop] at ht
   have := h2 (i + t) (by omega) (by omega)
   rw [List.getD_eq_getElem?_getD, List.getElem?_eq_getElem (by omega)] at this
   rw [List.getElem_drop]
   simpa using this
 omega

end

section
set_option maxHeartbeats 4000000 in
theorem lib_idx_File (g : Nat) (lb : Array Value) (p : S80 → Bool) (eg : ∀ args w, (callFunc g args).run Try.prog w = .ok (.enter g args) w)
   (A : Option Addr) (c : Nat) (xs : List S80) (w : World) (hr : Kd.C k80 w A xs.length xs) (hp : PredBy g lb (fun x => Value.agg #[.string x.f0, .string x.f1]) p w.heap.size w xs) :
   Calls Try.prog 93 #[.slice A xs.length c, .func (.func g) #[] lb] w fun e w' => e = .returned (.int .i64 (idxP p xs)) ∧ Below w.heap.size w w' := by
 have HR := Aside0.mk hr
 have HP := Aside0.mk hp
 have hlen : xs.length ≤ 9223372036854775807 := Kd.C_max hr
 have hu := Try.underlying80
 clear hr hp
 go_enter Try.func93, Try.ntmps93
 go_wp2
 go_loopg [5, 8] xs.length (fun gg _ s8 wr => ∃ i : Int, s8 = .int .i64 i ∧ Aside0 (0 ≤ i ∧ i ≤ xs.length ∧ xs.length - i.toNat ≤ gg) ∧ Aside0 (Below w.heap.size w wr) ∧ Aside0 (∀ j : Nat, j < i.toNat → p (xs.getD j z80) = false))
 case atStart => exact ⟨0, rfl, ⟨by omega, by omega, by simp⟩, ⟨Below.refl _ _⟩, ⟨fun j hj => by simp at hj⟩⟩
 case round =>
   obtain ⟨i, rfl, HI, HB, HN⟩ := hrel
   have h0 := HI.out.1
   have h1 := HI.out.2.1
   have h2 := HI.out.2.2
   by_cases hlt : i < (xs.length : Int)
   · obtain ⟨ad, e1, hx_0, hx_1⟩ := qba HR.out i h0 hlt
     cases e1
     replace hx_0 := qay HB.out hx_0; replace hx_1 := qay HB.out hx_1
     have hcall := HP.out _ (qdp z80 xs i h0 hlt)
     change ∀ W, Below w.heap.size w W → Calls Try.prog g (#[(fun (x : S80) => Value.agg #[.string x.f0, .string x.f1]) (qan xs i)] ++ lb) W fun e W' => e = .returned (.bool (p (qan xs i))) ∧ Below W.heap.size W W' at hcall
     have HC := Aside0.mk hcall
     clear hcall
     have hd0 : decide (i < (xs.length : Int)) = true := decide_eq_true hlt
     have w0 : IntKind.i64.wrap (i + 1) = i + 1 := IntWalk.i64_in _ (by omega)
     cases hq : p (qan xs i) with
     | true =>
       rw [hq] at HC
       have HQ := Aside0.mk hq
       clear hq
       have h0' := eq_true h0
       have hlt' := eq_true hlt
       go_wp2_with (go_at_fn g; refine (HC.out _ ?hb).mono ?_; (case hb => exact HB.out); rintro e w' ⟨rfl, hb⟩)
       go_ret
       refine ⟨?_, qak HB.out hb⟩
       rw [idxG_hit z80 p xs i h0 hlt HQ.out HN.out]
       rfl
     | false =>
       rw [hq] at HC
       have HQ := Aside0.mk hq
       clear hq
       have h0' := eq_true h0
       have hlt' := eq_true hlt
       go_wp2_with (go_at_fn g; refine (HC.out _ ?hb).mono ?_; (case hb => exact HB.out); rintro e w' ⟨rfl, hb⟩)
       go_roundg (xs.length - (i + 1).toNat)
       case measure => omega
       case rel => exact ⟨i + 1, by go_num, ⟨by omega, by omega, by omega⟩, ⟨qak HB.out hb⟩, ⟨missG_step z80 p xs i h0 HQ.out HN.out⟩⟩
   · have hd0 : decide (i < (xs.length : Int)) = false := decide_eq_false hlt
     go_wp2
     go_ret
     exact ⟨by rw [idxG_miss z80 p xs i (by omega) HN.out]; rfl, HB.out⟩

end

section
def qbb (n : ByteArray) (x : S80) : Bool := x.f0.toList == n.toList
def impl_fileOf.f (l0 : List S80) (a1 : ByteArray) : Option Int := some (idxP (qbb a1) l0)
set_option maxHeartbeats 4000000 in
theorem impl_fileOf.lit (g : Nat) (n : ByteArray) (x : S80) (W : World) (hb : W.cell? ⟨g, 0, none⟩ = some (.string n)) (hg : g < W.heap.size) :
   Calls Try.prog 94 #[.agg #[.string x.f0, .string x.f1], .pointer (some ⟨g, 0, none⟩)] W fun e W' => e = .returned (.bool (qbb n x)) ∧ Below W.heap.size W W' := by
 have hu := Try.underlying80
 go_enter Try.func94, Try.ntmps94
 go_wp2
 go_ret
 exact ⟨rfl, by repeat (first | exact Below.refl _ _ | apply qab | apply qaa | apply qcr)⟩
set_option maxHeartbeats 8000000 in
set_option maxRecDepth 100000 in
theorem impl_fileOf.calls (A0 : Option Addr) (c0 : Nat) (l0 : List (S80)) (a1 : ByteArray) (r : Int) (w : World) (hr0 : Kd.C k80 w A0 l0.length l0) (hc0 : l0.length ≤ c0) (h : impl_fileOf.f l0 a1 = some r) :
   Calls Try.prog 53 #[.slice A0 l0.length c0, .string a1] w fun e w' => e = .returned (.int .i64 r) ∧ Below w.heap.size w w' := by
 obtain rfl : idxP (qbb a1) l0 = r := Option.some.inj h
 have HR := Aside0.mk hr0
 clear hr0 h
 go_enter Try.func53, Try.ntmps53
 go_wp2_with fail
 refine (lib_idx_File 94 #[.pointer (some ⟨w.heap.size, 0, none⟩)] (qbb a1) (enters_of Try.func94 (by kernel_rfl) rfl) A0 c0 l0 _ ?h1 ?h2).mono ?_
 case h1 => exact Kd.C_alloc HR.out _
 case h2 =>
   intro x hx W hW
   refine impl_fileOf.lit w.heap.size a1 x W ?_ ?_
   · refine qay hW ?_
     go_simp
   · have := hW.size
     simp at this
     omega
 rintro e w' ⟨rfl, hb⟩
 have HB : Aside0 (Below w.heap.size w w') := ⟨qak (by repeat (first | exact Below.refl _ _ | apply qab)) hb⟩
 clear hb
 go_wp2
 go_ret
 exact ⟨rfl, HB.out⟩

end

section
set_option maxHeartbeats 4000000 in
set_option maxRecDepth 100000 in
theorem lib_bs_File (g : Nat) (lb : Array Value) (tv : Value) (cf : S80 → Int) (eg : ∀ args w, (callFunc g args).run Try.prog w = .ok (.enter g args) w)
   (A : Option Addr) (c : Nat) (xs : List S80) (w : World) (hr : Kd.C k80 w A xs.length xs) (hsz : xs.length < 4611686018427387904) (hp : CmpBy g lb (fun x => Value.agg #[.string x.f0, .string x.f1]) tv cf w.heap.size w xs)
   (hmono : ∀ a b : Nat, a ≤ b → b < xs.length → cf (xs.getD b z80) < 0 → cf (xs.getD a z80) < 0) :
   Calls Try.prog 118 #[.slice A xs.length c, tv, .func (.func g) #[] lb] w fun e w' => e = .returned (.tuple #[.int .i64 (cntLt cf xs : Nat), .bool (hitAt z80 cf xs)]) ∧ Below w.heap.size w w' := by
 have HR := Aside0.mk hr
 have HP := Aside0.mk hp
 have M := Aside0.mk hmono
 have hu := Try.underlying80
 clear hr hp hmono
 generalize hcnt : cntLt cf xs = cnt
 have CN := Aside0.mk hcnt
 generalize hfin : hitAt z80 cf xs = fin
 have FIN := Aside0.mk hfin
 clear hcnt hfin
 have hget : Aside0 (∀ (t : Nat), xs.getD t z80 = qan xs (t : Int)) := ⟨fun t => by unfold qan; rw [Int.toNat_natCast]⟩
 have hcall : Aside0 (∀ (t : Nat), t < xs.length → ∀ W, Below w.heap.size w W → Calls Try.prog g (#[(fun (x : S80) => Value.agg #[.string x.f0, .string x.f1]) (qan xs (t : Int)), tv] ++ lb) W fun e W' => e = .returned (.int .i64 (cf (qan xs (t : Int)))) ∧ Below W.heap.size W W') := ⟨fun t ht => HP.out _ (by rw [← hget.out t]; have := qdp z80 xs (t : Int) (by omega) (by omega); rwa [Int.toNat_natCast] at this)⟩
 go_enter Try.func118, Try.ntmps118
 go_wp2
 go_loopg [9, 10] xs.length (fun kx s9 s10 wr => ∃ lo hi : Nat, s9 = .int .i64 lo ∧ s10 = .int .i64 hi ∧ lo ≤ hi ∧ hi ≤ xs.length ∧ hi - lo ≤ kx ∧ Aside0 (Below w.heap.size w wr) ∧
   Aside0 ((∀ t, t < lo → cf (xs.getD t z80) < 0) ∧ (∀ t, hi ≤ t → t < xs.length → 0 ≤ cf (xs.getD t z80))))
 case atStart => exact ⟨0, xs.length, rfl, rfl, Nat.zero_le _, Nat.le_refl _, by omega, ⟨Below.refl _ _⟩, ⟨fun t ht => absurd ht (Nat.not_lt_zero _), fun t h1 h2 => by omega⟩⟩
 case round =>
   obtain ⟨lo, hi, rfl, rfl, hlh, hin, hg, HB, I⟩ := hrel
   by_cases hlt : lo < hi
   · obtain ⟨ad, e1, hx_0, hx_1⟩ := qba HR.out (((lo + hi) / 2 : Nat) : Int) (by omega) (by omega)
     cases e1
     rw [Int.toNat_natCast] at *
     replace hx_0 := qay HB.out hx_0; replace hx_1 := qay HB.out hx_1
     have hc := hcall.out ((lo + hi) / 2) (by omega)
     have Y := hget.out ((lo + hi) / 2)
     generalize qan xs (((lo + hi) / 2 : Nat) : Int) = y at *
     have HC := Aside0.mk hc
     have HY := Aside0.mk Y
     clear hc Y
     by_cases hyx : cf y < 0
     · go_wp2_with (go_at_fn g; refine (HC.out _ ?hb).mono ?_; (case hb => exact HB.out); rintro e w' ⟨rfl, hb⟩)
       go_roundg (hi - ((lo + hi) / 2 + 1))
       case measure => omega
       case rel =>
         exact ⟨(lo + hi) / 2 + 1, hi, by rw [show ((lo : Int) + (hi : Int)) / 2 + 1 = (((lo + hi) / 2 + 1 : Nat) : Int) by omega], rfl, by omega, hin, Nat.le_refl _, ⟨qak HB.out hb⟩, ⟨fun t ht => M.out t ((lo + hi) / 2) (by omega) (by omega) (by rw [HY.out]; exact hyx), I.out.2⟩⟩
     · go_wp2_with (go_at_fn g; refine (HC.out _ ?hb).mono ?_; (case hb => exact HB.out); rintro e w' ⟨rfl, hb⟩)
       go_roundg ((lo + hi) / 2 - lo)
       case measure => omega
       case rel =>
         exact ⟨lo, (lo + hi) / 2, rfl, by rw [show ((lo : Int) + (hi : Int)) / 2 = (((lo + hi) / 2 : Nat) : Int) by omega], by omega, by omega, Nat.le_refl _, ⟨qak HB.out hb⟩, ⟨I.out.1, fun t ht htn => Int.not_lt.1 fun h => by have := M.out ((lo + hi) / 2) t ht htn h; rw [HY.out] at this; omega⟩⟩
   · obtain rfl : hi = lo := by omega
     have ecnt : cnt = hi := by
       rw [← CN.out]
       exact countP_bound _ z80 xs hi hin (fun t ht => decide_eq_true (I.out.1 t ht)) (fun t h3 h4 => decide_eq_false (by have := I.out.2 t h3 h4; omega))
     subst ecnt
     by_cases hn : cnt < xs.length
     · obtain ⟨ad, e1, hx_0, hx_1⟩ := qba HR.out (cnt : Int) (by omega) (by omega)
       cases e1
       rw [Int.toNat_natCast] at *
       replace hx_0 := qay HB.out hx_0; replace hx_1 := qay HB.out hx_1
       have hc := hcall.out cnt hn
       have Y := hget.out cnt
       generalize qan xs (cnt : Int) = y at *
       have HC := Aside0.mk hc
       have HY := Aside0.mk Y
       clear hc Y
       by_cases hyx : cf y = 0
       · go_wp2_with (go_at_fn g; refine (HC.out _ ?hb).mono ?_; (case hb => exact HB.out); rintro e w' ⟨rfl, hb⟩)
         go_ret2
         exact ⟨by rw [← FIN.out]; unfold hitAt; rw [CN.out, HY.out]; simp [hn, hyx], qak HB.out hb⟩
       · go_wp2_with (go_at_fn g; refine (HC.out _ ?hb).mono ?_; (case hb => exact HB.out); rintro e w' ⟨rfl, hb⟩)
         go_ret2
         exact ⟨by rw [← FIN.out]; unfold hitAt; rw [CN.out, HY.out]; simp [hn, hyx], qak HB.out hb⟩
     · go_wp2
       go_ret2
       exact ⟨by rw [← FIN.out]; unfold hitAt; rw [CN.out]; simp [hn], HB.out⟩

end

section
theorem qch {P : Program} (w : World) (dT sT ty elem : TypeId) (size : Nat) (g o dLen dCap : Nat) (a : Addr) (sLen sCap : Nat) (cur : Array Value) (t : TypeId) (cs : List Value)
   (hu : P.underlying dT = some (.slice elem)) (hs : (P.info? elem).map (·.size) = some size)
   (hg : w.heap[g]? = some (.cells cur t (0, 0))) (hn : cs.length = Nat.min sLen dLen * size)
   (hsrc : ∀ j v, cs[j]? = some v → w.cell? (a.add j) = some v) (hfit : o + cs.length ≤ cur.size) (h1 : ∀ v ∈ cs, v.oneCell' = true) :
   (Builtin.copy_ #[dT, sT] ty #[.slice (some ⟨g, o, none⟩) dLen dCap, .slice (some a) sLen sCap]).run P w =
     .ok (goInt (Nat.min sLen dLen)) (w.setRow g (cur.toList.take o ++ cs ++ cur.toList.drop (o + cs.length)).toArray) := by
 have hl := run_loadCells_list (P := P) w a cs hsrc
 have hst := run_storeCells_at P g o t cs 0 cur w hg (by simpa using hfit) h1
 cases hq : P.info? elem with
 | none => simp [hq] at hs
 | some i =>
   have hi : i.size = size := by simpa [hq] using hs
   simp [Builtin.copy_, run_underlying hu, Builtin.lenOf, Builtin.firstCells, sizeOf, typeInfo, hq, hi, ← hn, hl, hst]
theorem splice_splice {α : Type} (cs vs rest : List α) (p k : Nat) (hp : p ≤ cs.length) (hv : vs.length = k) :
   (((cs.take p ++ rest).take p ++ vs ++ (cs.take p ++ rest).drop (p + vs.length)).take (p + k) ++ cs.drop p ++ ((cs.take p ++ rest).take p ++ vs ++ (cs.take p ++ rest).drop (p + vs.length)).drop (p + k + (cs.drop p).length)).take (cs.length + k) = cs.take p ++ (vs ++ cs.drop p) := by
 have l1 : (cs.take p).length = p := by rw [List.length_take]; omega
 have e1 : (cs.take p ++ rest).take p = cs.take p := by rw [List.take_append_of_le_length (by omega), List.take_of_length_le (by omega)]
 rw [e1]
 have e2 : (cs.take p ++ vs ++ (cs.take p ++ rest).drop (p + vs.length)).take (p + k) = cs.take p ++ vs := by
   rw [List.take_append_of_le_length (by rw [List.length_append]; omega), List.take_of_length_le (by rw [List.length_append]; omega)]
 rw [e2]
 have l2 : (cs.take p ++ vs ++ cs.drop p).length = cs.length + k := by
   rw [List.length_append, List.length_append, List.length_drop]; omega
 rw [List.take_append_of_le_length (by omega), List.take_of_length_le (by omega), List.append_assoc]
theorem splice_shift {α : Type} (cur cs vs : List α) (p k : Nat) (hp : p ≤ cs.length) (hv : vs.length = k) (hc : cur.take cs.length = cs) (hl : cs.length + k ≤ cur.length) :
   ((cur.take (p + k) ++ cs.drop p ++ cur.drop (p + k + (cs.drop p).length)).take p ++ vs ++ (cur.take (p + k) ++ cs.drop p ++ cur.drop (p + k + (cs.drop p).length)).drop (p + vs.length)).take (cs.length + k) = cs.take p ++ (vs ++ cs.drop p) := by
 have e0 : cur.take p = cs.take p := by rw [← hc, List.take_take, Nat.min_eq_left hp]
 have l1 : (cur.take (p + k)).length = p + k := by rw [List.length_take]; omega
 have e1 : (cur.take (p + k) ++ cs.drop p ++ cur.drop (p + k + (cs.drop p).length)).take p = cs.take p := by
   rw [List.append_assoc, List.take_append_of_le_length (by omega), List.take_take, Nat.min_eq_left (by omega), e0]
 have e2 : (cur.take (p + k) ++ cs.drop p ++ cur.drop (p + k + (cs.drop p).length)).drop (p + vs.length) = cs.drop p ++ cur.drop (p + k + (cs.drop p).length) := by
   rw [hv, List.append_assoc, List.drop_append_of_le_length (by omega), List.drop_of_length_le (by omega), List.nil_append]
 rw [e1, e2]
 have l2 : (cs.take p ++ vs ++ cs.drop p).length = cs.length + k := by
   rw [List.length_append, List.length_append, List.length_drop, List.length_take]; omega
 rw [← List.append_assoc, List.take_append_of_le_length (by omega), List.take_of_length_le (by omega), List.append_assoc]
theorem qci (w : World) (g : Nat) (cs : Array Value) (row : Option Nat) (h : row = some g ∨ w.heap.size ≤ g) : w.grownBy (w.setRow g cs) row :=
 ⟨rfl, rfl, rfl, by simp [World.setRow], fun k hk hne => setRow_other w g k cs (by
   rcases h with h | h
   · rintro rfl; exact hne h.symm
   · omega)⟩
theorem qek (w : World) (row : Option Nat) : w.grownBy w.drew row := ⟨rfl, rfl, rfl, Nat.le_refl _, fun _ _ _ => rfl⟩
theorem qcw {w w1 w2 : World} {row : Option Nat} (h : w.grownBy w1 row) (k : w1.grownBy w2 row) : w.grownBy w2 row :=
 ⟨k.os.trans h.os, k.tape.trans h.tape, k.output.trans h.output, Nat.le_trans h.size k.size, fun i hi hne => (k.block i (Nat.lt_of_lt_of_le hi h.size) hne).trans (h.block i hi hne)⟩
theorem qfb {w w1 w2 : World} {row : Option Nat} (h : w.grownBy w1 row) {g : Nat} (hg : w.heap.size ≤ g) (cs : Array Value) (he : w2 = w1.setRow g cs) : w.grownBy w2 row := by
 subst he
 exact ⟨h.os, h.tape, h.output, by simp [World.setRow]; exact h.size, fun i hi hne => (setRow_other w1 g i cs (by omega)).trans (h.block i hi hne)⟩
theorem qfc {w : World} {base e size : Nat} {v : Value} {n : Nat} {xs : List Value} (h : w.ownsRow base e size v n xs) (hn : 0 < n) :
   ∃ g cap cur, v = .slice (some ⟨g, 0, none⟩) n cap ∧ base ≤ g ∧ w.heap[g]? = some (.cells cur e (0, 0)) ∧ n ≤ cap ∧ cap ≤ maxLen ∧ cur.size = cap * size ∧ cur.toList.take (n * size) = xs := by
 rcases h.2 with ⟨_, h0⟩ | h
 · omega
 · exact h
theorem own_mk {w : World} {base e size g n cap : Nat} {cur : Array Value} {xs : List Value} (hg : base ≤ g) (hh : w.heap[g]? = some (.cells cur e (0, 0))) (hn : n ≤ cap) (hc : cap ≤ maxLen) (hs : cur.size = cap * size) (hx : cur.toList.take (n * size) = xs) (hl : xs.length = n * size) :
   w.ownsRow base e size (.slice (some ⟨g, 0, none⟩) n cap) n xs := ⟨hl, .inr ⟨g, cap, cur, rfl, hg, hh, hn, hc, hs, hx⟩⟩
theorem setCells_row (P : Program) (w : World) (g o : Nat) (t : TypeId) (vs : List Value) (cur : Array Value) (hg : w.heap[g]? = some (.cells cur t (0, 0))) (hl : o + vs.length ≤ cur.size) (h1 : ∀ v ∈ vs, v.oneCell' = true) :
   w.setCells g o vs = w.setRow g (cur.toList.take o ++ vs ++ cur.toList.drop (o + vs.length)).toArray := by
 have e1 := run_storeCells_at P g o t vs 0 cur w hg (by simpa using hl) h1
 have e2 := run_storeCells_cells (P := P) g o vs 0 w (fun j hj => by
   rw [qaf hg, Array.getElem?_eq_getElem (by omega)]
   rfl) (fun j hj => qad hg _) h1
 rw [e1] at e2
 injection e2 with _ e3
 simpa using e3.symm
theorem qda (z : Array Value) (n : Nat) : (Builtin.zeroCells z n).size = n * z.size := by simp [Builtin.zeroCells]
theorem qfd {P : Program} (w : World) (t e ty : TypeId) (z : Value) (ht : P.underlying t = some (.slice e)) (hv : ∀ w, (zeroValue e).run P w = .ok z w) (g o n c : Nat) (hn : 0 < n) (cur : Array Value) (tt : TypeId) (hg : w.heap[g]? = some (.cells cur tt (0, 0)))
   (hfit : o + n * z.cells.size ≤ cur.size) (h1 : ∀ v ∈ (Builtin.zeroCells z.cells n).toList, v.oneCell' = true) :
   (Builtin.clear_ #[t] ty #[.slice (some ⟨g, o, none⟩) n c]).run P w = .ok (.tuple #[]) (w.setRow g (cur.toList.take o ++ (Builtin.zeroCells z.cells n).toList ++ cur.toList.drop (o + n * z.cells.size)).toArray) := by
 have hst := run_storeCells_at P g o tt (Builtin.zeroCells z.cells n).toList 0 cur w hg (by rw [Array.length_toList, qda]; simpa using hfit) h1
 rw [Array.length_toList, qda] at hst
 obtain ⟨m, rfl⟩ : ∃ m, n = m + 1 := ⟨n - 1, by omega⟩
 simp [Builtin.clear_, run_underlying ht, hv, hst]
theorem del_shift {α : Type} (cur cs zs : List α) (p q n : Nat) (hpq : p ≤ q) (hq : q ≤ cs.length) (hc : cur.take cs.length = cs) (hl : cs.length ≤ cur.length) (hn : n = cs.length - (q - p)) :
   ((cur.take p ++ cs.drop q ++ cur.drop (p + (cs.drop q).length)).take n ++ zs ++ (cur.take p ++ cs.drop q ++ cur.drop (p + (cs.drop q).length)).drop (n + zs.length)).take n = cs.take p ++ cs.drop q := by
 have e0 : cur.take p = cs.take p := by rw [← hc, List.take_take, Nat.min_eq_left (by omega)]
 have l1 : (cs.take p ++ cs.drop q).length = n := by rw [List.length_append, List.length_take, List.length_drop]; omega
 rw [e0, List.take_append_of_le_length (l₁ := cs.take p ++ cs.drop q) (by omega), List.take_of_length_le (l := cs.take p ++ cs.drop q) (by omega), List.append_assoc, List.take_append_of_le_length (by omega), List.take_of_length_le (by omega)]

end

section
set_option maxHeartbeats 4000000 in
set_option maxRecDepth 100000 in
theorem lib_insEnd_File (base : Nat) (v : Value) (n : Nat) (cs vs : List Value) (vb : Nat) (w : World) (ho : w.ownsRow base 80 2 v n cs) (hvb : w.heap[vb]? = some (.cells vs.toArray 80 (0, 0))) (hvl : vs.length = 2) (h1v : ∀ u ∈ vs, u.oneCell' = true)
   (hbase : base ≤ w.heap.size) (hl : (n + 1) * 32 ≤ 140737488355328) :
   Calls Try.prog 121 #[v, .int .i64 n, .slice (some ⟨vb, 0, none⟩) 1 1] w fun e w' => ∃ v', e = .returned v' ∧ w'.ownsRow base 80 2 v' (n + 1) (cs ++ vs) ∧ w.grownBy w' v.ownBlock ∧ (v'.ownBlock = v.ownBlock ∨ ∃ b, v'.ownBlock = some b ∧ w.heap.size ≤ b) := by
 obtain ⟨i0, hi0, hz0, hzs, hzb⟩ := info_parts qcl
 have hnews : ∀ j u, vs[j]? = some u → w.cell? ((⟨vb, 0, none⟩ : Addr).add j) = some u := fun j u hj => by
   rw [qdh, qaf hvb]
   simpa using hj
 have hu := Try.underlying28
 obtain ⟨A, c, rfl⟩ := own_slice ho
 have HO := Aside0.mk ho
 have HN := Aside0.mk hnews
 have H1 := Aside0.mk h1v
 have HV := Aside0.mk hvl
 have hn : n ≤ 9223372036854775806 := by omega
 have hnc : n ≤ c := by
   rcases ho.2 with ⟨hv, h0⟩ | ⟨g, cap, cur, hv, _, _, hle, _⟩
   · omega
   · injection hv with _ _ hc
     omega
 have hcm : c ≤ 9223372036854775807 := by
   rcases ho.2 with ⟨hv, h0⟩ | ⟨g, cap, cur, hv, _, _, _, hle, _⟩
   · injection hv with _ _ hc
     omega
   · injection hv with _ _ hc
     unfold maxLen at hle
     omega
 have hl63 : n + 1 ≤ maxLen := by unfold maxLen; omega
 clear ho hnews h1v hvl hvb
 go_enter Try.func121, Try.ntmps121
 cases A with
 | none =>
   go_wp2_with (at_builtin; refine wpList_append_own_at _ rfl _ _ 28 rfl base 80 i0 (.agg #[(.string ⟨#[]⟩), (.string ⟨#[]⟩)]) 2 32 hu hi0 hz0 hzs hzb rfl (by decide) _ n cs rfl HO.out ⟨vb, 0, none⟩ 1 1 vs rfl HV.out HN.out H1.out hl63 hl hbase ?_; intro v1 w1 ho1 hg1 _ hat)
   go_ret
   exact ⟨_, rfl, ho1, hg1, hat.imp id (fun h => ⟨_, h, Nat.le_refl _⟩)⟩
 | some a =>
   obtain ⟨ab, ao, asp⟩ := a
   go_wp2_with (at_builtin; refine wpList_append_own_at _ rfl _ _ 28 rfl base 80 i0 (.agg #[(.string ⟨#[]⟩), (.string ⟨#[]⟩)]) 2 32 hu hi0 hz0 hzs hzb rfl (by decide) _ n cs rfl HO.out ⟨vb, 0, none⟩ 1 1 vs rfl HV.out HN.out H1.out hl63 hl hbase ?_; intro v1 w1 ho1 hg1 _ hat)
   all_goals
     go_ret
     exact ⟨_, rfl, ho1, hg1, hat.imp id (fun h => ⟨_, h, Nat.le_refl _⟩)⟩
set_option maxHeartbeats 4000000 in
set_option maxRecDepth 100000 in
theorem qep (base g c i n : Nat) (cur : Array Value) (cs vs : List Value) (vb : Nat) (w : World) (hg : w.heap[g]? = some (.cells cur 80 (0, 0))) (hbg : base ≤ g) (hcap : cur.size = c * 2) (hc63 : c ≤ maxLen) (hin : i < n) (hroom : n + 1 ≤ c)
   (hcl : cs.length = n * 2) (hcs : cur.toList.take (n * 2) = cs) (h1c : ∀ u ∈ cs, u.oneCell' = true)
   (hvb : w.heap[vb]? = some (.cells vs.toArray 80 (0, 0))) (hvl : vs.length = 2) (h1v : ∀ u ∈ vs, u.oneCell' = true) (hne : vb ≠ g) :
   Calls Try.prog 121 #[.slice (some ⟨g, 0, none⟩) n c, .int .i64 i, .slice (some ⟨vb, 0, none⟩) 1 1] w fun e w' => e = .returned (.slice (some ⟨g, 0, none⟩) (n + 1) c) ∧ w'.ownsRow base 80 2 (.slice (some ⟨g, 0, none⟩) (n + 1) c) (n + 1) (cs.take (i * 2) ++ (vs ++ cs.drop (i * 2))) ∧ w.grownBy w' (some g) := by
 have hu := Try.underlying28
 have hsz : (Try.prog.info? 80).map (·.size) = some 2 := by
   obtain ⟨i0, hi0, _, h1, _⟩ := info_parts qcl
   rw [hi0]; simp [h1]
 have hlen : cur.toList.length = c * 2 := by rw [Array.length_toList]; exact hcap
 have hcell : ∀ j u, cs[j]? = some u → cur[j]? = some u := fun j u hj => by
   rw [← hcs, List.getElem?_take] at hj
   split at hj
   · simpa using hj
   · cases hj
 have hsa : w.shape? vb = some (80, 2) := by simp [World.shape?, hvb, hvl]
 have hsb : w.shape? g = some (80, c * 2) := by simp [World.shape?, hg, hcap]
 have hov : ∀ lb cb, (callFunc 133 #[.slice (some ⟨vb, 0, none⟩) 1 1, .slice (some ⟨g, (i + 1) * 2, none⟩) lb cb]).run Try.prog w = .ok (.value (.bool false)) w := fun lb cb => by
   rw [run_callFunc_extern Try.func133 (by kernel_rfl) (by kernel_rfl) (by kernel_rfl) (e := Extern.SlicesOverlaps.overlaps #[28, 28] #[4]) (by kernel_rfl),
     Lib.run_overlaps_apart w 28 4 80 hu 2 Try.sizeOf80 ⟨vb, 0, none⟩ ⟨g, (i + 1) * 2, none⟩ 1 1 lb cb hne 80 80 2 (c * 2) hsa hsb (by omega) (qad hvb 0) (qad hvb 2)]
   rfl
 have hdl : (cs.drop (i * 2)).length = (n - i) * 2 := by rw [List.length_drop, hcl]; omega
 obtain ⟨R1, hR1⟩ : ∃ R1, R1 = (cur.toList.take ((i + 1) * 2) ++ cs.drop (i * 2) ++ cur.toList.drop ((i + 1) * 2 + (cs.drop (i * 2)).length)).toArray := ⟨_, rfl⟩
 have hR1l : R1.size = c * 2 := by
   rw [hR1]
   simp only [List.size_toArray, List.length_append, List.length_take, List.length_drop, hlen, hcl]
   omega
 have hcp1 : ∀ (W : World), W.heap = w.heap → ∀ ty dc sc, (Builtin.copy_ #[28, 28] ty #[.slice (some ⟨g, (i + 1) * 2, none⟩) (n - i) dc, .slice (some ⟨g, i * 2, none⟩) (n + 1 - i) sc]).run Try.prog W = .ok (goInt ((n - i : Nat) : Int)) (W.setRow g R1) := fun W hW ty dc sc => by
   have hgW : W.heap[g]? = some (.cells cur 80 (0, 0)) := by rw [hW]; exact hg
   have := qch (P := Try.prog) W 28 28 ty 80 2 g ((i + 1) * 2) (n - i) dc ⟨g, i * 2, none⟩ (n + 1 - i) sc cur 80 (cs.drop (i * 2)) hu hsz hgW (by rw [hdl]; simp only [Nat.min_def]; split <;> omega)
     (fun j u hj => by
       rw [Addr.add_lit, qaf hgW]
       rw [List.getElem?_drop] at hj
       exact hcell _ _ hj) (by rw [hdl, hcap]; omega) (fun u hu => h1c u (List.mem_of_mem_drop hu))
   rw [this, hR1, show Nat.min (n + 1 - i) (n - i) = n - i by simp only [Nat.min_def]; split <;> omega]
 obtain ⟨R2, hR2⟩ : ∃ R2, R2 = (R1.toList.take (i * 2) ++ vs ++ R1.toList.drop (i * 2 + vs.length)).toArray := ⟨_, rfl⟩
 have hcp2 : ∀ (W : World), W.heap = (w.setRow g R1).heap → ∀ ty dc, (Builtin.copy_ #[28, 28] ty #[.slice (some ⟨g, i * 2, none⟩) (n + 1 - i) dc, .slice (some ⟨vb, 0, none⟩) 1 1]).run Try.prog W = .ok (goInt ((1 : Nat) : Int)) (W.setRow g R2) := fun W hW ty dc => by
   have hgW : W.heap[g]? = some (.cells R1 80 (0, 0)) := by rw [hW]; exact setRow_heap w g cur R1 _ _ hg
   have hvW : W.heap[vb]? = some (.cells vs.toArray 80 (0, 0)) := by rw [hW, setRow_other w g vb R1 hne]; exact hvb
   have := qch (P := Try.prog) W 28 28 ty 80 2 g (i * 2) (n + 1 - i) dc ⟨vb, 0, none⟩ 1 1 R1 80 vs hu hsz hgW (by rw [hvl]; simp only [Nat.min_def]; split <;> omega)
     (fun j u hj => by
       rw [qdh, qaf hvW]
       simpa using hj) (by rw [hvl, hR1l]; omega) h1v
   rw [this, hR2, show Nat.min 1 (n + 1 - i) = 1 by simp only [Nat.min_def]; split <;> omega]
 have hR2l : R2.size = c * 2 := by
   rw [hR2]
   simp only [List.size_toArray, List.length_append, List.length_take, List.length_drop, Array.length_toList, hR1l, hvl]
   omega
 have hfin : R2.toList.take ((n + 1) * 2) = cs.take (i * 2) ++ (vs ++ cs.drop (i * 2)) := by
   have := splice_shift cur.toList cs vs (i * 2) 2 (by rw [hcl]; omega) hvl (by rw [hcl]; exact hcs) (by rw [hcl, hlen]; omega)
   rw [hcl, show n * 2 + 2 = (n + 1) * 2 by omega] at this
   rw [hR2, hR1]
   simpa only [show i * 2 + 2 = (i + 1) * 2 by omega] using this
 have FIN : Aside0 ((((w.drew).setRow g R1).setRow g R2).ownsRow base 80 2 (.slice (some ⟨g, 0, none⟩) (n + 1) c) (n + 1) (cs.take (i * 2) ++ (vs ++ cs.drop (i * 2)))) :=
   ⟨own_mk hbg (setRow_heap _ g R1 R2 _ _ (setRow_heap _ g cur R1 _ _ hg)) hroom hc63 hR2l hfin (by rw [← hfin, List.length_take, Array.length_toList, hR2l]; omega)⟩
 have GR : Aside0 (w.grownBy (((w.drew).setRow g R1).setRow g R2) (some g)) := ⟨qcw (qcw (qek w _) (qci _ g R1 _ (.inl rfl))) (qci _ g R2 _ (.inl rfl))⟩
 have hz2 : ¬ ((i : Int) = (n : Int)) := by omega
 have hw1 : IntKind.i64.wrap ((i : Int) + 1) = (i : Int) + 1 := by unfold maxLen at hc63; rw [IntKind.wrap_i64]; omega
 have hb1 : (0 : Int) ≤ (i : Int) + 1 := by omega
 have hin' : i ≤ n := by omega
 have htn : ((i : Int) + 1).toNat = i + 1 := by omega
 have hb2 : ¬ (c = i + 1) := by omega
 have hb3 : (i : Int) ≤ (n : Int) + 1 := by omega
 have hb4 : ¬ (c = i) := by omega
 have hcm : c ≤ 9223372036854775807 := by unfold maxLen at hc63; omega
 have HC1 := Aside0.mk hcp1
 have HC2 := Aside0.mk hcp2
 clear hcp1 hcp2 hfin hR1 hR2 hR1l hR2l hsa hsb hcell hlen hcs h1c h1v hvb hg hcap hdl hcl hvl hc63
 go_enter Try.func121, Try.ntmps121
 go_wp2_with (simp only [hov])
 go_region_law (refine step_copy_runI rfl _ _ 28 28 rfl _ _ (by simp [Act.eval, Act.put]) (by simp [Act.eval, Act.put]) (HC1.out w.drew rfl _ (c - (i + 1)) (c - i)) ?_)
 go_wp2_with fail
 rw [HC2.out (w.drew.setRow g R1) rfl]
 go_wp2
 go_ret
 exact ⟨rfl, FIN.out, GR.out⟩
set_option maxHeartbeats 4000000 in
set_option maxRecDepth 100000 in
theorem qeq (base g c i n : Nat) (cur : Array Value) (cs vs : List Value) (vb : Nat) (w : World) (hg : w.heap[g]? = some (.cells cur 80 (0, 0))) (hbase : base ≤ w.heap.size) (hcap : cur.size = c * 2) (hin : i < n) (hnc : n ≤ c) (hroom : c < n + 1) (hbig : (n + 1) * 32 ≤ 140737488355328)
   (hcl : cs.length = n * 2) (hcs : cur.toList.take (n * 2) = cs) (h1c : ∀ u ∈ cs, u.oneCell' = true)
   (hvb : w.heap[vb]? = some (.cells vs.toArray 80 (0, 0))) (hvl : vs.length = 2) (h1v : ∀ u ∈ vs, u.oneCell' = true) :
   Calls Try.prog 121 #[.slice (some ⟨g, 0, none⟩) n c, .int .i64 i, .slice (some ⟨vb, 0, none⟩) 1 1] w fun e w' => ∃ v', e = .returned v' ∧ w'.ownsRow base 80 2 v' (n + 1) (cs.take (i * 2) ++ (vs ++ cs.drop (i * 2))) ∧ w.grownBy w' none ∧ v'.ownBlock = some w.heap.size := by
 have hu := Try.underlying28
 have hui := Try.underlying3
 obtain ⟨i0, hi0, hz0, hzs, hzb⟩ := info_parts qcl
 have hsz : (Try.prog.info? 80).map (·.size) = some 2 := by rw [hi0]; simp [hzs]
 have hlen : cur.toList.length = c * 2 := by rw [Array.length_toList]; exact hcap
 have hcell : ∀ j u, cs[j]? = some u → cur[j]? = some u := fun j u hj => by
   rw [← hcs, List.getElem?_take] at hj
   split at hj
   · simpa using hj
   · cases hj
 have hgw : g < w.heap.size := qaw hg
 have hvw : vb < w.heap.size := qaw hvb
 have hkk : (n : Int) + 1 - (i : Int) = ((n + 1 - i : Nat) : Int) := by omega
 have hik : i + (n + 1 - i) = n + 1 := by omega
 have hold : (Builtin.firstCells i0.size i (.slice (some ⟨g, 0, none⟩) i c)).run Try.prog w.drew = .ok (cs.take (i * 2)).toArray w.drew := by
   rw [hzs]
   exact run_firstCells_some w.drew 2 i ⟨g, 0, none⟩ i c (cs.take (i * 2)) (by rw [List.length_take]; omega) (fun j v hj => by
     rw [qdh]
     rw [List.getElem?_take] at hj
     split at hj
     · exact (qaf hg j).trans (hcell j v hj)
     · cases hj)
 obtain ⟨G, hG⟩ : ∃ G, G = grownCap w (n + 1) c 80 := ⟨_, rfl⟩
 obtain ⟨ROW, hROW⟩ : ∃ ROW : Array Value, ROW = (cs.take (i * 2)).toArray ++ Builtin.zeroCells (Value.cells (.agg #[(.string ⟨#[]⟩), (.string ⟨#[]⟩)])) (n + 1 - i) ++ Builtin.zeroCells (Value.cells (.agg #[(.string ⟨#[]⟩), (.string ⟨#[]⟩)])) (G - (n + 1)) := ⟨_, rfl⟩
 have hrz : ∀ ty, (Builtin.append_ #[28, 3] ty #[.slice (some ⟨g, 0, none⟩) i c, .int .i64 ((n : Int) + 1 - (i : Int))]).run Try.prog w =
     .ok (.slice (some ⟨w.heap.size, 0, none⟩) (n + 1) G) (w.drew.alloc (.cells ROW 80)) := fun ty => by
   have h := Lib.run_append_grow_zeros w 28 3 ty 80 i0 _ .i64 .i64 hu hui hi0 hz0 (some ⟨g, 0, none⟩) i c (cs.take (i * 2)) hold (n + 1 - i) (by omega) (by omega) (by omega) (by omega) (by rw [hzb]; omega) (by rw [hzb, hik]; exact growslice_fits hroom hbig)
   rw [hik] at h
   rw [hkk, hROW, hG]
   exact h
 have hGn : n + 1 ≤ G := by rw [hG]; exact grownCap_ge w _ _ _
 have hGm : G ≤ maxLen := by rw [hG]; exact grownCap_le_maxLen w (n + 1) c 80 (by unfold maxLen; omega)
 have hG63 : G ≤ 9223372036854775807 := by unfold maxLen at hGm; omega
 have hRl : ROW.size = G * 2 := by
   rw [hROW]
   simp [Builtin.zeroCells, Value.cells]
   omega
 have hN : (w.alloc (.cells ROW 80)).heap[w.heap.size]? = some (.cells ROW 80 (0, 0)) := qco w _
 have hgN : (w.alloc (.cells ROW 80)).heap[g]? = some (.cells cur 80 (0, 0)) := (heap_alloc_old w _ hgw).trans hg
 have hvN : (w.alloc (.cells ROW 80)).heap[vb]? = some (.cells vs.toArray 80 (0, 0)) := (heap_alloc_old w _ hvw).trans hvb
 have hdl : (cs.drop (i * 2)).length = (n - i) * 2 := by rw [List.length_drop, hcl]; omega
 obtain ⟨R1, hR1⟩ : ∃ R1, R1 = (ROW.toList.take (i * 2) ++ vs ++ ROW.toList.drop (i * 2 + vs.length)).toArray := ⟨_, rfl⟩
 have hcp1 : ∀ (W : World), W.heap = (w.alloc (.cells ROW 80)).heap → ∀ ty dc, (Builtin.copy_ #[28, 28] ty #[.slice (some ⟨w.heap.size, i * 2, none⟩) (n + 1 - i) dc, .slice (some ⟨vb, 0, none⟩) 1 1]).run Try.prog W = .ok (goInt ((1 : Nat) : Int)) (W.setRow w.heap.size R1) := fun W hW ty dc => by
   have hgW : W.heap[w.heap.size]? = some (.cells ROW 80 (0, 0)) := by rw [hW]; exact hN
   have hvW : W.heap[vb]? = some (.cells vs.toArray 80 (0, 0)) := by rw [hW]; exact hvN
   have := qch (P := Try.prog) W 28 28 ty 80 2 w.heap.size (i * 2) (n + 1 - i) dc ⟨vb, 0, none⟩ 1 1 ROW 80 vs hu hsz hgW (by rw [hvl]; simp only [Nat.min_def]; split <;> omega)
     (fun j u hj => by
       rw [qdh, qaf hvW]
       simpa using hj) (by rw [hvl, hRl]; omega) h1v
   rw [this, hR1, show Nat.min 1 (n + 1 - i) = 1 by simp only [Nat.min_def]; split <;> omega]
 have hR1l : R1.size = G * 2 := by
   rw [hR1]
   simp only [List.size_toArray, List.length_append, List.length_take, List.length_drop, Array.length_toList, hRl, hvl]
   omega
 obtain ⟨R2, hR2⟩ : ∃ R2, R2 = (R1.toList.take ((i + 1) * 2) ++ cs.drop (i * 2) ++ R1.toList.drop ((i + 1) * 2 + (cs.drop (i * 2)).length)).toArray := ⟨_, rfl⟩
 have hcp2 : ∀ (W : World), W.heap = ((w.alloc (.cells ROW 80)).setRow w.heap.size R1).heap → ∀ ty dc sc, (Builtin.copy_ #[28, 28] ty #[.slice (some ⟨w.heap.size, (i + 1) * 2, none⟩) (n - i) dc, .slice (some ⟨g, i * 2, none⟩) (n - i) sc]).run Try.prog W = .ok (goInt ((n - i : Nat) : Int)) (W.setRow w.heap.size R2) := fun W hW ty dc sc => by
   have hgW : W.heap[w.heap.size]? = some (.cells R1 80 (0, 0)) := by rw [hW]; exact setRow_heap _ _ ROW R1 _ _ hN
   have hsW : W.heap[g]? = some (.cells cur 80 (0, 0)) := by rw [hW, setRow_other _ w.heap.size g R1 (by omega)]; exact hgN
   have := qch (P := Try.prog) W 28 28 ty 80 2 w.heap.size ((i + 1) * 2) (n - i) dc ⟨g, i * 2, none⟩ (n - i) sc R1 80 (cs.drop (i * 2)) hu hsz hgW (by rw [hdl]; simp only [Nat.min_def]; split <;> omega)
     (fun j u hj => by
       rw [Addr.add_lit, qaf hsW]
       rw [List.getElem?_drop] at hj
       exact hcell _ _ hj) (by rw [hdl, hR1l]; omega) (fun u hu => h1c u (List.mem_of_mem_drop hu))
   rw [this, hR2, show Nat.min (n - i) (n - i) = n - i by simp only [Nat.min_def]; split <;> omega]
 have hR2l : R2.size = G * 2 := by
   rw [hR2]
   simp only [List.size_toArray, List.length_append, List.length_take, List.length_drop, Array.length_toList, hR1l, hcl]
   omega
 have hRt : ROW.toList = cs.take (i * 2) ++ (Builtin.zeroCells (Value.cells (.agg #[(.string ⟨#[]⟩), (.string ⟨#[]⟩)])) (n + 1 - i) ++ Builtin.zeroCells (Value.cells (.agg #[(.string ⟨#[]⟩), (.string ⟨#[]⟩)])) (G - (n + 1))).toList := by rw [hROW]; simp
 have hfin : R2.toList.take ((n + 1) * 2) = cs.take (i * 2) ++ (vs ++ cs.drop (i * 2)) := by
   have := splice_splice cs vs (Builtin.zeroCells (Value.cells (.agg #[(.string ⟨#[]⟩), (.string ⟨#[]⟩)])) (n + 1 - i) ++ Builtin.zeroCells (Value.cells (.agg #[(.string ⟨#[]⟩), (.string ⟨#[]⟩)])) (G - (n + 1))).toList (i * 2) 2 (by rw [hcl]; omega) hvl
   rw [← hRt, hcl, show n * 2 + 2 = (n + 1) * 2 by omega] at this
   rw [hR2, hR1]
   simpa only [show i * 2 + 2 = (i + 1) * 2 by omega] using this
 have FIN : Aside0 ((((w.alloc (.cells ROW 80)).setRow w.heap.size R1).setRow w.heap.size R2).ownsRow base 80 2 (.slice (some ⟨w.heap.size, 0, none⟩) (n + 1) G) (n + 1) (cs.take (i * 2) ++ (vs ++ cs.drop (i * 2)))) :=
   ⟨own_mk hbase (setRow_heap _ _ R1 R2 _ _ (setRow_heap _ _ ROW R1 _ _ hN)) hGn hGm hR2l hfin (by rw [← hfin, List.length_take, Array.length_toList, hR2l]; omega)⟩
 have GR : Aside0 (w.grownBy (((w.alloc (.cells ROW 80)).setRow w.heap.size R1).setRow w.heap.size R2) none) := ⟨qfb (qfb (World.grownBy_alloc w _ _) (Nat.le_refl _) R1 rfl) (Nat.le_refl _) R2 rfl⟩
 have hz2 : ¬ ((i : Int) = (n : Int)) := by omega
 have hz3 : (c : Int) < (n : Int) + 1 := by omega
 have hw1 : IntKind.i64.wrap ((i : Int) + 1) = (i : Int) + 1 := by rw [IntKind.wrap_i64]; omega
 have hb1 : (0 : Int) ≤ (i : Int) + 1 := by omega
 have hin' : i ≤ n := by omega
 have htn : ((i : Int) + 1).toNat = i + 1 := by omega
 have hGi : ¬ (G = i) := by omega
 have hGim : ¬ (G = i + 1) := by omega
 have hci : ¬ (c = i) := by omega
 have hb3 : (i : Int) ≤ (n : Int) := by omega
 have hn63 : n ≤ 4611686018427387904 := by omega
 have HC1 := Aside0.mk hcp1
 have HC2 := Aside0.mk hcp2
 clear hcp1 hcp2 hfin hR1 hR2 hR1l hR2l hcell hlen hcs h1c h1v hvb hg hcap hdl hcl hvl hRt hN hgN hvN hRl hROW hG hold hkk hik hGm hgw hvw
 go_enter Try.func121, Try.ntmps121
 go_wp2_with (at_builtin; refine Lib.wpList_append_run _ rfl _ _ _ _ rfl _ _ rfl rfl _ _ (hrz _) ?_)
 rw [HC1.out ((w.alloc (.cells ROW 80)).drew) rfl]
 go_wp2
 go_region_law (refine step_copy_runI rfl _ _ 28 28 rfl _ _ (by simp [Act.eval, Act.put]) (by simp [Act.eval, Act.put]) (HC2.out (((w.alloc (.cells ROW 80)).drew.setRow w.heap.size R1).drew) rfl _ (G - (i + 1)) (c - i)) ?_)
 go_wp2
 go_ret
 exact ⟨_, rfl, FIN.out, ⟨GR.out.os, GR.out.tape, GR.out.output, GR.out.size, GR.out.block⟩, rfl⟩
theorem lib_ins_File (base : Nat) (v : Value) (n i : Nat) (cs vs : List Value) (vb : Nat) (w : World) (ho : w.ownsRow base 80 2 v n cs) (h1c : ∀ u ∈ cs, u.oneCell' = true) (hi : i ≤ n)
   (hvb : w.heap[vb]? = some (.cells vs.toArray 80 (0, 0))) (hvl : vs.length = 2) (h1v : ∀ u ∈ vs, u.oneCell' = true) (hne : v.ownBlock ≠ some vb) (hbase : base ≤ w.heap.size) (hl : (n + 1) * 32 ≤ 140737488355328) :
   Calls Try.prog 121 #[v, .int .i64 i, .slice (some ⟨vb, 0, none⟩) 1 1] w fun e w' => ∃ v', e = .returned v' ∧ w'.ownsRow base 80 2 v' (n + 1) (cs.take (i * 2) ++ (vs ++ cs.drop (i * 2))) ∧ w.grownBy w' v.ownBlock ∧ (v'.ownBlock = v.ownBlock ∨ ∃ b, v'.ownBlock = some b ∧ w.heap.size ≤ b) := by
 by_cases he : i = n
 · subst he
   have hcl : cs.length = i * 2 := ho.1
   rw [List.take_of_length_le (by omega), List.drop_of_length_le (by omega), List.append_nil]
   exact lib_insEnd_File base v i cs vs vb w ho hvb hvl h1v hbase hl
 · obtain ⟨g, cap, cur, rfl, hbg, hg, hnc, hcm, hcap, hcs⟩ := qfc ho (by omega)
   have hcl : cs.length = n * 2 := ho.1
   have hne' : vb ≠ g := fun h => hne (by rw [h]; rfl)
   by_cases hroom : n + 1 ≤ cap
   · refine (qep base g cap i n cur cs vs vb w hg hbg hcap hcm (by omega) hroom hcl hcs h1c hvb hvl h1v hne').mono ?_
     rintro e w' ⟨rfl, h1, h2⟩
     exact ⟨_, rfl, h1, h2, .inl rfl⟩
   · refine (qeq base g cap i n cur cs vs vb w hg hbase hcap (by omega) hnc (by omega) hl hcl hcs h1c hvb hvl h1v).mono ?_
     rintro e w' ⟨v', rfl, h1, h2, h3⟩
     exact ⟨_, rfl, h1, ⟨h2.os, h2.tape, h2.output, h2.size, fun k hk _ => h2.block k hk (by simp)⟩, .inr ⟨_, h3, Nat.le_refl _⟩⟩

end

section
theorem reps_enc {α : Type} {R : α → List Value → Prop} {enc : α → List Value} {size : Nat} (hR : ∀ x cs, R x cs → cs = enc x) : ∀ (xs : List α) (cs : List Value), Reps R size xs cs → cs = xs.flatMap enc
 | [], cs, h => by
   have := h.1
   simp at this
   simpa using this
 | x :: xs, cs, h => by
   have h0 := hR _ _ (h.2 0 x rfl)
   rw [Nat.zero_mul, List.drop_zero] at h0
   have hl : cs.length = (xs.length + 1) * size := by simpa using h.1
   have ht : Reps R size xs (cs.drop size) := by
     refine ⟨by rw [List.length_drop, hl, Nat.succ_mul]; omega, fun j p hj => ?_⟩
     have := h.2 (j + 1) p (by simpa using hj)
     rwa [List.drop_drop, Nat.add_comm size, ← Nat.succ_mul]
   rw [List.flatMap_cons, ← h0, ← reps_enc hR xs _ ht, List.take_append_drop]
theorem enc_reps {α : Type} {R : α → List Value → Prop} {enc : α → List Value} {size : Nat} (hR : ∀ x, R x (enc x)) (hl : ∀ x, (enc x).length = size) : ∀ (xs : List α), Reps R size xs (xs.flatMap enc)
 | [] => ⟨by simp, fun j p h => by simp at h⟩
 | x :: xs => by
   have ih := enc_reps hR hl xs
   refine ⟨by rw [List.flatMap_cons, List.length_append, hl, ih.1, List.length_cons, Nat.succ_mul]; omega, fun j p hj => ?_⟩
   cases j with
   | zero =>
     obtain rfl : x = p := by simpa using hj
     rw [Nat.zero_mul, List.drop_zero, List.flatMap_cons, List.take_append_of_le_length (by rw [hl]; exact Nat.le_refl _), List.take_of_length_le (by rw [hl]; exact Nat.le_refl _)]
     exact hR x
   | succ j =>
     have := ih.2 j p (by simpa using hj)
     rw [List.flatMap_cons, Nat.succ_mul, Nat.add_comm, ← List.drop_drop, List.drop_append_of_le_length (by rw [hl]; exact Nat.le_refl _), List.drop_of_length_le (l := enc x) (by rw [hl]; exact Nat.le_refl _), List.nil_append]
     exact this
theorem qdz {α : Type} {enc : α → List Value} {size : Nat} (hl : ∀ x, (enc x).length = size) : ∀ (xs : List α) (i : Nat), (xs.flatMap enc).take (i * size) = (xs.take i).flatMap enc
 | [], i => by simp
 | x :: xs, 0 => by simp
 | x :: xs, i + 1 => by
   rw [List.flatMap_cons, Nat.succ_mul, Nat.add_comm, List.take_append, hl, Nat.add_sub_cancel_left, qdz hl xs i, List.take_succ_cons, List.flatMap_cons, List.take_of_length_le (by rw [hl]; omega)]
theorem qea {α : Type} {enc : α → List Value} {size : Nat} (hl : ∀ x, (enc x).length = size) : ∀ (xs : List α) (i : Nat), (xs.flatMap enc).drop (i * size) = (xs.drop i).flatMap enc
 | [], i => by simp
 | x :: xs, 0 => by simp
 | x :: xs, i + 1 => by
   rw [List.flatMap_cons, Nat.succ_mul, Nat.add_comm, ← List.drop_drop, List.drop_append_of_le_length (by rw [hl]; exact Nat.le_refl _), List.drop_of_length_le (l := enc x) (by rw [hl]; exact Nat.le_refl _), List.nil_append, qea hl xs i, List.drop_succ_cons]
theorem flat_one {α : Type} {enc : α → List Value} (h : ∀ x, ∀ u ∈ enc x, u.oneCell' = true) (xs : List α) : ∀ u ∈ xs.flatMap enc, u.oneCell' = true := fun u hu => by
 obtain ⟨x, _, hx⟩ := List.mem_flatMap.1 hu
 exact h x u hx

end

section
def qcj (x : S80) : List Value := [.string x.f0, .string x.f1]
theorem qbu (x : S80) : (qcj x).length = 2 := rfl
theorem qcx (x : S80) : ∀ u ∈ qcj x, u.oneCell' = true := by
 intro u hu
 simp only [qcj, List.mem_cons, List.not_mem_nil, or_false] at hu
 rcases hu with rfl | rfl <;> rfl
theorem qcf {w : World} {base : Nat} {ok : Nat → Prop} {v : Value} {xs : List S80} (h : Kd.R k80 80 w base ok v xs) : w.ownsRow base 80 2 v xs.length (xs.flatMap qcj) := by
 obtain ⟨_, inner, ho, hr⟩ := h
 rw [← reps_enc (enc := qcj) (fun x cs hM => qcm hM) xs inner hr]
 exact ho
theorem qds {w : World} {base : Nat} {ok : Nat → Prop} {v : Value} {xs : List S80} (h : w.ownsRow base 80 2 v xs.length (xs.flatMap qcj)) (hok : ∀ k, v.ownBlock = some k → ok k) : Kd.R k80 80 w base ok v xs :=
 ⟨hok, _, h, enc_reps (fun x => qcp w base _ x) qbu xs⟩

end

section
open Go
theorem qeb : ∀ (x y : List UInt8), Op.bytesLess x y = decide (x < y)
 | [], [] => by simp [Op.bytesLess]
 | [], _ :: _ => by simp [Op.bytesLess]
 | _ :: _, [] => by simp [Op.bytesLess]
 | a :: x, b :: y => by
   rw [Op.bytesLess, qeb x y]
   rw [Bool.eq_iff_iff]
   simp [List.cons_lt_cons_iff]
theorem qdl (x : List UInt8) : Op.bytesLess x x = false := by
 rw [qeb]
 exact decide_eq_false (List.lt_irrefl x)
theorem qde {x y z : List UInt8} (h : Op.bytesLess x y = true) (k : Op.bytesLess y z = true) : Op.bytesLess x z = true := by
 rw [qeb, decide_eq_true_eq] at *
 exact List.lt_trans h k
theorem bless_tri (x y : List UInt8) : Op.bytesLess x y = true ∨ x = y ∨ Op.bytesLess y x = true := by
 rw [qeb, qeb, decide_eq_true_eq, decide_eq_true_eq]
 by_cases h : x < y
 · exact .inl h
 · rcases List.le_iff_lt_or_eq.1 (List.not_lt.1 h) with h | h
   · exact .inr (.inr h)
   · exact .inr (.inl h.symm)
theorem cmp_neg (a b : List UInt8) : Lib.compareBytes a b < 0 ↔ Op.bytesLess a b = true := by
 induction a generalizing b with
 | nil => cases b <;> simp [Lib.compareBytes, Op.bytesLess]
 | cons x a ih =>
   cases b with
   | nil => simp [Lib.compareBytes, Op.bytesLess]
   | cons y b =>
     have := ih b
     rw [Op.bytesLess, Lib.compareBytes]
     by_cases h1 : x < y
     · simp [h1]
     · by_cases h2 : x = y
       · subst h2
         simpa [h1] using this
       · have h3 : y < x := by
           rw [UInt8.lt_iff_toNat_lt] at h1 ⊢
           have : x.toNat ≠ y.toNat := fun h => h2 (UInt8.toNat_inj.1 h)
           omega
         simp [h1, h2, h3]
theorem cmp_zero (a b : List UInt8) : Lib.compareBytes a b = 0 ↔ a = b := by
 induction a generalizing b with
 | nil => cases b <;> simp [Lib.compareBytes]
 | cons x a ih =>
   cases b with
   | nil => simp [Lib.compareBytes]
   | cons y b =>
     have := ih b
     rw [Lib.compareBytes]
     by_cases h1 : x < y
     · have : x ≠ y := fun h => by subst h; exact absurd h1 (by rw [UInt8.lt_iff_toNat_lt]; omega)
       simp [h1, this]
     · by_cases h3 : y < x
       · have : x ≠ y := fun h => by subst h; exact absurd h3 (by rw [UInt8.lt_iff_toNat_lt]; omega)
         simp [h1, h3, this]
       · have h2 : x = y := by
           rw [UInt8.lt_iff_toNat_lt] at h1 h3
           exact UInt8.toNat_inj.1 (by omega)
         subst h2
         simp [h1, this]
theorem qcn (s : ByteArray) : s.toList = s.data.toList := ByteArray.toList_eq s
theorem bs_inj {a b : ByteArray} : a.toList = b.toList ↔ a = b := by
 constructor
 · intro h
   rw [qcn, qcn] at h
   exact ByteArray.ext (Array.toList_inj.1 h)
 · rintro rfl
   rfl

end

section
open Go.Shelf
def shelf.lays106_ren : Go.Shelf.Ren := ⟨fun | 106 => 120 | 213 => 132 | 265 => 140 | n => n, fun | 9 => 9 | 3 => 3 | n => n, fun | n => n⟩
theorem shelf.lays106 : Go.Proofs.Lays.n106 Try.prog shelf.lays106_ren := {
 mixed := by kernel_rfl
 f106 := Try.func120.trans (congrArg some (by kernel_rfl))
 f213 := Try.func132.trans (congrArg some (by kernel_rfl))
 f265 := Try.func140.trans (congrArg some (by kernel_rfl))
 t3 := Try.underlying3
 a3 := Try.isAgg3
 z3 := Try.sizeOf3
 v3 := Try.zeroValue3
 t9 := Try.underlying9
 a9 := Try.isAgg9
 z9 := Try.sizeOf9
 v9 := Try.zeroValue9 }
open Go.RowKit in
theorem shelf.strings_Compare (a b : ByteArray) (w : World) :
   Calls Try.prog 120 #[.string a, .string b] w fun e w' => e = .returned (.int .i64 (Lib.compareBytes a.data.toList b.data.toList)) ∧ w' = w := Any.strings_Compare shelf.lays106 a b w

end

section
attribute [local go_sem] str_geq str_leq str_gtr
def qbi (n : ByteArray) (x : S80) : Int := Lib.compareBytes x.f0.data.toList n.data.toList
def qcq (l : List S80) : Prop := l.Pairwise (fun a b => Op.bytesLess a.f0.toList b.f0.toList = true)
instance (l : List S80) : Decidable (qcq l) := by unfold qcq; infer_instance
def putF (l : List S80) (n d : ByteArray) : List S80 :=
 if hitAt z80 (qbi n) l = true then l.set (cntLt (qbi n) l) ⟨n, d⟩ else l.take (cntLt (qbi n) l) ++ (⟨n, d⟩ :: l.drop (cntLt (qbi n) l))
def impl_withFile.f (l0 : List S80) (a1_0 a1_1 : ByteArray) : Option (List S80) := if l0.length < 2199023255552 ∧ qcq l0 then some (putF l0 a1_0 a1_1) else none
theorem impl_withFile.lit (n : ByteArray) (x : S80) (W : World) :
   Calls Try.prog 119 #[.agg #[.string x.f0, .string x.f1], .string n] W fun e W' => e = .returned (.int .i64 (qbi n x)) ∧ Below W.heap.size W W' := by
 have hu := Try.underlying80
 go_enter Try.func119, Try.ntmps119
 go_wp2_with (go_at_call 120; refine (shelf.strings_Compare _ _ _).mono ?_; rintro e w' ⟨rfl, rfl⟩)
 go_ret
 exact ⟨rfl, by repeat (first | exact Below.refl _ _ | apply qab | apply qaa | apply qcr)⟩
theorem risesF_mono {l : List S80} (h : qcq l) (n : ByteArray) (a b : Nat) (hab : a ≤ b) (hb : b < l.length) (hlt : qbi n (l.getD b z80) < 0) : qbi n (l.getD a z80) < 0 := by
 by_cases he : a = b
 · rw [he]; exact hlt
 · have ha : a < l.length := by omega
   have hp := List.pairwise_iff_getElem.1 h a b ha hb (by omega)
   unfold qbi at hlt ⊢
   rw [cmp_neg] at hlt ⊢
   rw [List.getD_eq_getElem?_getD, List.getElem?_eq_getElem hb] at hlt
   rw [List.getD_eq_getElem?_getD, List.getElem?_eq_getElem ha]
   rw [qcn, qcn] at hp
   exact qde hp hlt
theorem qdm (l : List S80) (h : l.length < 4398046511104) : impl_copyFiles.f l = some l := by
 unfold impl_copyFiles.f
 rw [Option.bind_some, if_pos (by simpa using h), List.nil_append]
theorem cntLt_le {α : Type} (cf : α → Int) (l : List α) : cntLt cf l ≤ l.length := List.countP_le_length
set_option maxHeartbeats 8000000 in
set_option maxRecDepth 100000 in
theorem impl_withFile.calls (A0 : Option Addr) (c0 : Nat) (l0 : List (S80)) (a1_0 : ByteArray) (a1_1 : ByteArray) (r : List (S80)) (w : World) (hr0 : Kd.C k80 w A0 l0.length l0) (hc0 : l0.length ≤ c0) (h : impl_withFile.f l0 a1_0 a1_1 = some r) :
   Calls Try.prog 99 #[.slice A0 l0.length c0, .agg #[.string a1_0, .string a1_1]] w fun e w' => ∃ v0_ : Value, e = .returned (v0_) ∧ Kd.R k80 80 w' w.heap.size (fun _ => True) v0_ r ∧ Below w.heap.size w w' := by
 unfold impl_withFile.f at h
 by_cases hc : l0.length < 2199023255552 ∧ qcq l0
 · rw [if_pos hc] at h
   have HQ := Aside0.mk (Option.some.inj h)
   have hu := Try.underlying80
   have HR := Aside0.mk hr0
   have HF := Aside0.mk (fun W1 h => impl_copyFiles.calls A0 c0 l0 l0 W1 h hc0 (qdm l0 (by omega)))
   have HM := Aside0.mk (risesF_mono hc.2 a1_0)
   have hln : l0.length < 2199023255552 := hc.1
   clear hr0 h hc hc0
   go_enter Try.func99, Try.ntmps99
   go_wp2_with fail
   refine (HF.out _ ?h1).mono ?_
   case h1 => exact Kd.C_alloc HR.out _
   rintro e w1 ⟨v0, rfl, ho1, hb1⟩
   obtain ⟨A1, c1, rfl, hl1, hC1⟩ := Kd.R_reads ho1
   have HO := Aside0.mk (Kd.R_lower ho1 (by simp : w.heap.size ≤ (w.alloc (.cells #[.string a1_0, .string a1_1] 80)).heap.size))
   have HC := Aside0.mk hC1
   have HB1 : Aside0 (Below w.heap.size w w1) := ⟨qak (qab (Below.refl _ _) _) hb1⟩
   have BX : Aside0 (w1.heap[w.heap.size]? = some (.cells #[.string a1_0, .string a1_1] 80 (0, 0))) := ⟨qao (qco w _) hb1⟩
   have hx0 : w1.cell? ⟨w.heap.size, 0, none⟩ = some (.string a1_0) := (qaf BX.out 0).trans rfl
   clear ho1 hC1 hb1
   go_wp2_with fail
   refine (lib_bs_File 119 #[] (.string a1_0) (qbi a1_0) (enters_of Try.func119 (by kernel_rfl) rfl) A1 c1 l0 _ HC.out (by omega) ?h2 HM.out).mono ?_
   case h2 =>
     intro x hx W hW
     exact impl_withFile.lit a1_0 x W
   rintro e w2 ⟨rfl, hb2⟩
   have HB2 : Aside0 (Below w.heap.size w w2) := ⟨qak HB1.out hb2⟩
   have BX2 := Aside0.mk (qao BX.out hb2)
   have HO2 := Aside0.mk (Kd.R_below HO.out hb2)
   have hx0 : w2.cell? ⟨w.heap.size, 0, none⟩ = some (.string a1_0) := (qaf BX2.out 0).trans rfl
   have hx1 : w2.cell? ⟨w.heap.size, 1, none⟩ = some (.string a1_1) := (qaf BX2.out 1).trans rfl
   clear hb2 HO BX HB1
   have hcl : cntLt (qbi a1_0) l0 ≤ l0.length := cntLt_le _ _
   have hq := HQ.out
   unfold putF at hq
   clear HQ
   have hhl : hitAt z80 (qbi a1_0) l0 = true → cntLt (qbi a1_0) l0 < l0.length := fun hh => by
     unfold hitAt at hh
     rw [Bool.and_eq_true, decide_eq_true_eq] at hh
     exact hh.1
   generalize cntLt (qbi a1_0) l0 = cn at *
   cases hh : hitAt z80 (qbi a1_0) l0 with
   | true =>
     have hlt : cn < l0.length := hhl hh
     rw [hh, if_pos rfl] at hq
     have HQ := Aside0.mk hq
     clear hq hhl
     obtain ⟨g, cap, cur, hv, hbg, hg, _⟩ := qfc (qcf HO2.out) (by omega)
     injection hv with hv1 hv2 hv3
     subst hv1
     subst hv3
     clear hv2
     obtain ⟨c, hcl', hM, hcc, hfz⟩ := Kd.R_elem HO2.out z80 (cn : Int) (by omega) (by omega)
     obtain rfl := qcm hM
     have hc0 : w2.cell? ⟨g, cn * 2, none⟩ = some (.string (qan l0 cn).f0) := hcc 0 _ rfl
     have hc1 : w2.cell? ⟨g, cn * 2 + 1, none⟩ = some (.string (qan l0 cn).f1) := hcc 1 _ rfl
     have hf0 : w2.frozen? ⟨g, cn * 2, none⟩ = false := hfz 0
     have hf1 : w2.frozen? ⟨g, cn * 2 + 1, none⟩ = false := hfz 1
     have hseg := (Kd.R_seg HO2.out (cn : Int) (by omega) (by omega) (c := [.string (qan l0 cn).f0, .string (qan l0 cn).f1]) (seg := [.string a1_0, .string a1_1]) (j := 0) rfl hcc (Nat.le_refl _) (x' := ⟨a1_0, a1_1⟩) (okp := fun k => True ∧ k ≠ g) (qcp w2 _ _ ⟨a1_0, a1_1⟩) (fun k hk => hk)).1
     have HS : Aside0 (Kd.R k80 80 ((w2.setCell ⟨g, cn * 2, none⟩ (.string a1_0)).setCell ⟨g, cn * 2 + 1, none⟩ (.string a1_1)) w.heap.size (fun _ => True) (.slice (some ⟨g, 0, none⟩) l0.length _) (l0.set cn ⟨a1_0, a1_1⟩)) := ⟨hseg⟩
     have HG : Aside0 (w.heap.size ≤ g) := ⟨hbg⟩
     clear hcc hfz hM hcl' hseg hbg hg hh HM
     have hlt' : (cn : Int) < (l0.length : Int) := by omega
     go_wp2
     go_ret
     exact ⟨_, rfl, by rw [← HQ.out]; exact HS.out, qae (qae HB2.out HG.out) HG.out⟩
   | false =>
     rw [hh, if_neg (by simp)] at hq
     have HQ := Aside0.mk hq
     clear hq hhl hh
     go_wp2_with fail
     refine (lib_ins_File w.heap.size (.slice A1 l0.length c1) l0.length cn (l0.flatMap qcj) [.string a1_0, .string a1_1] w2.heap.size _ ?o (flat_one qcx _) hcl ?vb rfl ?one ?ne ?base (by omega)).mono ?_
     case o => exact (qcf HO2.out).alloc _
     case vb => exact qco w2 _
     case one => exact qcx ⟨a1_0, a1_1⟩
     case ne =>
       intro he
       have := own_lt (qcf HO2.out) _ he
       omega
     case base =>
       have := HB2.out.size
       simp
       omega
     rintro e w3 ⟨v', rfl, ho3, hg3, hat⟩
     have HO3 := Aside0.mk ho3
     have HB3 : Aside0 (Below w.heap.size w w3) := ⟨qcy (qab HB2.out _) _ (by have := HB2.out.size; simp; omega) hg3 (fun k hk => qcg (qcf HO2.out) k hk)⟩
     clear ho3 hg3 hat
     go_wp2
     go_ret
     refine ⟨_, rfl, ?_, HB3.out⟩
     rw [← HQ.out]
     refine qds ?_ (fun _ _ => trivial)
     have := HO3.out
     rw [qdz qbu, qea qbu] at this
     simpa [List.flatMap_append, qcj, Nat.min_eq_left hcl, show cn + (l0.length - cn + 1) = l0.length + 1 by omega] using this
 · rw [if_neg hc] at h
   cases h

end

section
set_option maxHeartbeats 4000000 in
set_option maxRecDepth 100000 in
theorem lib_delAt_File (base g c i j n : Nat) (cur : Array Value) (cs : List Value) (w : World) (hg : w.heap[g]? = some (.cells cur 80 (0, 0))) (hbg : base ≤ g) (hcap : cur.size = c * 2) (hnc : n ≤ c) (hc63 : c ≤ maxLen) (hij : i < j) (hji : j ≤ i + 1) (hjn : j ≤ n)
   (hcl : cs.length = n * 2) (hcs : cur.toList.take (n * 2) = cs) (h1c : ∀ u ∈ cs, u.oneCell' = true) :
   Calls Try.prog 100 #[.slice (some ⟨g, 0, none⟩) n c, .int .i64 i, .int .i64 j] w fun e w' => e = .returned (.slice (some ⟨g, 0, none⟩) (n - 1) c) ∧ w'.ownsRow base 80 2 (.slice (some ⟨g, 0, none⟩) (n - 1) c) (n - 1) (cs.take (i * 2) ++ cs.drop (j * 2)) ∧ w.grownBy w' (some g) := by
 have hu := Try.underlying28
 obtain ⟨i0, hi0, hz0, hzs, hzb⟩ := info_parts qcl
 have hlen : cur.toList.length = c * 2 := by rw [Array.length_toList]; exact hcap
 have hcell : ∀ q u, cs[q]? = some u → w.cell? ⟨g, q, none⟩ = some u := fun q u hj => by
   rw [qaf hg]
   rw [← hcs, List.getElem?_take] at hj
   split at hj
   · simpa using hj
   · cases hj
 obtain ⟨news, hnews⟩ : ∃ news, news = cs.drop (j * 2) := ⟨_, rfl⟩
 have hdl : news.length = (n - j) * 2 := by rw [hnews, List.length_drop, hcl]; omega
 obtain ⟨A, hA, hsrc⟩ : ∃ A : Addr, (if c = j then some (⟨g, 0, none⟩ : Addr) else some ⟨g, j * 2, none⟩) = some A ∧ Aside0 (∀ t u, news[t]? = some u → w.drew.cell? (A.add t) = some u) := by
   by_cases h : c = j
   · refine ⟨⟨g, 0, none⟩, by simp [h], ⟨fun t u hu => ?_⟩⟩
     have h0 : news.length = 0 := by rw [hdl]; omega
     rw [List.length_eq_zero_iff.1 h0] at hu
     simp at hu
   · refine ⟨⟨g, j * 2, none⟩, by simp [h], ⟨fun t u hu => ?_⟩⟩
     rw [hnews, List.getElem?_drop] at hu
     rw [Addr.add_lit]
     exact hcell _ _ hu
 obtain ⟨R1, hR1⟩ : ∃ R1, R1 = (cur.toList.take (i * 2) ++ news ++ cur.toList.drop (i * 2 + news.length)).toArray := ⟨_, rfl⟩
 have h1n : ∀ u ∈ news, u.oneCell' = true := fun u hu => h1c u (List.mem_of_mem_drop (by rw [← hnews]; exact hu))
 have hset : w.drew.setCells g (0 + i * 2) news = w.drew.setRow g R1 := by
   rw [Nat.zero_add, hR1]
   exact setCells_row Try.prog w.drew g (i * 2) 80 news cur hg (by rw [hdl, hcap]; omega) h1n
 have hR1l : R1.size = c * 2 := by
   rw [hR1]
   simp only [List.size_toArray, List.length_append, List.length_take, List.length_drop, hlen, hdl]
   omega
 have hg1 : (w.drew.setRow g R1).heap[g]? = some (.cells R1 80 (0, 0)) := setRow_heap _ g cur R1 _ _ hg
 have hz1 : ∀ m, ∀ v ∈ (Builtin.zeroCells (Value.cells (.agg #[(.string ⟨#[]⟩), (.string ⟨#[]⟩)])) m).toList, v.oneCell' = true := fun m v hv => by
   simp only [Builtin.zeroCells, Array.toList_map, List.mem_map] at hv
   obtain ⟨q, _, rfl⟩ := hv
   have : q % (Value.cells (.agg #[(.string ⟨#[]⟩), (.string ⟨#[]⟩)])).size < 2 := Nat.mod_lt _ (by decide)
   generalize q % (Value.cells (.agg #[(.string ⟨#[]⟩), (.string ⟨#[]⟩)])).size = r at this
   match r, this with
   | 0, _ => rfl
   | 1, _ => rfl
 obtain ⟨R2, hR2⟩ : ∃ R2, R2 = (R1.toList.take ((i + (n - j)) * 2) ++ (Builtin.zeroCells (Value.cells (.agg #[(.string ⟨#[]⟩), (.string ⟨#[]⟩)])) (n - (i + (n - j)))).toList ++ R1.toList.drop ((i + (n - j)) * 2 + (n - (i + (n - j))) * 2)).toArray := ⟨_, rfl⟩
 have hcl2 : ∀ ty, (Builtin.clear_ #[28] ty #[.slice (some ⟨g, (i + (n - j)) * 2, none⟩) (n - (i + (n - j))) (c - (i + (n - j)))]).run Try.prog (w.drew.setRow g R1) = .ok (.tuple #[]) ((w.drew.setRow g R1).setRow g R2) := fun ty => by
   rw [hR2]
   exact qfd (w.drew.setRow g R1) 28 80 ty (.agg #[(.string ⟨#[]⟩), (.string ⟨#[]⟩)]) hu Try.zeroValue80 g ((i + (n - j)) * 2) (n - (i + (n - j))) _ (by omega) R1 80 hg1 (by rw [hR1l]; show _ + _ * 2 ≤ _; omega) (hz1 _)
 have hzl : (Builtin.zeroCells (Value.cells (.agg #[(.string ⟨#[]⟩), (.string ⟨#[]⟩)])) (n - (i + (n - j)))).toList.length = (n - (i + (n - j))) * 2 := by rw [Array.length_toList, qda]; rfl
 have hR2l : R2.size = c * 2 := by
   rw [hR2]
   simp only [List.size_toArray, List.length_append, List.length_take, List.length_drop, Array.length_toList, hR1l] at hzl ⊢
   rw [hzl]
   omega
 have hfin : R2.toList.take ((n - 1) * 2) = cs.take (i * 2) ++ cs.drop (j * 2) := by
   have := del_shift cur.toList cs (Builtin.zeroCells (Value.cells (.agg #[(.string ⟨#[]⟩), (.string ⟨#[]⟩)])) (n - (i + (n - j)))).toList (i * 2) (j * 2) ((n - 1) * 2) (by omega) (by rw [hcl]; omega) (by rw [hcl]; exact hcs) (by rw [hcl, hlen]; omega) (by rw [hcl]; omega)
   rw [hR2, hR1, hnews]
   rw [hzl] at this
   simpa only [show i + (n - j) = n - 1 by omega] using this
 have FIN : Aside0 (((w.drew.setRow g R1).setRow g R2).ownsRow base 80 2 (.slice (some ⟨g, 0, none⟩) (n - 1) c) (n - 1) (cs.take (i * 2) ++ cs.drop (j * 2))) :=
   ⟨own_mk hbg (setRow_heap _ g R1 R2 _ _ hg1) (by omega) hc63 hR2l hfin (by rw [← hfin, List.length_take, Array.length_toList, hR2l]; omega)⟩
 have GR : Aside0 (w.grownBy ((w.drew.setRow g R1).setRow g R2) (some g)) := ⟨qcw (qcw (qek w _) (qci _ g R1 _ (.inl rfl))) (qci _ g R2 _ (.inl rfl))⟩
 have s1 := Aside0.mk hdl
 have s2 := Aside0.mk h1n
 have s3 : Aside0 (∀ t, t < news.length → (w.drew.cell? ⟨g, 0 + i * 2 + t, none⟩).isSome = true ∧ w.drew.frozen? ⟨g, 0 + i * 2 + t, none⟩ = false) := ⟨fun t ht => by
   rw [hdl] at ht
   refine ⟨?_, qad hg _⟩
   show (w.cell? _).isSome = true
   rw [qaf hg, Array.getElem?_eq_getElem (by omega)]
   rfl⟩
 have hS := Aside0.mk hset
 have hcm : c ≤ 9223372036854775807 := by unfold maxLen at hc63; omega
 have hic : i ≤ c := by omega
 have hjc : j ≤ c := by omega
 have hne : ¬ ((i : Int) = (j : Int)) := by omega
 clear hset hcell hnews hR1 hR2 hR1l hR2l hg1 hz1 hzl hfin hlen hcs h1c hcl hdl h1n hg hcap hc63 hz0 hzb
 go_enter Try.func100, Try.ntmps100
 go_wp2_with fail
 go_region_law (refine step_append_room rfl (.tmp 22) (.tmp 25) 28 rfl 80 i0 2 hu hi0 hzs g 0 i c (by simp [Act.eval, Act.put]) A (n - j) (c - j) news (by simp [Act.eval, Act.put]) s1.out hsrc.out s2.out (by omega) s3.out ?_; rw [hS.out])
 go_wp2
 go_ret
 exact ⟨by rw [show n - 1 = i + (n - j) by omega]; rfl, FIN.out, GR.out⟩
theorem qel (base : Nat) (v : Value) (n i : Nat) (cs : List Value) (w : World) (ho : w.ownsRow base 80 2 v n cs) (h1c : ∀ u ∈ cs, u.oneCell' = true) (hi : i < n) :
   Calls Try.prog 100 #[v, .int .i64 i, .int .i64 ((i : Int) + 1)] w fun e w' => ∃ v', e = .returned v' ∧ w'.ownsRow base 80 2 v' (n - 1) (cs.take (i * 2) ++ cs.drop ((i + 1) * 2)) ∧ w.grownBy w' v.ownBlock ∧ v'.ownBlock = v.ownBlock := by
 obtain ⟨g, cap, cur, rfl, hbg, hg, hnc, hcm, hcap, hcs⟩ := qfc ho (by omega)
 rw [show (i : Int) + 1 = ((i + 1 : Nat) : Int) by omega]
 refine (lib_delAt_File base g cap i (i + 1) n cur cs w hg hbg hcap hnc hcm (by omega) (Nat.le_refl _) (by omega) ho.1 hcs h1c).mono ?_
 rintro e w' ⟨rfl, h1, h2⟩
 exact ⟨_, rfl, h1, h2, rfl⟩

end

section
def onF (l : List S80) (k : Int) (n t d : ByteArray) : List S80 × Bool :=
 if k = 1 then (putF l n (if 0 ≤ idxP (qbb n) l then (qan l (idxP (qbb n) l)).f1 ++ d else d), true)
 else if 0 ≤ idxP (qbb n) l then
   if k = 3 then (l.take (idxP (qbb n) l).toNat ++ l.drop ((idxP (qbb n) l).toNat + 1), true)
   else (putF (l.take (idxP (qbb n) l).toNat ++ l.drop ((idxP (qbb n) l).toNat + 1)) t (qan l (idxP (qbb n) l)).f1, true)
 else (l, false)
theorem idxP_lt {α : Type} (p : α → Bool) (l : List α) : idxP p l < (l.length : Int) := by
 unfold idxP
 cases h : l.findIdx? p with
 | none => simp <;> omega
 | some i =>
   rw [List.findIdx?_eq_some_iff_getElem] at h
   obtain ⟨hi, _⟩ := h
   simpa using hi
theorem idxP_ge {α : Type} (p : α → Bool) (l : List α) : -1 ≤ idxP p l := by
 unfold idxP
 cases h : l.findIdx? p with
 | none => simp
 | some i => simp <;> omega
theorem idxP_at {α : Type} (p : α → Bool) (z : α) (l : List α) (h : 0 ≤ idxP p l) : p (l.getD (idxP p l).toNat z) = true := by
 unfold idxP at h ⊢
 cases hf : l.findIdx? p with
 | none => rw [hf] at h; simp at h
 | some i =>
   rw [List.findIdx?_eq_some_iff_getElem] at hf
   obtain ⟨hi, hp, _⟩ := hf
   simp only [Int.toNat_natCast]
   rw [List.getD_eq_getElem?_getD, List.getElem?_eq_getElem hi]
   exact hp
theorem qdt (l : List S80) (n d : ByteArray) (h : l.length < 2199023255552) (hr : qcq l) : impl_withFile.f l n d = some (putF l n d) := by
 unfold impl_withFile.f
 rw [if_pos ⟨h, hr⟩]
theorem risesF_cut {l : List S80} (h : qcq l) (i : Nat) : qcq (l.take i ++ l.drop (i + 1)) := by
 refine List.Pairwise.sublist ?_ h
 conv => rhs; rw [← List.take_append_drop i l]
 refine List.Sublist.append (List.Sublist.refl _) ?_
 rw [← List.drop_drop]
 exact List.drop_sublist _ _
set_option maxHeartbeats 4000000 in
set_option maxRecDepth 100000 in
theorem on_run (k : Int) (n t d : ByteArray) (A : Option Addr) (c : Nat) (l : List S80) (w : World) (hr : Kd.C k80 w A l.length l) (hc : l.length ≤ c) (hlen : l.length < 1099511627776) (hris : qcq l) (hsz : ∀ x ∈ l, x.f1.size + d.size ≤ 9223372036854775807) (hd : d.size ≤ 9223372036854775807) :
   Calls Try.prog 61 #[.agg #[.int .i64 k, .string n, .string t, .string d], .slice A l.length c] w fun e w' => ∃ v, e = .returned (.tuple #[v, .bool (onF l k n t d).2]) ∧ ((onF l k n t d).2 = true → Kd.R k80 80 w' w.heap.size (fun _ => True) v (onF l k n t d).1) ∧ ((onF l k n t d).2 = false → v = .slice A l.length c ∧ (onF l k n t d).1 = l) ∧ Below w.heap.size w w' := by
 have hu := Try.underlying80
 have hu' := Try.underlying73
 have HR := Aside0.mk hr
 have HC := Aside0.mk hc
 have HI := Aside0.mk (fun W1 h => impl_fileOf.calls A c l n _ W1 h hc rfl)
 have hj0 := idxP_ge (qbb n) l
 have hj1 := idxP_lt (qbb n) l
 have hja : 0 ≤ idxP (qbb n) l → (qan l (idxP (qbb n) l)).f0 = n := fun h => bs_inj.1 (beq_iff_eq.1 (idxP_at (qbb n) z80 l h))
 have HQ : Aside0 (∃ q, q = onF l k n t d) := ⟨⟨_, rfl⟩⟩
 obtain ⟨q, hq⟩ := HQ.out
 rw [← hq]
 unfold onF at hq
 clear HQ hr hc
 generalize idxP (qbb n) l = j at *
 by_cases hk : k = 1
 · subst hk
   rw [if_pos rfl] at hq
   by_cases hi : 0 ≤ j
   · rw [if_pos hi] at hq
     obtain ⟨i, rfl⟩ : ∃ i : Nat, j = i := ⟨j.toNat, by omega⟩
     have hil : i < l.length := by omega
     have hszi := hsz _ (qdp z80 l (i : Int) (by omega) (by omega))
     change (qan l i).f1.size + d.size ≤ _ at hszi
     have HW := Aside0.mk (fun W1 h => impl_withFile.calls A c l n ((qan l i).f1 ++ d) _ W1 h HC.out (qdt l _ _ (by omega) hris))
     obtain ⟨ad, e1, hx_0, hx_1⟩ := qba HR.out (i : Int) (by omega) (by omega)
     cases e1
     rw [hja hi] at hx_0
     rw [Int.toNat_natCast] at hx_0 hx_1
     generalize (qan l i).f1 = x1 at *
     subst hq
     clear hja hsz hris hj0
     go_enter Try.func61, Try.ntmps61
     go_wp2_with fail
     refine (HI.out _ ?q1).mono ?_
     case q1 => exact Kd.C_alloc HR.out _
     rintro e w1 ⟨rfl, hb1⟩
     have HB1 : Aside0 (Below w.heap.size w w1) := ⟨qak (qab (Below.refl _ _) _) hb1⟩
     have BX : Aside0 (w1.heap[w.heap.size]? = some (.cells #[.int .i64 1, .string n, .string t, .string d] 73 (0, 0))) := ⟨qao (qco w _) hb1⟩
     have b0 : w1.cell? ⟨w.heap.size, 0, none⟩ = some (.int .i64 1) := (qaf BX.out 0).trans rfl
     have b1 : w1.cell? ⟨w.heap.size, 1, none⟩ = some (.string n) := (qaf BX.out 1).trans rfl
     have b3 : w1.cell? ⟨w.heap.size, 3, none⟩ = some (.string d) := (qaf BX.out 3).trans rfl
     have hz : w.heap.size < w1.heap.size := qaw BX.out
     replace hx_0 := qay HB1.out hx_0
     replace hx_1 := qay HB1.out hx_1
     have hy_0 := fun o => qay (qab (Below.refl w1.heap.size w1) o) hx_0
     have hy_1 := fun o => qay (qab (Below.refl w1.heap.size w1) o) hx_1
     clear hb1
     go_wp2_with fail
     refine (HW.out _ ?q2).mono ?_
     case q2 => exact Kd.C_alloc (Kd.C_below HR.out HB1.out) _
     rintro e w2 ⟨v, rfl, ho, hb2⟩
     have HO := Aside0.mk ho
     have HB2 : Aside0 (Below w.heap.size w w2) := ⟨qak (qab HB1.out _) hb2⟩
     have HL : Aside0 (w.heap.size ≤ w1.heap.size + 1) := ⟨by omega⟩
     clear ho hb2
     go_wp2
     go_ret2
     exact ⟨_, rfl, fun _ => Kd.R_lower HO.out (by simpa using HL.out), (fun h => by cases h), HB2.out⟩
   · rw [if_neg hi] at hq
     have he : (⟨#[]⟩ : ByteArray) ++ d = d := ByteArray.ext (by simp [ByteArray.data_append])
     have HW := Aside0.mk (fun W1 h => impl_withFile.calls A c l n ((⟨#[]⟩ : ByteArray) ++ d) _ W1 h HC.out (qdt l _ _ (by omega) hris))
     rw [he] at HW
     have HE := Aside0.mk he
     have hd0 : (⟨#[]⟩ : ByteArray).size + d.size ≤ 9223372036854775807 := by
       show 0 + d.size ≤ _
       omega
     subst hq
     clear hja hsz hris hj0 he
     go_enter Try.func61, Try.ntmps61
     go_wp2_with fail
     refine (HI.out _ ?q3).mono ?_
     case q3 => exact Kd.C_alloc HR.out _
     rintro e w1 ⟨rfl, hb1⟩
     have HB1 : Aside0 (Below w.heap.size w w1) := ⟨qak (qab (Below.refl _ _) _) hb1⟩
     have BX : Aside0 (w1.heap[w.heap.size]? = some (.cells #[.int .i64 1, .string n, .string t, .string d] 73 (0, 0))) := ⟨qao (qco w _) hb1⟩
     have b0 : w1.cell? ⟨w.heap.size, 0, none⟩ = some (.int .i64 1) := (qaf BX.out 0).trans rfl
     have b1 : w1.cell? ⟨w.heap.size, 1, none⟩ = some (.string n) := (qaf BX.out 1).trans rfl
     have b3 : w1.cell? ⟨w.heap.size, 3, none⟩ = some (.string d) := (qaf BX.out 3).trans rfl
     have hz : w.heap.size < w1.heap.size := qaw BX.out
     clear hb1
     go_wp2_with fail
     refine (HW.out _ ?q4).mono ?_
     case q4 => exact Kd.C_alloc (Kd.C_below HR.out HB1.out) _
     rintro e w2 ⟨v, rfl, ho, hb2⟩
     have HO := Aside0.mk ho
     have HB2 : Aside0 (Below w.heap.size w w2) := ⟨qak (qab HB1.out _) hb2⟩
     have HL : Aside0 (w.heap.size ≤ w1.heap.size + 1) := ⟨by omega⟩
     clear ho hb2
     go_wp2
     go_ret2
     exact ⟨_, rfl, fun _ => Kd.R_lower HO.out (by simpa using HL.out), (fun h => by cases h), HB2.out⟩
 · rw [if_neg hk] at hq
   have hkb : (k == 1) = false := beq_eq_false_iff_ne.2 hk
   by_cases hi : 0 ≤ j
   · rw [if_pos hi] at hq
     obtain ⟨i, rfl⟩ : ∃ i : Nat, j = i := ⟨j.toNat, by omega⟩
     rw [Int.toNat_natCast] at hq
     have hil : i < l.length := by omega
     have HF := Aside0.mk (fun W1 h => impl_copyFiles.calls A c l l W1 h HC.out (qdm l (by omega)))
     have hcut : (l.take i ++ l.drop (i + 1)).length = l.length - 1 := by rw [List.length_append, List.length_take, List.length_drop]; omega
     have HCUT := Aside0.mk hcut
     have HRC := Aside0.mk (risesF_cut hris i)
     clear hcut
     by_cases hk3 : k = 3
     · subst hk3
       rw [if_pos rfl] at hq
       subst hq
       clear hja hsz hris hj0 hk
       go_enter Try.func61, Try.ntmps61
       go_wp2_with fail
       refine (HI.out _ ?q5).mono ?_
       case q5 => exact Kd.C_alloc HR.out _
       rintro e w1 ⟨rfl, hb1⟩
       have HB1 : Aside0 (Below w.heap.size w w1) := ⟨qak (qab (Below.refl _ _) _) hb1⟩
       have BX : Aside0 (w1.heap[w.heap.size]? = some (.cells #[.int .i64 3, .string n, .string t, .string d] 73 (0, 0))) := ⟨qao (qco w _) hb1⟩
       have b0 : w1.cell? ⟨w.heap.size, 0, none⟩ = some (.int .i64 3) := (qaf BX.out 0).trans rfl
       clear hb1
       go_wp2_with fail
       refine (HF.out _ ?q6).mono ?_
       case q6 => exact Kd.C_below HR.out HB1.out
       rintro e w2 ⟨v, rfl, ho, hb2⟩
       have HO := Aside0.mk (qcf ho)
       have HB2 : Aside0 (Below w.heap.size w w2) := ⟨qak HB1.out hb2⟩
       have BX2 := Aside0.mk (qao BX.out hb2)
       have c0 : w2.cell? ⟨w.heap.size, 0, none⟩ = some (.int .i64 3) := (qaf BX2.out 0).trans rfl
       have HL : Aside0 (w.heap.size < w1.heap.size) := ⟨qaw BX.out⟩
       clear ho hb2
       go_wp2_with fail
       refine (qel w1.heap.size v l.length i (l.flatMap qcj) _ HO.out (flat_one qcx _) hil).mono ?_
       rintro e w3 ⟨v', rfl, ho3, hg3, hat⟩
       have HO3 := Aside0.mk ho3
       have HB3 : Aside0 (Below w.heap.size w w3) := ⟨qcy HB2.out _ (Nat.le_of_lt (qaw BX2.out)) hg3 (fun k hk => by have := qcg HO.out k hk; have := HL.out; omega)⟩
       have BX3 := Aside0.mk (qbq BX2.out hg3 (fun he => by have := qcg HO.out _ he.symm; have := HL.out; omega))
       have d0 : w3.cell? ⟨w.heap.size, 0, none⟩ = some (.int .i64 3) := (qaf BX3.out 0).trans rfl
       clear ho3 hg3 hat
       go_wp2
       go_ret2
       refine ⟨_, rfl, fun _ => qds (qed ?_ (Nat.le_of_lt HL.out)) (fun _ _ => trivial), (fun h => by cases h), HB3.out⟩
       have := HO3.out
       rw [qdz qbu, qea qbu, ← List.flatMap_append] at this
       rw [HCUT.out]
       exact this
     · rw [if_neg hk3] at hq
       have hkb3 : (k == 3) = false := beq_eq_false_iff_ne.2 hk3
       have HW := Aside0.mk (fun W1 A1 c1 h hc1 => impl_withFile.calls A1 c1 (l.take i ++ l.drop (i + 1)) t (qan l i).f1 _ W1 h hc1 (qdt _ _ _ (by rw [HCUT.out]; omega) HRC.out))
       obtain ⟨ad, e1, hx_0, hx_1⟩ := qba HR.out (i : Int) (by omega) (by omega)
       cases e1
       rw [Int.toNat_natCast] at hx_0 hx_1
       generalize (qan l i).f1 = x1 at *
       subst hq
       clear hja hsz hris hj0 hk hk3
       go_enter Try.func61, Try.ntmps61
       go_wp2_with fail
       refine (HI.out _ ?q7).mono ?_
       case q7 => exact Kd.C_alloc HR.out _
       rintro e w1 ⟨rfl, hb1⟩
       have HB1 : Aside0 (Below w.heap.size w w1) := ⟨qak (qab (Below.refl _ _) _) hb1⟩
       have BX : Aside0 (w1.heap[w.heap.size]? = some (.cells #[.int .i64 k, .string n, .string t, .string d] 73 (0, 0))) := ⟨qao (qco w _) hb1⟩
       have b0 : w1.cell? ⟨w.heap.size, 0, none⟩ = some (.int .i64 k) := (qaf BX.out 0).trans rfl
       clear hb1
       go_wp2_with fail
       refine (HF.out _ ?q8).mono ?_
       case q8 => exact Kd.C_below HR.out HB1.out
       rintro e w2 ⟨v, rfl, ho, hb2⟩
       have HO := Aside0.mk (qcf ho)
       have HB2 : Aside0 (Below w.heap.size w w2) := ⟨qak HB1.out hb2⟩
       have BX2 := Aside0.mk (qao BX.out hb2)
       have HL : Aside0 (w.heap.size < w1.heap.size) := ⟨qaw BX.out⟩
       clear ho hb2 b0
       go_wp2_with fail
       refine (qel w1.heap.size v l.length i (l.flatMap qcj) _ HO.out (flat_one qcx _) hil).mono ?_
       rintro e w3 ⟨v', rfl, ho3, hg3, hat⟩
       have hR3 : Kd.R k80 80 w3 w.heap.size (fun _ => True) v' (l.take i ++ l.drop (i + 1)) := by
         refine qds (qed ?_ (Nat.le_of_lt HL.out)) (fun _ _ => trivial)
         rw [qdz qbu, qea qbu, ← List.flatMap_append] at ho3
         rw [HCUT.out]
         exact ho3
       obtain ⟨A3, c3, rfl, hc3, hC3⟩ := Kd.R_reads hR3
       have HC3 := Aside0.mk hC3
       have HL3 := Aside0.mk hc3
       have HB3 : Aside0 (Below w.heap.size w w3) := ⟨qcy HB2.out _ (Nat.le_of_lt (qaw BX2.out)) hg3 (fun k hk => by have := qcg HO.out k hk; have := HL.out; omega)⟩
       have BX3 := Aside0.mk (qbq BX2.out hg3 (fun he => by have := qcg HO.out _ he.symm; have := HL.out; omega))
       have d0 : w3.cell? ⟨w.heap.size, 0, none⟩ = some (.int .i64 k) := (qaf BX3.out 0).trans rfl
       have d2 : w3.cell? ⟨w.heap.size, 2, none⟩ = some (.string t) := (qaf BX3.out 2).trans rfl
       replace hx_0 := qay HB3.out hx_0
       replace hx_1 := qay HB3.out hx_1
       have hil' := eq_true (show (i : Int) < (l.length : Int) by omega)
       have HL4 : Aside0 (w.heap.size ≤ w3.heap.size) := ⟨HB3.out.size⟩
       clear ho3 hg3 hat hR3 hC3 hc3
       rw [HCUT.out] at *
       go_wp2
       go_region_with (go_at_call 99; (with_reducible refine (HW.out _ A3 c3 ?q9 ?q10).mono ?_); (case q9 => repeat (first | exact HC3.out | (with_reducible refine Kd.C_drewN ?_ _) | (with_reducible refine Kd.C_drew ?_))); (case q10 => exact HL3.out); rintro e w4 ⟨v4, rfl, ho4, hb4⟩; have HO4 := Aside0.mk ho4; have HB4 : Aside0 (Below w.heap.size w w4) := ⟨qak (qcr HB3.out) hb4⟩; clear ho4 hb4)
       all_goals
         go_wp2
         go_ret2
         exact ⟨_, rfl, fun _ => Kd.R_lower HO4.out (by simpa using HL4.out), (fun h => by cases h), HB4.out⟩
   · rw [if_neg hi] at hq
     subst hq
     clear hja hsz hris hj0 hk
     go_enter Try.func61, Try.ntmps61
     go_wp2_with fail
     refine (HI.out _ ?q7).mono ?_
     case q7 => exact Kd.C_alloc HR.out _
     rintro e w1 ⟨rfl, hb1⟩
     have HB1 : Aside0 (Below w.heap.size w w1) := ⟨qak (qab (Below.refl _ _) _) hb1⟩
     have BX : Aside0 (w1.heap[w.heap.size]? = some (.cells #[.int .i64 k, .string n, .string t, .string d] 73 (0, 0))) := ⟨qao (qco w _) hb1⟩
     have b0 : w1.cell? ⟨w.heap.size, 0, none⟩ = some (.int .i64 k) := (qaf BX.out 0).trans rfl
     clear hb1
     go_wp2
     go_ret2
     exact ⟨_, rfl, (fun h => by cases h), fun _ => (by first | exact ⟨rfl, rfl⟩ | exact ⟨rfl, trivial⟩), HB1.out⟩

end

section
theorem Ev.ret {α : Type} (r : α) : Ev (fun _ => some r) r := ⟨0, fun _ _ => rfl⟩
theorem Ev.ret' {α : Type} {r r' : α} (h : r' = r) : Ev (fun _ => some r') r := by
 rw [h]
 exact Ev.ret r
theorem Ev.pos {α : Type} {c : Prop} [Decidable c] {g f : Nat → Option α} {r : α} (h : c) (e : Ev g r) : Ev (fun k => if c then g k else f k) r := by
 obtain ⟨K, e⟩ := e
 exact ⟨K, fun k hk => by simp only [if_pos h]; exact e k hk⟩
theorem Ev.neg {α : Type} {c : Prop} [Decidable c] {g f : Nat → Option α} {r : α} (h : ¬ c) (e : Ev f r) : Ev (fun k => if c then g k else f k) r := by
 obtain ⟨K, e⟩ := e
 exact ⟨K, fun k hk => by simp only [if_neg h]; exact e k hk⟩
theorem Ev.ite {α : Type} {c : Prop} [Decidable c] {g f : Nat → Option α} {r : α} (h1 : c → Ev g r) (h2 : ¬ c → Ev f r) : Ev (fun k => if c then g k else f k) r := by
 by_cases h : c
 · exact Ev.pos h (h1 h)
 · exact Ev.neg h (h2 h)
theorem Ev.bindS {α β : Type} {x : Option α} {f : Nat → α → Option β} {a : α} {r : β} (h : x = some a) (k : Ev (fun n => f n a) r) : Ev (fun n => x.bind (f n)) r := by
 obtain ⟨K, k⟩ := k
 exact ⟨K, fun n hn => by rw [h]; exact k n hn⟩
theorem Ev.eq {α : Type} {g : Nat → Option α} {r r' : α} (e : Ev g r') (h : r' = r) : Ev g r := by
 rw [← h]
 exact e
theorem Ev.val {α : Type} {g : Nat → Option α} {r : α} (e : Ev g r) : ∃ k, g k = some r := Ev.rounds e
theorem qbc {x : Int} (h1 : -9223372036854775808 ≤ x) (h2 : x ≤ 9223372036854775807) : wrap64 x = x := by
 unfold wrap64
 omega

end

section
def spec_l4At.l0 : Nat → List (S80) → ByteArray → Int → Option (Int)
 | 0, _, _, _ => none
 | k + 1, x0, x1, x5 => if x5 < (x0.length : Int) then (if 0 ≤ x5 then (if ((qan x0 x5).f0).toList = x1.toList then (some x5) else (spec_l4At.l0 k x0 x1 (wrap64 (x5 + 1)))) else (none)) else (some (-1))
def spec_l4At.f (k : Nat) (l0 : List (S80)) (a1 : ByteArray) : Option (Int) := spec_l4At.l0 k l0 a1 0
theorem spec_l4At.mono_l : ∀ k, (∀ y0 y1 y2, LeO (spec_l4At.l0 k y0 y1 y2) (spec_l4At.l0 (k + 1) y0 y1 y2))
 | 0 => fun _ _ _ r h => by simp [spec_l4At.l0] at h
 | k + 1 => by
   have ih0 := spec_l4At.mono_l k
   · intro y0 y1 y2
     unfold spec_l4At.l0
     repeat' first
     | (with_reducible exact ih0 _ _ _)
     | (with_reducible exact LeO.refl _)
     | (with_reducible exact LeO.none _)
     | (with_reducible refine LeO.ite ?_ ?_)
     | (with_reducible refine LeO.bind ?_ (fun _ => ?_))
     | exact ih0 _ _ _
     | exact LeO.none _
     | refine LeO.ite ?_ ?_
     | refine LeO.bind ?_ (fun _ => ?_)
theorem spec_l4At.mono : ∀ a0 a1 k, LeO (spec_l4At.f k a0 a1) (spec_l4At.f (k + 1) a0 a1) := by
 intro a0 a1 k
 have ih0 := spec_l4At.mono_l k
 unfold spec_l4At.f
 repeat' first
     | (with_reducible exact ih0 _ _ _)
     | (with_reducible exact LeO.refl _)
     | (with_reducible exact LeO.none _)
     | (with_reducible refine LeO.ite ?_ ?_)
     | (with_reducible refine LeO.bind ?_ (fun _ => ?_))
     | exact ih0 _ _ _
     | exact LeO.none _
     | refine LeO.ite ?_ ?_
     | refine LeO.bind ?_ (fun _ => ?_)
set_option maxHeartbeats 8000000 in
set_option maxRecDepth 100000 in
theorem spec_l4At.calls (k : Nat) (A0 : Option Addr) (c0 : Nat) (l0 : List (S80)) (a1 : ByteArray) (r : Int) (w : World) (hr0 : Kd.C k80 w A0 l0.length l0) (hc0 : l0.length ≤ c0) (h : spec_l4At.f k l0 a1 = some r) :
   Calls Try.prog 52 #[.slice A0 l0.length c0, .string a1] w fun e w' => e = .returned (.int .i64 r) ∧ Drawn0 w w' := by
 have HR0 := Aside0.mk hr0
 have HC0 := Aside0.mk hc0
 clear hr0 hc0
 have H : (spec_l4At.l0 k l0 a1 0) = some r := h
 clear h
 have H' := Aside0.mk H
 clear H
 go_enter Try.func52, Try.ntmps52
 go_wp2
 go_loopg [5] k (fun kq v5 w' => ∃ (x5_1 : Int), v5 = .int .i64 x5_1 ∧ Aside0 (spec_l4At.l0 kq l0 a1 x5_1 = some r) ∧ Aside0 (kq ≤ k) ∧ Drawn0 w w')
 case atStart => exact ⟨(0), (by first | rfl | (simp; done) | (simp [*]; done)), H', ⟨Nat.le_refl _⟩, by repeat (first | exact Drawn0.refl _ | apply Drawn0.step)⟩
 case round =>
   clear H'
   try clear p2
   obtain ⟨x5_1, rfl, HA, HK1, ⟨m1, rfl⟩⟩ := hrel
   cases gk with
   | zero => exact absurd HA.out (by simp [spec_l4At.l0])
   | succ k1 =>
     have H := HA.out
     clear HA
     simp only [spec_l4At.l0] at H
     by_cases c3 : x5_1 < (l0.length : Int)
     · rw [if_pos c3] at H
       have c3b0 : decide (x5_1 < (l0.length : Int)) = true := decide_eq_true c3
       clear c3
       by_cases c4 : 0 ≤ x5_1
       · rw [if_pos c4] at H
         have c4b0 : decide (0 ≤ x5_1) = true := decide_eq_true c4
         clear c4
         by_cases c5 : ((qan l0 x5_1).f0).toList = a1.toList
         · rw [if_pos c5] at H
           have c5b0 : (((qan l0 x5_1).f0).toList == a1.toList) = true := beq_iff_eq.mpr c5
           have c5b1 : (((qan l0 x5_1).f0).toList != a1.toList) = false := bne_eq_false_iff_eq.mpr c5
           clear c5
           obtain rfl := Option.some.inj H
           have p101 : 0 ≤ (x5_1 : Int) := of_decide_eq_true (by first | (with_reducible assumption) | assumption)
           have q101 : x5_1 < (l0.length : Int) := of_decide_eq_true (by first | (with_reducible assumption) | assumption)
           obtain ⟨ad101, e101, hx101_0, hx101_1⟩ := qba HR0.out x5_1 p101 q101
           cases e101
           replace p101 := eq_true p101
           replace q101 := eq_true q101
           go_wp2
           go_ret
           exact ⟨by first | rfl | (simp; done) | (simp [*]; done), by repeat (first | exact Drawn0.refl _ | apply Drawn0.step)⟩
         · rw [if_neg c5] at H
           have c5b0 : (((qan l0 x5_1).f0).toList == a1.toList) = false := beq_eq_false_iff_ne.mpr c5
           have c5b1 : (((qan l0 x5_1).f0).toList != a1.toList) = true := bne_iff_ne.mpr c5
           have H' := Aside0.mk H
           clear H
           have p101 : 0 ≤ (x5_1 : Int) := of_decide_eq_true (by first | (with_reducible assumption) | assumption)
           have q101 : x5_1 < (l0.length : Int) := of_decide_eq_true (by first | (with_reducible assumption) | assumption)
           obtain ⟨ad101, e101, hx101_0, hx101_1⟩ := qba HR0.out x5_1 p101 q101
           cases e101
           replace p101 := eq_true p101
           replace q101 := eq_true q101
           go_wp2
           go_roundg k1
           case measure => have := HK1.out; omega
           case rel => exact ⟨(wrap64 (x5_1 + 1)), (by first | rfl | (simp; done) | (simp [*]; done)), H', ⟨by have := HK1.out; omega⟩, by repeat (first | exact Drawn0.refl _ | apply Drawn0.step)⟩
       · rw [if_neg c4] at H
         exact absurd H (by simp)
     · rw [if_neg c3] at H
       have c3b0 : decide (x5_1 < (l0.length : Int)) = false := decide_eq_false c3
       clear c3
       obtain rfl := Option.some.inj H
       go_wp2
       go_ret
       exact ⟨by first | rfl | (simp; done) | (simp [*]; done), by repeat (first | exact Drawn0.refl _ | apply Drawn0.step)⟩

end

section
def spec_l4Cut.l0 : Nat → List (S80) → ByteArray → List (S80) → Int → Option ((List (S80)))
 | 0, _, _, _, _ => none
 | k + 1, x0, x1, x5, x6 => if x6 < (x0.length : Int) then (if 0 ≤ x6 then (if ((qan x0 x6).f0).toList = x1.toList then (spec_l4Cut.l0 k x0 x1 x5 (wrap64 (x6 + 1))) else (if x5.length < 4398046511104 then (spec_l4Cut.l0 k x0 x1 (x5 ++ [(⟨(qan x0 x6).f0, (qan x0 x6).f1⟩ : S80)]) (wrap64 (x6 + 1))) else (none))) else (none)) else (some x5)
def spec_l4Cut.f (k : Nat) (l0 : List (S80)) (a1 : ByteArray) : Option ((List (S80))) := spec_l4Cut.l0 k l0 a1 (([] : List (S80))) 0
theorem spec_l4Cut.mono_l : ∀ k, (∀ y0 y1 y2 y3, LeO (spec_l4Cut.l0 k y0 y1 y2 y3) (spec_l4Cut.l0 (k + 1) y0 y1 y2 y3))
 | 0 => fun _ _ _ _ r h => by simp [spec_l4Cut.l0] at h
 | k + 1 => by
   have ih0 := spec_l4Cut.mono_l k
   · intro y0 y1 y2 y3
     unfold spec_l4Cut.l0
     repeat' first
     | (with_reducible exact ih0 _ _ _ _)
     | (with_reducible exact LeO.refl _)
     | (with_reducible exact LeO.none _)
     | (with_reducible refine LeO.ite ?_ ?_)
     | (with_reducible refine LeO.bind ?_ (fun _ => ?_))
     | exact ih0 _ _ _ _
     | exact LeO.none _
     | refine LeO.ite ?_ ?_
     | refine LeO.bind ?_ (fun _ => ?_)
theorem spec_l4Cut.mono : ∀ a0 a1 k, LeO (spec_l4Cut.f k a0 a1) (spec_l4Cut.f (k + 1) a0 a1) := by
 intro a0 a1 k
 have ih0 := spec_l4Cut.mono_l k
 unfold spec_l4Cut.f
 repeat' first
     | (with_reducible exact ih0 _ _ _ _)
     | (with_reducible exact LeO.refl _)
     | (with_reducible exact LeO.none _)
     | (with_reducible refine LeO.ite ?_ ?_)
     | (with_reducible refine LeO.bind ?_ (fun _ => ?_))
     | exact ih0 _ _ _ _
     | exact LeO.none _
     | refine LeO.ite ?_ ?_
     | refine LeO.bind ?_ (fun _ => ?_)
set_option maxHeartbeats 8000000 in
set_option maxRecDepth 100000 in
theorem spec_l4Cut.calls (k : Nat) (A0 : Option Addr) (c0 : Nat) (l0 : List (S80)) (a1 : ByteArray) (r : List (S80)) (w : World) (hr0 : Kd.C k80 w A0 l0.length l0) (hc0 : l0.length ≤ c0) (h : spec_l4Cut.f k l0 a1 = some r) :
   Calls Try.prog 86 #[.slice A0 l0.length c0, .string a1] w fun e w' => ∃ v0_ : Value, e = .returned (v0_) ∧ Kd.R k80 80 w' w.heap.size (fun _ => True) v0_ r ∧ Below w.heap.size w w' := by
 have hu80 := Try.underlying80
 have HR0 := Aside0.mk hr0
 have HC0 := Aside0.mk hc0
 clear hr0 hc0
 have HB := Aside0.mk (Below.refl w.heap.size w)
 have H : (spec_l4Cut.l0 k l0 a1 (([] : List (S80))) 0) = some r := h
 clear h
 obtain ⟨y101, hy101⟩ : ∃ y_ : List (S80), y_ = (([] : List (S80))) := ⟨_, rfl⟩
 replace H : (spec_l4Cut.l0 k l0 a1 y101 0) = some r := by first | (rw [hy101]; with_reducible exact H) | (have H2_ := (Option.bind_some _ _).symm.trans H; rw [hy101]; with_reducible exact H2_) | (have H2_ := (Option.bind_some _ _).symm.trans H; with_reducible exact H2_) | with_reducible exact H | (rw [hy101]; exact H) | exact H
 have Ny101 := Aside0.mk hy101
 clear hy101
 have H' := Aside0.mk H
 clear H
 go_enter Try.func86, Try.ntmps86
 go_wp2_with (first | ((with_reducible refine qas (N := 7) rfl ?_); refine Kd.R_lit k80 _ 80 ?hg (N := 7) ?hd (xs := ([] : List (S80))) (inner := []) (ok := fun _ => True) (okp := fun _ => True) ?hr ?hp (fun _ hk => hk) trivial (Below.refl _ _) (Nat.le_refl _) (by simp) ?_; (case hd => rfl); (case hg => rfl); (case hr => first | (go_simp; done) | (go_simp; rfl)); (case hp => exact (Reps.none _ _)); intro v102 w3 ho4 hb hg_ hnew_; clear hg_ hnew_; (first | rw [← Ny101.out] at ho4 | (simp only [Int.reduceToNat] at ho4; rw [← Ny101.out] at ho4)); have n0_ := Aside0.mk (Kd.R_lower ho4 (qaj (by repeat (first | (with_reducible first | exact HB.out | apply qab | apply qaa | apply qac) | exact HB.out)))); have n1_ := Aside0.mk (qak (by repeat (first | (with_reducible first | exact HB.out | apply qab | apply qaa | apply qac) | exact HB.out)) hb); clear HB; have HO103 := n0_; have HB := n1_; clear n0_ n1_; clear hb ho4))
 go_loopg [5, 6] k (fun kq v5 v6 w' => ∃ (x5_1 : List (S80)) (x6_1 : Int), v6 = .int .i64 x6_1 ∧ Aside0 (spec_l4Cut.l0 kq l0 a1 x5_1 x6_1 = some r) ∧ Aside0 (kq ≤ k) ∧ Aside0 (Kd.R k80 80 w' w.heap.size (fun _ => True) v5 x5_1) ∧ Aside0 (Below w.heap.size w w'))
 case atStart => exact ⟨(y101), (0), (by first | rfl | (simp; done) | (simp [*]; done)), H', ⟨Nat.le_refl _⟩, ⟨by (with_reducible repeat (first | apply Kd.R_alloc | apply Kd.R_drewN | apply Kd.R_drew)); exact HO103.out⟩, ⟨by repeat (first | (with_reducible first | exact HB.out | apply qab | apply qaa | apply qac) | exact HB.out)⟩⟩
 case round =>
   clear H'
   try clear p2
   obtain ⟨x5_1, x6_1, rfl, HA, HK1, HO_5, HB⟩ := hrel
   cases gk with
   | zero => exact absurd HA.out (by simp [spec_l4Cut.l0])
   | succ k1 =>
     have H := HA.out
     clear HA
     simp only [spec_l4Cut.l0] at H
     by_cases c5 : x6_1 < (l0.length : Int)
     · rw [if_pos c5] at H
       have c5b0 : decide (x6_1 < (l0.length : Int)) = true := decide_eq_true c5
       clear c5
       by_cases c6 : 0 ≤ x6_1
       · rw [if_pos c6] at H
         have c6b0 : decide (0 ≤ x6_1) = true := decide_eq_true c6
         clear c6
         by_cases c7 : ((qan l0 x6_1).f0).toList = a1.toList
         · rw [if_pos c7] at H
           have c7b0 : (((qan l0 x6_1).f0).toList == a1.toList) = true := beq_iff_eq.mpr c7
           have c7b1 : (((qan l0 x6_1).f0).toList != a1.toList) = false := bne_eq_false_iff_eq.mpr c7
           clear c7
           have H' := Aside0.mk H
           clear H
           have p104 : 0 ≤ (x6_1 : Int) := of_decide_eq_true (by first | (with_reducible assumption) | assumption)
           have q104 : x6_1 < (l0.length : Int) := of_decide_eq_true (by first | (with_reducible assumption) | assumption)
           obtain ⟨ad104, e104, hx104_0, hx104_1⟩ := qba HR0.out x6_1 p104 q104
           cases e104
           replace hx104_0 := (HB.out.cell (World.block_lt_of_cell? w _ hx104_0)).trans hx104_0
           replace hx104_1 := (HB.out.cell (World.block_lt_of_cell? w _ hx104_1)).trans hx104_1
           replace p104 := eq_true p104
           replace q104 := eq_true q104
           go_wp2
           go_roundg k1
           case measure => have := HK1.out; omega
           case rel => exact ⟨(x5_1), (wrap64 (x6_1 + 1)), (by first | rfl | (simp; done) | (simp [*]; done)), H', ⟨by have := HK1.out; omega⟩, ⟨by (with_reducible repeat (first | apply Kd.R_alloc | apply Kd.R_drewN | apply Kd.R_drew)); exact HO_5.out⟩, ⟨by repeat (first | (with_reducible first | exact HB.out | apply qab | apply qaa | apply qac) | exact HB.out)⟩⟩
         · rw [if_neg c7] at H
           have c7b0 : (((qan l0 x6_1).f0).toList == a1.toList) = false := beq_eq_false_iff_ne.mpr c7
           have c7b1 : (((qan l0 x6_1).f0).toList != a1.toList) = true := bne_iff_ne.mpr c7
           by_cases c8 : x5_1.length < 4398046511104
           · rw [if_pos c8] at H
             have LMc8 := Aside0.mk c8
             clear c8
             obtain ⟨y106, hy106⟩ : ∃ y_ : List (S80), y_ = (x5_1 ++ [(⟨(qan l0 x6_1).f0, (qan l0 x6_1).f1⟩ : S80)]) := ⟨_, rfl⟩
             replace H : (spec_l4Cut.l0 k1 l0 a1 y106 (wrap64 (x6_1 + 1))) = some r := by first | (rw [hy106]; with_reducible exact H) | (have H2_ := (Option.bind_some _ _).symm.trans H; rw [hy106]; with_reducible exact H2_) | (have H2_ := (Option.bind_some _ _).symm.trans H; with_reducible exact H2_) | with_reducible exact H | (rw [hy106]; exact H) | exact H
             have Ny106 := Aside0.mk hy106
             clear hy106
             have H' := Aside0.mk H
             clear H
             have p104 : 0 ≤ (x6_1 : Int) := of_decide_eq_true (by first | (with_reducible assumption) | assumption)
             have q104 : x6_1 < (l0.length : Int) := of_decide_eq_true (by first | (with_reducible assumption) | assumption)
             obtain ⟨ad104, e104, hx104_0, hx104_1⟩ := qba HR0.out x6_1 p104 q104
             cases e104
             replace hx104_0 := (HB.out.cell (World.block_lt_of_cell? w _ hx104_0)).trans hx104_0
             replace hx104_1 := (HB.out.cell (World.block_lt_of_cell? w _ hx104_1)).trans hx104_1
             replace p104 := eq_true p104
             replace q104 := eq_true q104
             have p105 : 0 ≤ (x6_1 : Int) := of_decide_eq_true (by first | (with_reducible assumption) | assumption)
             have q105 : x6_1 < (l0.length : Int) := of_decide_eq_true (by first | (with_reducible assumption) | assumption)
             obtain ⟨ad105, e105, hx105_0, hx105_1⟩ := qba HR0.out x6_1 p105 q105
             obtain rfl : ad104 = ad105 := (by injection e105)
             replace hx105_0 := (HB.out.cell (World.block_lt_of_cell? w _ hx105_0)).trans hx105_0
             replace hx105_1 := (HB.out.cell (World.block_lt_of_cell? w _ hx105_1)).trans hx105_1
             replace p105 := eq_true p105
             replace q105 := eq_true q105
             go_wp2_with (first | ((with_reducible refine qbo (b := .append) (xs := #[.tmp 21, .tmp 26]) rfl ?_); at_builtin; refine Kd.R_append k80 (w0 := w) w.heap.size rfl (.tmp 21) (.tmp 26) 28 80 (.agg #[(.string ⟨#[]⟩), (.string ⟨#[]⟩)]) 32 rfl Try.underlying28 qcl rfl (by decide) (by omega) u5 x5_1 (⟨(qan l0 x6_1).f0, (qan l0 x6_1).f1⟩ : S80) [.string ((qan l0 x6_1).f0), .string ((qan l0 x6_1).f1)] (fun _ => True) (fun _ => False) rfl rfl ?aP (fun _ hk => hk.elim) ?aF ?aO ?aB ?aS ?aL ?_; (case aP => exact qcp _ _ _ (⟨(qan l0 x6_1).f0, (qan l0 x6_1).f1⟩ : S80)); (case aB => exact (by repeat (first | (with_reducible first | exact HB.out | apply qab | apply qaa | apply qac) | exact HB.out))); (case aF => exact (fun _ _ => trivial)); (case aO => exact (by (with_reducible repeat (first | apply Kd.R_alloc | apply Kd.R_drewN | apply Kd.R_drew)); exact HO_5.out)); (case aS => exact (qaj (by repeat (first | (with_reducible first | exact HB.out | apply qab | apply qaa | apply qac) | exact HB.out)))); (case aL => have := LMc8.out; omega); intro v107 w9 ho hb hg hat; rw [← Ny106.out] at ho; have n0_ := Aside0.mk (hb); have n1_ := Aside0.mk (ho); clear HB; clear HO_5; have HB := n0_; have HO108 := n1_; clear n0_ n1_; clear ho hb hg hat))
             go_roundg k1
             case measure => have := HK1.out; omega
             case rel => exact ⟨(y106), (wrap64 (x6_1 + 1)), (by first | rfl | (simp; done) | (simp [*]; done)), H', ⟨by have := HK1.out; omega⟩, ⟨by (with_reducible repeat (first | apply Kd.R_alloc | apply Kd.R_drewN | apply Kd.R_drew)); exact HO108.out⟩, ⟨by repeat (first | (with_reducible first | exact HB.out | apply qab | apply qaa | apply qac) | exact HB.out)⟩⟩
           · rw [if_neg c8] at H
             exact absurd H (by simp)
       · rw [if_neg c6] at H
         exact absurd H (by simp)
     · rw [if_neg c5] at H
       have c5b0 : decide (x6_1 < (l0.length : Int)) = false := decide_eq_false c5
       clear c5
       obtain rfl := Option.some.inj H
       go_wp2
       go_ret
       exact ⟨_, by first | rfl | (simp [qal, qam] <;> rfl) | (simp [*, qal, qam] <;> rfl), by (with_reducible repeat (first | apply Kd.R_alloc | apply Kd.R_drewN | apply Kd.R_drew)); exact HO_5.out, by repeat (first | (with_reducible first | exact HB.out | apply qab | apply qaa | apply qac) | exact HB.out)⟩

end

section
def spec_l1In.f (a0 : Int) (a1 : Int) (a2 : Int) : Option (Bool) := if a0 ≥ a1 then (some (decide (a0 ≤ a2))) else (some false)
set_option maxHeartbeats 8000000 in
set_option maxRecDepth 100000 in
theorem spec_l1In.calls (a0 : Int) (a1 : Int) (a2 : Int) (r : Bool) (w : World) (h : spec_l1In.f a0 a1 a2 = some r) :
   Calls Try.prog 58 #[.int .i64 a0, .int .i64 a1, .int .i64 a2] w fun e w' => e = .returned (.bool r) ∧ Drawn0 w w' := by
 have H : (if a0 ≥ a1 then (some (decide (a0 ≤ a2))) else (some false)) = some r := h
 clear h
 by_cases c4 : a0 ≥ a1
 · rw [if_pos c4] at H
   have c4b0 : decide (a1 ≤ a0) = true := decide_eq_true c4
   clear c4
   obtain rfl := Option.some.inj H
   go_enter Try.func58, Try.ntmps58
   go_wp2
   go_ret
   exact ⟨by first | rfl | (simp; done) | (simp [*]; done), by repeat (first | exact Drawn0.refl _ | apply Drawn0.step)⟩
 · rw [if_neg c4] at H
   have c4b0 : decide (a1 ≤ a0) = false := decide_eq_false c4
   clear c4
   obtain rfl := Option.some.inj H
   go_enter Try.func58, Try.ntmps58
   go_wp2
   go_ret
   exact ⟨by first | rfl | (simp; done) | (simp [*]; done), by repeat (first | exact Drawn0.refl _ | apply Drawn0.step)⟩

end

section
def spec_l4Name.f (a0 : ByteArray) : Option (Bool) := if (a0.size : Int) ≥ 1 then (some (decide ((a0.size : Int) ≤ 100))) else (some false)
set_option maxHeartbeats 8000000 in
set_option maxRecDepth 100000 in
theorem spec_l4Name.calls (a0 : ByteArray) (r : Bool) (w : World) (h : spec_l4Name.f a0 = some r) :
   Calls Try.prog 84 #[.string a0] w fun e w' => e = .returned (.bool r) ∧ Drawn0 w w' := by
 have H : (if (a0.size : Int) ≥ 1 then (some (decide ((a0.size : Int) ≤ 100))) else (some false)) = some r := h
 clear h
 by_cases c2 : (a0.size : Int) ≥ 1
 · rw [if_pos c2] at H
   have c2b0 : decide (1 ≤ (a0.size : Int)) = true := decide_eq_true c2
   have c2b1 : decide (1 ≤ a0.size) = true := decide_eq_true (by omega)
   clear c2
   obtain rfl := Option.some.inj H
   go_enter Try.func84, Try.ntmps84
   go_wp2
   go_ret
   exact ⟨by first | rfl | (simp; done) | (simp [*]; done), by repeat (first | exact Drawn0.refl _ | apply Drawn0.step)⟩
 · rw [if_neg c2] at H
   have c2b0 : decide (1 ≤ (a0.size : Int)) = false := decide_eq_false c2
   have c2b1 : decide (1 ≤ a0.size) = false := decide_eq_false (by omega)
   clear c2
   obtain rfl := Option.some.inj H
   go_enter Try.func84, Try.ntmps84
   go_wp2
   go_ret
   exact ⟨by first | rfl | (simp; done) | (simp [*]; done), by repeat (first | exact Drawn0.refl _ | apply Drawn0.step)⟩

end

section
def spec_l4Form.j0 : Nat → Bool → Int → ByteArray → ByteArray → ByteArray → Option (Bool)
 | 0, _, _, _, _, _ => none
 | k + 1, x12, x102000, x102001, x102002, x102003 => if x12 = true then (some false) else (if x102000 = 2 then ((spec_l4Name.f x102002).bind fun t104 => (if t104 = true then (some (x102003.toList == ([] : List UInt8))) else (some false))) else (if x102002.toList = ([] : List UInt8) then (if x102000 = 1 then (some true) else (some (x102003.toList == ([] : List UInt8)))) else (some false)))
def spec_l4Form.f (k : Nat) (a0_0 : Int) (a0_1 : ByteArray) (a0_2 : ByteArray) (a0_3 : ByteArray) : Option (Bool) := (spec_l1In.f a0_0 1 3).bind fun t102 => (if t102 = true then ((spec_l4Name.f a0_1).bind fun t103 => (spec_l4Form.j0 k (!t103) a0_0 a0_1 a0_2 a0_3)) else (spec_l4Form.j0 k true a0_0 a0_1 a0_2 a0_3))
theorem spec_l4Form.mono_l : ∀ k, (∀ y0 y1 y2 y3 y4, LeO (spec_l4Form.j0 k y0 y1 y2 y3 y4) (spec_l4Form.j0 (k + 1) y0 y1 y2 y3 y4))
 | 0 => fun _ _ _ _ _ r h => by simp [spec_l4Form.j0] at h
 | k + 1 => by
   have ih0 := spec_l4Form.mono_l k
   · intro y0 y1 y2 y3 y4
     unfold spec_l4Form.j0
     repeat' first
     | (with_reducible exact ih0 _ _ _ _ _)
     | (with_reducible exact LeO.refl _)
     | (with_reducible exact LeO.none _)
     | (with_reducible refine LeO.ite ?_ ?_)
     | (with_reducible refine LeO.bind ?_ (fun _ => ?_))
     | exact ih0 _ _ _ _ _
     | exact LeO.none _
     | refine LeO.ite ?_ ?_
     | refine LeO.bind ?_ (fun _ => ?_)
theorem spec_l4Form.mono : ∀ a0 a1 a2 a3 k, LeO (spec_l4Form.f k a0 a1 a2 a3) (spec_l4Form.f (k + 1) a0 a1 a2 a3) := by
 intro a0 a1 a2 a3 k
 have ih0 := spec_l4Form.mono_l k
 unfold spec_l4Form.f
 repeat' first
     | (with_reducible exact ih0 _ _ _ _ _)
     | (with_reducible exact LeO.refl _)
     | (with_reducible exact LeO.none _)
     | (with_reducible refine LeO.ite ?_ ?_)
     | (with_reducible refine LeO.bind ?_ (fun _ => ?_))
     | exact ih0 _ _ _ _ _
     | exact LeO.none _
     | refine LeO.ite ?_ ?_
     | refine LeO.bind ?_ (fun _ => ?_)
set_option maxHeartbeats 8000000 in
set_option maxRecDepth 100000 in
theorem spec_l4Form.calls (k : Nat) (a0_0 : Int) (a0_1 : ByteArray) (a0_2 : ByteArray) (a0_3 : ByteArray) (r : Bool) (w : World) (h : spec_l4Form.f k a0_0 a0_1 a0_2 a0_3 = some r) :
   Calls Try.prog 45 #[.agg #[.int .i64 a0_0, .string a0_1, .string a0_2, .string a0_3]] w fun e w' => e = .returned (.bool r) ∧ Below w.heap.size w w' := by
 have hu73 := Try.underlying73
 have HB := Aside0.mk (Below.refl w.heap.size w)
 have H : ((spec_l1In.f a0_0 1 3).bind fun t102 => (if t102 = true then ((spec_l4Name.f a0_1).bind fun t103 => (spec_l4Form.j0 k (!t103) a0_0 a0_1 a0_2 a0_3)) else (spec_l4Form.j0 k true a0_0 a0_1 a0_2 a0_3))) = some r := h
 clear h
 have HC2 := Aside0.mk H
 clear H
 go_enter Try.func45, Try.ntmps45
 go_upto_region 1 with (first | ((with_reducible refine qas (N := 1) rfl ?_); refine qar ?hg (N := 1) ?hd (cs := #[.int .i64 a0_0, .string a0_1, .string a0_2, .string a0_3]) (t := 73) ?hr ?_; (case hd => rfl); (case hg => rfl); (case hr => first | (go_simp; done) | (go_simp; rfl)); intro gb101 hg w3 hbox hb; have n0_ := Aside0.mk (qak (by repeat (first | (with_reducible first | exact HB.out | apply qab | apply qaa | apply qac) | exact HB.out)) hb); have n1_ := Aside0.mk (hbox); have n2_ := Aside0.mk ((by rw [hg]; exact (qaj (by repeat (first | (with_reducible first | exact HB.out | apply qab | apply qaa | apply qac) | exact HB.out))) : w.heap.size ≤ gb101)); have n3_ := Aside0.mk ((by rw [hg]; exact (qaj (by repeat (first | (with_reducible first | exact HB.out | apply qab | apply qaa | apply qac) | exact HB.out))) : w.heap.size ≤ gb101)); clear HB; have HB := n0_; have BK101 := n1_; have GW101 := n2_; have GE101 := n3_; clear n0_ n1_ n2_ n3_; clear hb hbox hg))
 (try simp only [Act.put, List.setIfInBounds_toArray, List.set_cons_zero, List.set_cons_succ])
 go_cut [12] (fun v12 wc => ∃ (kq : Nat) (x12_1 : Bool), v12 = .bool x12_1 ∧ Aside0 (spec_l4Form.j0 kq x12_1 a0_0 a0_1 a0_2 a0_3 = some r) ∧ Aside0 (kq ≤ k) ∧ Aside0 (wc.heap[gb101]? = some (.cells #[.int .i64 a0_0, .string a0_1, .string a0_2, .string a0_3] 73 (0, 0))) ∧ Aside0 (Below w.heap.size w wc))
 case first =>
   have H := HC2.out
   clear HC2
   replace H := Option.bind_eq_some_iff.mp H
   obtain ⟨t102, A40, H⟩ := H
   replace H : (if t102 = true then ((spec_l4Name.f a0_1).bind fun t103 => (spec_l4Form.j0 k (!t103) a0_0 a0_1 a0_2 a0_3)) else (spec_l4Form.j0 k true a0_0 a0_1 a0_2 a0_3)) = some r := H
   have A4 := Aside0.mk A40
   clear A40
   by_cases c5 : t102 = true
   · subst c5
     have H1 : ((spec_l4Name.f a0_1).bind fun t103 => (spec_l4Form.j0 k (!t103) a0_0 a0_1 a0_2 a0_3)) = some r := by rw [if_pos rfl] at H; exact H
     clear H
     have H := H1
     clear H1
     replace H := Option.bind_eq_some_iff.mp H
     obtain ⟨t103, A60, H⟩ := H
     replace H : (spec_l4Form.j0 k (!t103) a0_0 a0_1 a0_2 a0_3) = some r := H
     have A6 := Aside0.mk A60
     clear A60
     have H' := Aside0.mk H
     clear H
     have hcz7_0 : w3.cell? ⟨gb101, 0, none⟩ = some (.int .i64 a0_0) := (qaf BK101.out 0).trans rfl
     have hcz7_1 : w3.cell? ⟨gb101, 1, none⟩ = some (.string a0_1) := (qaf BK101.out 1).trans rfl
     have hcz7_2 : w3.cell? ⟨gb101, 2, none⟩ = some (.string a0_2) := (qaf BK101.out 2).trans rfl
     have hcz7_3 : w3.cell? ⟨gb101, 3, none⟩ = some (.string a0_3) := (qaf BK101.out 3).trans rfl
     have hfz7_0 := qad BK101.out 0
     have hfz7_1 := qad BK101.out 1
     have hfz7_2 := qad BK101.out 2
     have hfz7_3 := qad BK101.out 3
     go_wp2_with (first | ((with_reducible refine qaq (f := 58) rfl ?_); refine qav (some 5) rfl rfl Try.func58 (by kernel_rfl) rfl #[.int .i64 a0_0, .int .i64 1, .int .i64 3] rfl (by (try simp only [List.map_toArray, List.map_cons, List.map_nil]); first | done | rfl | (simp only [List.length_drop, List.length_take]; rfl)) ?_; (with_reducible refine (spec_l1In.calls a0_0 1 3 true _ A4.out).mono ?_); rintro e w' ⟨rfl, ⟨nd, rfl⟩⟩; refine ⟨_, rfl, ?_⟩) | (go_at_call 84; (with_reducible refine (spec_l4Name.calls a0_1 t103 _ A6.out).mono ?_); rintro e w' ⟨rfl, ⟨nd, rfl⟩⟩))
     go_meet
     case rel => exact ⟨_, (!t103), (by first | rfl | (simp; done) | (simp [*]; done)), H', ⟨by first | omega | exact Nat.le_refl _⟩, ⟨by (with_reducible repeat (first | refine qah ?_ _ | refine qai ?_ | refine qag ?_ _)); exact BK101.out⟩, ⟨by repeat (first | (with_reducible first | exact HB.out | apply qab | apply qaa | apply qac | refine qae ?_ GE101.out) | exact HB.out)⟩⟩
   · replace c5 := Bool.eq_false_iff.mpr c5
     subst c5
     have H1 : (spec_l4Form.j0 k true a0_0 a0_1 a0_2 a0_3) = some r := by rw [if_neg (show ¬ (false = true) by decide)] at H; exact H
     clear H
     have H := H1
     clear H1
     have H' := Aside0.mk H
     clear H
     have hcz8_0 : w3.cell? ⟨gb101, 0, none⟩ = some (.int .i64 a0_0) := (qaf BK101.out 0).trans rfl
     have hcz8_1 : w3.cell? ⟨gb101, 1, none⟩ = some (.string a0_1) := (qaf BK101.out 1).trans rfl
     have hcz8_2 : w3.cell? ⟨gb101, 2, none⟩ = some (.string a0_2) := (qaf BK101.out 2).trans rfl
     have hcz8_3 : w3.cell? ⟨gb101, 3, none⟩ = some (.string a0_3) := (qaf BK101.out 3).trans rfl
     have hfz8_0 := qad BK101.out 0
     have hfz8_1 := qad BK101.out 1
     have hfz8_2 := qad BK101.out 2
     have hfz8_3 := qad BK101.out 3
     go_wp2_with (first | ((with_reducible refine qaq (f := 58) rfl ?_); refine qav (some 5) rfl rfl Try.func58 (by kernel_rfl) rfl #[.int .i64 a0_0, .int .i64 1, .int .i64 3] rfl (by (try simp only [List.map_toArray, List.map_cons, List.map_nil]); first | done | rfl | (simp only [List.length_drop, List.length_take]; rfl)) ?_; (with_reducible refine (spec_l1In.calls a0_0 1 3 false _ A4.out).mono ?_); rintro e w' ⟨rfl, ⟨nd, rfl⟩⟩; refine ⟨_, rfl, ?_⟩))
     go_meet
     case rel => exact ⟨_, (true), (by first | rfl | (simp; done) | (simp [*]; done)), H', ⟨by first | omega | exact Nat.le_refl _⟩, ⟨by (with_reducible repeat (first | refine qah ?_ _ | refine qai ?_ | refine qag ?_ _)); exact BK101.out⟩, ⟨by repeat (first | (with_reducible first | exact HB.out | apply qab | apply qaa | apply qac | refine qae ?_ GE101.out) | exact HB.out)⟩⟩
 case rest =>
   clear HC2
   try clear p2
   try clear c4
   try clear c5
   try clear hcz7_0
   try clear hcz7_1
   try clear hcz7_2
   try clear hcz7_3
   try clear hcz8_0
   try clear hcz8_1
   try clear hcz8_2
   try clear hcz8_3
   try clear hfz7_0
   try clear hfz7_1
   try clear hfz7_2
   try clear hfz7_3
   try clear hfz8_0
   try clear hfz8_1
   try clear hfz8_2
   try clear hfz8_3
   obtain ⟨kq, x12_1, rfl, HA, HJ1, BK101, HB⟩ := hcut
   cases kq with
   | zero => exact absurd HA.out (by simp [spec_l4Form.j0])
   | succ kj1 =>
     have H := HA.out
     clear HA
     simp only [spec_l4Form.j0] at H
     by_cases c9 : x12_1 = true
     · subst c9
       have H1 : (some false) = some r := by rw [if_pos rfl] at H; exact H
       clear H
       have H := H1
       clear H1
       obtain rfl := Option.some.inj H
       go_wp2
       go_ret
       exact ⟨by first | rfl | (simp [qal, qam] <;> rfl) | (simp [*, qal, qam] <;> rfl), by repeat (first | (with_reducible first | exact HB.out | apply qab | apply qaa | apply qac | refine qae ?_ GE101.out) | exact HB.out)⟩
     · replace c9 := Bool.eq_false_iff.mpr c9
       subst c9
       have H1 : (if a0_0 = 2 then ((spec_l4Name.f a0_2).bind fun t104 => (if t104 = true then (some (a0_3.toList == ([] : List UInt8))) else (some false))) else (if a0_2.toList = ([] : List UInt8) then (if a0_0 = 1 then (some true) else (some (a0_3.toList == ([] : List UInt8)))) else (some false))) = some r := by rw [if_neg (show ¬ (false = true) by decide)] at H; exact H
       clear H
       have H := H1
       clear H1
       by_cases c10 : a0_0 = 2
       · rw [if_pos c10] at H
         have c10b0 : (a0_0 == 2) = true := beq_iff_eq.mpr c10
         have c10b1 : (a0_0 != 2) = false := bne_eq_false_iff_eq.mpr c10
         clear c10
         replace H := Option.bind_eq_some_iff.mp H
         obtain ⟨t104, A110, H⟩ := H
         replace H : (if t104 = true then (some (a0_3.toList == ([] : List UInt8))) else (some false)) = some r := H
         have A11 := Aside0.mk A110
         clear A110
         by_cases c12 : t104 = true
         · subst c12
           have H1 : (some (a0_3.toList == ([] : List UInt8))) = some r := by rw [if_pos rfl] at H; exact H
           clear H
           have H := H1
           clear H1
           obtain rfl := Option.some.inj H
           have hcz13_0 : wc.cell? ⟨gb101, 0, none⟩ = some (.int .i64 a0_0) := (qaf BK101.out 0).trans rfl
           have hcz13_1 : wc.cell? ⟨gb101, 1, none⟩ = some (.string a0_1) := (qaf BK101.out 1).trans rfl
           have hcz13_2 : wc.cell? ⟨gb101, 2, none⟩ = some (.string a0_2) := (qaf BK101.out 2).trans rfl
           have hcz13_3 : wc.cell? ⟨gb101, 3, none⟩ = some (.string a0_3) := (qaf BK101.out 3).trans rfl
           have hfz13_0 := qad BK101.out 0
           have hfz13_1 := qad BK101.out 1
           have hfz13_2 := qad BK101.out 2
           have hfz13_3 := qad BK101.out 3
           go_wp2_with (first | ((with_reducible refine qaq (f := 84) rfl ?_); refine qav (some 18) rfl rfl Try.func84 (by kernel_rfl) rfl #[.string a0_2] rfl (by (try simp only [List.map_toArray, List.map_cons, List.map_nil]); first | done | rfl | (simp only [List.length_drop, List.length_take]; rfl)) ?_; (with_reducible refine (spec_l4Name.calls a0_2 true _ A11.out).mono ?_); rintro e w' ⟨rfl, ⟨nd, rfl⟩⟩; refine ⟨_, rfl, ?_⟩))
           go_ret
           exact ⟨by first | rfl | (simp [qal, qam] <;> rfl) | (simp [*, qal, qam] <;> rfl), by repeat (first | (with_reducible first | exact HB.out | apply qab | apply qaa | apply qac | refine qae ?_ GE101.out) | exact HB.out)⟩
         · replace c12 := Bool.eq_false_iff.mpr c12
           subst c12
           have H1 : (some false) = some r := by rw [if_neg (show ¬ (false = true) by decide)] at H; exact H
           clear H
           have H := H1
           clear H1
           obtain rfl := Option.some.inj H
           have hcz14_0 : wc.cell? ⟨gb101, 0, none⟩ = some (.int .i64 a0_0) := (qaf BK101.out 0).trans rfl
           have hcz14_1 : wc.cell? ⟨gb101, 1, none⟩ = some (.string a0_1) := (qaf BK101.out 1).trans rfl
           have hcz14_2 : wc.cell? ⟨gb101, 2, none⟩ = some (.string a0_2) := (qaf BK101.out 2).trans rfl
           have hcz14_3 : wc.cell? ⟨gb101, 3, none⟩ = some (.string a0_3) := (qaf BK101.out 3).trans rfl
           have hfz14_0 := qad BK101.out 0
           have hfz14_1 := qad BK101.out 1
           have hfz14_2 := qad BK101.out 2
           have hfz14_3 := qad BK101.out 3
           go_wp2_with (first | ((with_reducible refine qaq (f := 84) rfl ?_); refine qav (some 18) rfl rfl Try.func84 (by kernel_rfl) rfl #[.string a0_2] rfl (by (try simp only [List.map_toArray, List.map_cons, List.map_nil]); first | done | rfl | (simp only [List.length_drop, List.length_take]; rfl)) ?_; (with_reducible refine (spec_l4Name.calls a0_2 false _ A11.out).mono ?_); rintro e w' ⟨rfl, ⟨nd, rfl⟩⟩; refine ⟨_, rfl, ?_⟩))
           go_ret
           exact ⟨by first | rfl | (simp [qal, qam] <;> rfl) | (simp [*, qal, qam] <;> rfl), by repeat (first | (with_reducible first | exact HB.out | apply qab | apply qaa | apply qac | refine qae ?_ GE101.out) | exact HB.out)⟩
       · rw [if_neg c10] at H
         have c10b0 : (a0_0 == 2) = false := beq_eq_false_iff_ne.mpr c10
         have c10b1 : (a0_0 != 2) = true := bne_iff_ne.mpr c10
         by_cases c15 : a0_2.toList = ([] : List UInt8)
         · rw [if_pos c15] at H
           have c15b0 : (a0_2.toList == ([] : List UInt8)) = true := beq_iff_eq.mpr c15
           have c15b1 : (a0_2.toList != ([] : List UInt8)) = false := bne_eq_false_iff_eq.mpr c15
           clear c15
           by_cases c16 : a0_0 = 1
           · rw [if_pos c16] at H
             have c16b0 : (a0_0 == 1) = true := beq_iff_eq.mpr c16
             have c16b1 : (a0_0 != 1) = false := bne_eq_false_iff_eq.mpr c16
             clear c16
             obtain rfl := Option.some.inj H
             have hcz17_0 : wc.cell? ⟨gb101, 0, none⟩ = some (.int .i64 a0_0) := (qaf BK101.out 0).trans rfl
             have hcz17_1 : wc.cell? ⟨gb101, 1, none⟩ = some (.string a0_1) := (qaf BK101.out 1).trans rfl
             have hcz17_2 : wc.cell? ⟨gb101, 2, none⟩ = some (.string a0_2) := (qaf BK101.out 2).trans rfl
             have hcz17_3 : wc.cell? ⟨gb101, 3, none⟩ = some (.string a0_3) := (qaf BK101.out 3).trans rfl
             have hfz17_0 := qad BK101.out 0
             have hfz17_1 := qad BK101.out 1
             have hfz17_2 := qad BK101.out 2
             have hfz17_3 := qad BK101.out 3
             go_wp2
             go_ret
             exact ⟨by first | rfl | (simp [qal, qam] <;> rfl) | (simp [*, qal, qam] <;> rfl), by repeat (first | (with_reducible first | exact HB.out | apply qab | apply qaa | apply qac | refine qae ?_ GE101.out) | exact HB.out)⟩
           · rw [if_neg c16] at H
             have c16b0 : (a0_0 == 1) = false := beq_eq_false_iff_ne.mpr c16
             have c16b1 : (a0_0 != 1) = true := bne_iff_ne.mpr c16
             obtain rfl := Option.some.inj H
             have hcz18_0 : wc.cell? ⟨gb101, 0, none⟩ = some (.int .i64 a0_0) := (qaf BK101.out 0).trans rfl
             have hcz18_1 : wc.cell? ⟨gb101, 1, none⟩ = some (.string a0_1) := (qaf BK101.out 1).trans rfl
             have hcz18_2 : wc.cell? ⟨gb101, 2, none⟩ = some (.string a0_2) := (qaf BK101.out 2).trans rfl
             have hcz18_3 : wc.cell? ⟨gb101, 3, none⟩ = some (.string a0_3) := (qaf BK101.out 3).trans rfl
             have hfz18_0 := qad BK101.out 0
             have hfz18_1 := qad BK101.out 1
             have hfz18_2 := qad BK101.out 2
             have hfz18_3 := qad BK101.out 3
             go_wp2
             go_ret
             exact ⟨by first | rfl | (simp [qal, qam] <;> rfl) | (simp [*, qal, qam] <;> rfl), by repeat (first | (with_reducible first | exact HB.out | apply qab | apply qaa | apply qac | refine qae ?_ GE101.out) | exact HB.out)⟩
         · rw [if_neg c15] at H
           have c15b0 : (a0_2.toList == ([] : List UInt8)) = false := beq_eq_false_iff_ne.mpr c15
           have c15b1 : (a0_2.toList != ([] : List UInt8)) = true := bne_iff_ne.mpr c15
           obtain rfl := Option.some.inj H
           have hcz19_0 : wc.cell? ⟨gb101, 0, none⟩ = some (.int .i64 a0_0) := (qaf BK101.out 0).trans rfl
           have hcz19_1 : wc.cell? ⟨gb101, 1, none⟩ = some (.string a0_1) := (qaf BK101.out 1).trans rfl
           have hcz19_2 : wc.cell? ⟨gb101, 2, none⟩ = some (.string a0_2) := (qaf BK101.out 2).trans rfl
           have hcz19_3 : wc.cell? ⟨gb101, 3, none⟩ = some (.string a0_3) := (qaf BK101.out 3).trans rfl
           have hfz19_0 := qad BK101.out 0
           have hfz19_1 := qad BK101.out 1
           have hfz19_2 := qad BK101.out 2
           have hfz19_3 := qad BK101.out 3
           go_wp2
           go_ret
           exact ⟨by first | rfl | (simp [qal, qam] <;> rfl) | (simp [*, qal, qam] <;> rfl), by repeat (first | (with_reducible first | exact HB.out | apply qab | apply qaa | apply qac | refine qae ?_ GE101.out) | exact HB.out)⟩

end

section
attribute [local go_sem] str_geq str_leq str_gtr
mutual
def spec_l4Put.l0 : Nat → List (S80) → ByteArray → ByteArray → List (S80) → Bool → Int → Option ((List (S80)))
 | 0, _, _, _, _, _, _ => none
 | k + 1, x0, x1, x2, x7, x8, x9 => if x9 < (x0.length : Int) then (if x8 = true then (spec_l4Put.j1 k x0 x1 x2 x7 x8 x9 false) else (if 0 ≤ x9 then (spec_l4Put.j1 k x0 x1 x2 x7 x8 x9 (!(Op.bytesLess (((qan x0 x9).f0).toList) x1.toList))) else (none))) else (if x8 = true then (some x7) else (if x7.length < 4398046511104 then (some (x7 ++ [(⟨x1, x2⟩ : S80)])) else (none)))
def spec_l4Put.j1 : Nat → List (S80) → ByteArray → ByteArray → List (S80) → Bool → Int → Bool → Option ((List (S80)))
 | 0, _, _, _, _, _, _, _ => none
 | k + 1, x0, x1, x2, x7, x8, x9, x27 => if x27 = true then (if x7.length < 4398046511104 then ((some (x7 ++ [(⟨x1, x2⟩ : S80)] : List (S80))).bind fun y108 => (if 0 ≤ x9 then (if x9 < (x0.length : Int) then (if ((qan x0 x9).f0).toList = x1.toList then (spec_l4Put.l0 k x0 x1 x2 y108 true (wrap64 (x9 + 1))) else (if y108.length < 4398046511104 then (spec_l4Put.l0 k x0 x1 x2 (y108 ++ [(⟨(qan x0 x9).f0, (qan x0 x9).f1⟩ : S80)]) true (wrap64 (x9 + 1))) else (none))) else (none)) else (none))) else (none)) else (if 0 ≤ x9 then (if x9 < (x0.length : Int) then (if ((qan x0 x9).f0).toList = x1.toList then (spec_l4Put.l0 k x0 x1 x2 x7 x8 (wrap64 (x9 + 1))) else (if x7.length < 4398046511104 then (spec_l4Put.l0 k x0 x1 x2 (x7 ++ [(⟨(qan x0 x9).f0, (qan x0 x9).f1⟩ : S80)]) x8 (wrap64 (x9 + 1))) else (none))) else (none)) else (none))
end
def spec_l4Put.f (k : Nat) (l0 : List (S80)) (a1 : ByteArray) (a2 : ByteArray) : Option ((List (S80))) := spec_l4Put.l0 k l0 a1 a2 (([] : List (S80))) false 0
theorem spec_l4Put.mono_l : ∀ k, (∀ y0 y1 y2 y3 y4 y5, LeO (spec_l4Put.l0 k y0 y1 y2 y3 y4 y5) (spec_l4Put.l0 (k + 1) y0 y1 y2 y3 y4 y5)) ∧ (∀ y0 y1 y2 y3 y4 y5 y6, LeO (spec_l4Put.j1 k y0 y1 y2 y3 y4 y5 y6) (spec_l4Put.j1 (k + 1) y0 y1 y2 y3 y4 y5 y6))
 | 0 => ⟨fun _ _ _ _ _ _ r h => by simp [spec_l4Put.l0] at h, fun _ _ _ _ _ _ _ r h => by simp [spec_l4Put.j1] at h⟩
 | k + 1 => by
   obtain ⟨ih0, ih1⟩ := spec_l4Put.mono_l k
   refine ⟨?_, ?_⟩
   · intro y0 y1 y2 y3 y4 y5
     unfold spec_l4Put.l0
     repeat' first
     | (with_reducible exact ih0 _ _ _ _ _ _)
     | (with_reducible exact ih1 _ _ _ _ _ _ _)
     | (with_reducible exact LeO.refl _)
     | (with_reducible exact LeO.none _)
     | (with_reducible refine LeO.ite ?_ ?_)
     | (with_reducible refine LeO.bind ?_ (fun _ => ?_))
     | exact ih0 _ _ _ _ _ _
     | exact ih1 _ _ _ _ _ _ _
     | exact LeO.none _
     | refine LeO.ite ?_ ?_
     | refine LeO.bind ?_ (fun _ => ?_)
   · intro y0 y1 y2 y3 y4 y5 y6
     unfold spec_l4Put.j1
     repeat' first
     | (with_reducible exact ih0 _ _ _ _ _ _)
     | (with_reducible exact ih1 _ _ _ _ _ _ _)
     | (with_reducible exact LeO.refl _)
     | (with_reducible exact LeO.none _)
     | (with_reducible refine LeO.ite ?_ ?_)
     | (with_reducible refine LeO.bind ?_ (fun _ => ?_))
     | exact ih0 _ _ _ _ _ _
     | exact ih1 _ _ _ _ _ _ _
     | exact LeO.none _
     | refine LeO.ite ?_ ?_
     | refine LeO.bind ?_ (fun _ => ?_)
theorem spec_l4Put.mono : ∀ a0 a1 a2 k, LeO (spec_l4Put.f k a0 a1 a2) (spec_l4Put.f (k + 1) a0 a1 a2) := by
 intro a0 a1 a2 k
 obtain ⟨ih0, ih1⟩ := spec_l4Put.mono_l k
 unfold spec_l4Put.f
 repeat' first
     | (with_reducible exact ih0 _ _ _ _ _ _)
     | (with_reducible exact ih1 _ _ _ _ _ _ _)
     | (with_reducible exact LeO.refl _)
     | (with_reducible exact LeO.none _)
     | (with_reducible refine LeO.ite ?_ ?_)
     | (with_reducible refine LeO.bind ?_ (fun _ => ?_))
     | exact ih0 _ _ _ _ _ _
     | exact ih1 _ _ _ _ _ _ _
     | exact LeO.none _
     | refine LeO.ite ?_ ?_
     | refine LeO.bind ?_ (fun _ => ?_)
set_option maxHeartbeats 8000000 in
set_option maxRecDepth 100000 in
theorem spec_l4Put.calls (k : Nat) (A0 : Option Addr) (c0 : Nat) (l0 : List (S80)) (a1 : ByteArray) (a2 : ByteArray) (r : List (S80)) (w : World) (hr0 : Kd.C k80 w A0 l0.length l0) (hc0 : l0.length ≤ c0) (h : spec_l4Put.f k l0 a1 a2 = some r) :
   Calls Try.prog 85 #[.slice A0 l0.length c0, .string a1, .string a2] w fun e w' => ∃ v0_ : Value, e = .returned (v0_) ∧ Kd.R k80 80 w' w.heap.size (fun _ => True) v0_ r ∧ Below w.heap.size w w' := by
 have hu80 := Try.underlying80
 have HR0 := Aside0.mk hr0
 have HC0 := Aside0.mk hc0
 clear hr0 hc0
 have HB := Aside0.mk (Below.refl w.heap.size w)
 have H : (spec_l4Put.l0 k l0 a1 a2 (([] : List (S80))) false 0) = some r := h
 clear h
 obtain ⟨y101, hy101⟩ : ∃ y_ : List (S80), y_ = (([] : List (S80))) := ⟨_, rfl⟩
 replace H : (spec_l4Put.l0 k l0 a1 a2 y101 false 0) = some r := by first | (rw [hy101]; with_reducible exact H) | (have H2_ := (Option.bind_some _ _).symm.trans H; rw [hy101]; with_reducible exact H2_) | (have H2_ := (Option.bind_some _ _).symm.trans H; with_reducible exact H2_) | with_reducible exact H | (rw [hy101]; exact H) | exact H
 have Ny101 := Aside0.mk hy101
 clear hy101
 have H' := Aside0.mk H
 clear H
 go_enter Try.func85, Try.ntmps85
 go_wp2_with (first | ((with_reducible refine qas (N := 10) rfl ?_); refine Kd.R_lit k80 _ 80 ?hg (N := 10) ?hd (xs := ([] : List (S80))) (inner := []) (ok := fun _ => True) (okp := fun _ => True) ?hr ?hp (fun _ hk => hk) trivial (Below.refl _ _) (Nat.le_refl _) (by simp) ?_; (case hd => rfl); (case hg => rfl); (case hr => first | (go_simp; done) | (go_simp; rfl)); (case hp => exact (Reps.none _ _)); intro v102 w4 ho5 hb hg_ hnew_; clear hg_ hnew_; (first | rw [← Ny101.out] at ho5 | (simp only [Int.reduceToNat] at ho5; rw [← Ny101.out] at ho5)); have n0_ := Aside0.mk (Kd.R_lower ho5 (qaj (by repeat (first | (with_reducible first | exact HB.out | apply qab | apply qaa | apply qac) | exact HB.out)))); have n1_ := Aside0.mk (qak (by repeat (first | (with_reducible first | exact HB.out | apply qab | apply qaa | apply qac) | exact HB.out)) hb); clear HB; have HO103 := n0_; have HB := n1_; clear n0_ n1_; clear hb ho5))
 go_loopg [7, 8, 9] k (fun kq v7 v8 v9 w' => ∃ (x7_1 : List (S80)) (x8_1 : Bool) (x9_1 : Int), v8 = .bool x8_1 ∧ v9 = .int .i64 x9_1 ∧ Aside0 (spec_l4Put.l0 kq l0 a1 a2 x7_1 x8_1 x9_1 = some r) ∧ Aside0 (kq ≤ k) ∧ Aside0 (Kd.R k80 80 w' w.heap.size (fun _ => True) v7 x7_1) ∧ Aside0 (Below w.heap.size w w'))
 case atStart => exact ⟨(y101), (false), (0), (by first | rfl | (simp; done) | (simp [*]; done)), (by first | rfl | (simp; done) | (simp [*]; done)), H', ⟨Nat.le_refl _⟩, ⟨by (with_reducible repeat (first | apply Kd.R_alloc | apply Kd.R_drewN | apply Kd.R_drew)); exact HO103.out⟩, ⟨by repeat (first | (with_reducible first | exact HB.out | apply qab | apply qaa | apply qac) | exact HB.out)⟩⟩
 case round =>
   clear H'
   try clear p2
   obtain ⟨x7_1, x8_1, x9_1, rfl, rfl, HA, HK1, HO_7, HB⟩ := hrel
   cases gk with
   | zero => exact absurd HA.out (by simp [spec_l4Put.l0])
   | succ k1 =>
     have H := HA.out
     clear HA
     simp only [spec_l4Put.l0] at H
     by_cases c6 : x9_1 < (l0.length : Int)
     · rw [if_pos c6] at H
       have c6b0 : decide (x9_1 < (l0.length : Int)) = true := decide_eq_true c6
       clear c6
       have HC7 := Aside0.mk H
       clear H
       go_upto_region 6 with (fail)
       go_cut [27] (fun v27 wc => ∃ (kq : Nat) (x27_6 : Bool), v27 = .bool x27_6 ∧ Aside0 (spec_l4Put.j1 kq l0 a1 a2 x7_1 x8_1 x9_1 x27_6 = some r) ∧ Aside0 (kq ≤ k1) ∧ Aside0 (Kd.R k80 80 wc w.heap.size (fun _ => True) u7 x7_1) ∧ Aside0 (Below w.heap.size w wc))
       case first =>
         have H := HC7.out
         clear HC7
         by_cases c8 : x8_1 = true
         · subst c8
           have H1 : (spec_l4Put.j1 k1 l0 a1 a2 x7_1 true x9_1 false) = some r := by rw [if_pos rfl] at H; exact H
           clear H
           have H := H1
           clear H1
           have H' := Aside0.mk H
           clear H
           go_wp2
           go_meet
           case rel => exact ⟨_, (false), (by first | rfl | (simp; done) | (simp [*]; done)), H', ⟨by have := HK1.out; first | omega | exact Nat.le_refl _⟩, ⟨by (with_reducible repeat (first | apply Kd.R_alloc | apply Kd.R_drewN | apply Kd.R_drew)); exact HO_7.out⟩, ⟨by repeat (first | (with_reducible first | exact HB.out | apply qab | apply qaa | apply qac) | exact HB.out)⟩⟩
         · replace c8 := Bool.eq_false_iff.mpr c8
           subst c8
           have H1 : (if 0 ≤ x9_1 then (spec_l4Put.j1 k1 l0 a1 a2 x7_1 false x9_1 (!(Op.bytesLess (((qan l0 x9_1).f0).toList) a1.toList))) else (none)) = some r := by rw [if_neg (show ¬ (false = true) by decide)] at H; exact H
           clear H
           have H := H1
           clear H1
           by_cases c9 : 0 ≤ x9_1
           · rw [if_pos c9] at H
             have c9b0 : decide (0 ≤ x9_1) = true := decide_eq_true c9
             clear c9
             (first | rw [c9b0] | (simp only [i64_w, i32_w]; rw [c9b0]) | skip)
             have H' := Aside0.mk H
             clear H
             have p107 : 0 ≤ (x9_1 : Int) := of_decide_eq_true (by first | (with_reducible assumption) | assumption)
             have q107 : x9_1 < (l0.length : Int) := of_decide_eq_true (by first | (with_reducible assumption) | assumption)
             obtain ⟨ad107, e107, hx107_0, hx107_1⟩ := qba HR0.out x9_1 p107 q107
             cases e107
             replace hx107_0 := (HB.out.cell (World.block_lt_of_cell? w _ hx107_0)).trans hx107_0
             replace hx107_1 := (HB.out.cell (World.block_lt_of_cell? w _ hx107_1)).trans hx107_1
             replace p107 := eq_true p107
             replace q107 := eq_true q107
             go_wp2
             go_meet
             case rel => exact ⟨_, (!(Op.bytesLess (((qan l0 x9_1).f0).toList) a1.toList)), (by first | rfl | (simp; done) | (simp [*]; done)), H', ⟨by have := HK1.out; first | omega | exact Nat.le_refl _⟩, ⟨by (with_reducible repeat (first | apply Kd.R_alloc | apply Kd.R_drewN | apply Kd.R_drew)); exact HO_7.out⟩, ⟨by repeat (first | (with_reducible first | exact HB.out | apply qab | apply qaa | apply qac) | exact HB.out)⟩⟩
           · rw [if_neg c9] at H
             exact absurd H (by simp)
       case rest =>
         clear HC7
         try clear p1
         try clear q1
         try clear hx1
         try clear p2
         try clear c6
         try clear c6b0
         try clear c8
         try clear c9
         try clear c9b0
         try clear hx107_0
         try clear hx107_1
         try clear p107
         try clear p2
         try clear q107
         obtain ⟨kq, x27_6, rfl, HA, HJ6, HO_7, HB⟩ := hcut
         cases kq with
         | zero => exact absurd HA.out (by simp [spec_l4Put.j1])
         | succ kj6 =>
           have H := HA.out
           clear HA
           simp only [spec_l4Put.j1] at H
           by_cases c10 : x27_6 = true
           · subst c10
             have H1 : (if x7_1.length < 4398046511104 then ((some (x7_1 ++ [(⟨a1, a2⟩ : S80)] : List (S80))).bind fun y108 => (if 0 ≤ x9_1 then (if x9_1 < (l0.length : Int) then (if ((qan l0 x9_1).f0).toList = a1.toList then (spec_l4Put.l0 kj6 l0 a1 a2 y108 true (wrap64 (x9_1 + 1))) else (if y108.length < 4398046511104 then (spec_l4Put.l0 kj6 l0 a1 a2 (y108 ++ [(⟨(qan l0 x9_1).f0, (qan l0 x9_1).f1⟩ : S80)]) true (wrap64 (x9_1 + 1))) else (none))) else (none)) else (none))) else (none)) = some r := by rw [if_pos rfl] at H; exact H
             clear H
             have H := H1
             clear H1
             by_cases c11 : x7_1.length < 4398046511104
             · rw [if_pos c11] at H
               have LMc11 := Aside0.mk c11
               clear c11
               obtain ⟨y108, hy108⟩ : ∃ y_ : List (S80), y_ = (x7_1 ++ [(⟨a1, a2⟩ : S80)]) := ⟨_, rfl⟩
               replace H : (if 0 ≤ x9_1 then (if x9_1 < (l0.length : Int) then (if ((qan l0 x9_1).f0).toList = a1.toList then (spec_l4Put.l0 kj6 l0 a1 a2 y108 true (wrap64 (x9_1 + 1))) else (if y108.length < 4398046511104 then (spec_l4Put.l0 kj6 l0 a1 a2 (y108 ++ [(⟨(qan l0 x9_1).f0, (qan l0 x9_1).f1⟩ : S80)]) true (wrap64 (x9_1 + 1))) else (none))) else (none)) else (none)) = some r := by first | (rw [hy108]; with_reducible exact H) | (have H2_ := (Option.bind_some _ _).symm.trans H; rw [hy108]; with_reducible exact H2_) | (have H2_ := (Option.bind_some _ _).symm.trans H; with_reducible exact H2_) | with_reducible exact H | (rw [hy108]; exact H) | exact H
               have Ny108 := Aside0.mk hy108
               clear hy108
               by_cases c12 : 0 ≤ x9_1
               · rw [if_pos c12] at H
                 have c12b0 : decide (0 ≤ x9_1) = true := decide_eq_true c12
                 clear c12
                 by_cases c13 : x9_1 < (l0.length : Int)
                 · rw [if_pos c13] at H
                   have c13b0 : decide (x9_1 < (l0.length : Int)) = true := decide_eq_true c13
                   clear c13
                   by_cases c14 : ((qan l0 x9_1).f0).toList = a1.toList
                   · rw [if_pos c14] at H
                     have c14b0 : (((qan l0 x9_1).f0).toList == a1.toList) = true := beq_iff_eq.mpr c14
                     have c14b1 : (((qan l0 x9_1).f0).toList != a1.toList) = false := bne_eq_false_iff_eq.mpr c14
                     clear c14
                     have H' := Aside0.mk H
                     clear H
                     go_wp2_with (first | ((with_reducible refine qbo (b := .append) (xs := #[.tmp 28, .tmp 32]) rfl ?_); at_builtin; refine Kd.R_append k80 (w0 := w) w.heap.size rfl (.tmp 28) (.tmp 32) 28 80 (.agg #[(.string ⟨#[]⟩), (.string ⟨#[]⟩)]) 32 rfl Try.underlying28 qcl rfl (by decide) (by omega) u7 x7_1 (⟨a1, a2⟩ : S80) [.string a1, .string a2] (fun _ => True) (fun _ => False) rfl rfl ?aP (fun _ hk => hk.elim) ?aF ?aO ?aB ?aS ?aL ?_; (case aP => exact qcp _ _ _ (⟨a1, a2⟩ : S80)); (case aB => exact (by repeat (first | (with_reducible first | exact HB.out | apply qab | apply qaa | apply qac) | exact HB.out))); (case aF => exact (fun _ _ => trivial)); (case aO => exact (by (with_reducible repeat (first | apply Kd.R_alloc | apply Kd.R_drewN | apply Kd.R_drew)); exact HO_7.out)); (case aS => exact (qaj (by repeat (first | (with_reducible first | exact HB.out | apply qab | apply qaa | apply qac) | exact HB.out)))); (case aL => have := LMc11.out; omega); intro v109 w15 ho hb hg hat; rw [← Ny108.out] at ho; have n0_ := Aside0.mk (hb); have n1_ := Aside0.mk (ho); clear HB; clear HO_7; have HB := n0_; have HO110 := n1_; clear n0_ n1_; clear ho hb hg hat; have p111 : 0 ≤ (x9_1 : Int) := of_decide_eq_true (by first | (with_reducible assumption) | assumption); have q111 : x9_1 < (l0.length : Int) := of_decide_eq_true (by first | (with_reducible assumption) | assumption); obtain ⟨ad111, e111, hx111_0, hx111_1⟩ := qba HR0.out x9_1 p111 q111; cases e111; replace hx111_0 := (HB.out.cell (World.block_lt_of_cell? w _ hx111_0)).trans hx111_0; replace hx111_1 := (HB.out.cell (World.block_lt_of_cell? w _ hx111_1)).trans hx111_1; replace p111 := eq_true p111; replace q111 := eq_true q111))
                     go_roundg kj6
                     case measure => have := HK1.out; have := HJ6.out; omega
                     case rel => exact ⟨(y108), (true), (wrap64 (x9_1 + 1)), (by first | rfl | (simp; done) | (simp [*]; done)), (by first | rfl | (simp; done) | (simp [*]; done)), H', ⟨by have := HK1.out; have := HJ6.out; omega⟩, ⟨by (with_reducible repeat (first | apply Kd.R_alloc | apply Kd.R_drewN | apply Kd.R_drew)); exact HO110.out⟩, ⟨by repeat (first | (with_reducible first | exact HB.out | apply qab | apply qaa | apply qac) | exact HB.out)⟩⟩
                   · rw [if_neg c14] at H
                     have c14b0 : (((qan l0 x9_1).f0).toList == a1.toList) = false := beq_eq_false_iff_ne.mpr c14
                     have c14b1 : (((qan l0 x9_1).f0).toList != a1.toList) = true := bne_iff_ne.mpr c14
                     by_cases c16 : y108.length < 4398046511104
                     · rw [if_pos c16] at H
                       have LMc16 := Aside0.mk c16
                       clear c16
                       obtain ⟨y113, hy113⟩ : ∃ y_ : List (S80), y_ = (y108 ++ [(⟨(qan l0 x9_1).f0, (qan l0 x9_1).f1⟩ : S80)]) := ⟨_, rfl⟩
                       replace H : (spec_l4Put.l0 kj6 l0 a1 a2 y113 true (wrap64 (x9_1 + 1))) = some r := by first | (rw [hy113]; with_reducible exact H) | (have H2_ := (Option.bind_some _ _).symm.trans H; rw [hy113]; with_reducible exact H2_) | (have H2_ := (Option.bind_some _ _).symm.trans H; with_reducible exact H2_) | with_reducible exact H | (rw [hy113]; exact H) | exact H
                       have Ny113 := Aside0.mk hy113
                       clear hy113
                       have H' := Aside0.mk H
                       clear H
                       go_wp2_with (first | ((with_reducible refine qbo (b := .append) (xs := #[.tmp 28, .tmp 32]) rfl ?_); at_builtin; refine Kd.R_append k80 (w0 := w) w.heap.size rfl (.tmp 28) (.tmp 32) 28 80 (.agg #[(.string ⟨#[]⟩), (.string ⟨#[]⟩)]) 32 rfl Try.underlying28 qcl rfl (by decide) (by omega) u7 x7_1 (⟨a1, a2⟩ : S80) [.string a1, .string a2] (fun _ => True) (fun _ => False) rfl rfl ?aP (fun _ hk => hk.elim) ?aF ?aO ?aB ?aS ?aL ?_; (case aP => exact qcp _ _ _ (⟨a1, a2⟩ : S80)); (case aB => exact (by repeat (first | (with_reducible first | exact HB.out | apply qab | apply qaa | apply qac) | exact HB.out))); (case aF => exact (fun _ _ => trivial)); (case aO => exact (by (with_reducible repeat (first | apply Kd.R_alloc | apply Kd.R_drewN | apply Kd.R_drew)); exact HO_7.out)); (case aS => exact (qaj (by repeat (first | (with_reducible first | exact HB.out | apply qab | apply qaa | apply qac) | exact HB.out)))); (case aL => have := LMc11.out; omega); intro v109 w17 ho hb hg hat; rw [← Ny108.out] at ho; have n0_ := Aside0.mk (hb); have n1_ := Aside0.mk (ho); clear HB; clear HO_7; have HB := n0_; have HO110 := n1_; clear n0_ n1_; clear ho hb hg hat; have p111 : 0 ≤ (x9_1 : Int) := of_decide_eq_true (by first | (with_reducible assumption) | assumption); have q111 : x9_1 < (l0.length : Int) := of_decide_eq_true (by first | (with_reducible assumption) | assumption); obtain ⟨ad111, e111, hx111_0, hx111_1⟩ := qba HR0.out x9_1 p111 q111; cases e111; replace hx111_0 := (HB.out.cell (World.block_lt_of_cell? w _ hx111_0)).trans hx111_0; replace hx111_1 := (HB.out.cell (World.block_lt_of_cell? w _ hx111_1)).trans hx111_1; replace p111 := eq_true p111; replace q111 := eq_true q111; have p112 : 0 ≤ (x9_1 : Int) := of_decide_eq_true (by first | (with_reducible assumption) | assumption); have q112 : x9_1 < (l0.length : Int) := of_decide_eq_true (by first | (with_reducible assumption) | assumption); obtain ⟨ad112, e112, hx112_0, hx112_1⟩ := qba HR0.out x9_1 p112 q112; obtain rfl : ad111 = ad112 := (by injection e112); replace hx112_0 := (HB.out.cell (World.block_lt_of_cell? w _ hx112_0)).trans hx112_0; replace hx112_1 := (HB.out.cell (World.block_lt_of_cell? w _ hx112_1)).trans hx112_1; replace p112 := eq_true p112; replace q112 := eq_true q112) | ((with_reducible refine qbo (b := .append) (xs := #[.tmp 41, .tmp 46]) rfl ?_); at_builtin; refine Kd.R_append k80 (w0 := w) w.heap.size rfl (.tmp 41) (.tmp 46) 28 80 (.agg #[(.string ⟨#[]⟩), (.string ⟨#[]⟩)]) 32 rfl Try.underlying28 qcl rfl (by decide) (by omega) v109 y108 (⟨(qan l0 x9_1).f0, (qan l0 x9_1).f1⟩ : S80) [.string ((qan l0 x9_1).f0), .string ((qan l0 x9_1).f1)] (fun _ => True) (fun _ => False) rfl rfl ?aP (fun _ hk => hk.elim) ?aF ?aO ?aB ?aS ?aL ?_; (case aP => exact qcp _ _ _ (⟨(qan l0 x9_1).f0, (qan l0 x9_1).f1⟩ : S80)); (case aB => exact (by repeat (first | (with_reducible first | exact HB.out | apply qab | apply qaa | apply qac) | exact HB.out))); (case aF => exact (fun _ _ => trivial)); (case aO => exact (by (with_reducible repeat (first | apply Kd.R_alloc | apply Kd.R_drewN | apply Kd.R_drew)); exact HO110.out)); (case aS => exact (qaj (by repeat (first | (with_reducible first | exact HB.out | apply qab | apply qaa | apply qac) | exact HB.out)))); (case aL => have := LMc16.out; omega); intro v114 w18 ho hb hg hat; rw [← Ny113.out] at ho; have n0_ := Aside0.mk (hb); have n1_ := Aside0.mk (ho); clear HB; clear HO110; have HB := n0_; have HO115 := n1_; clear n0_ n1_; clear ho hb hg hat))
                       go_roundg kj6
                       case measure => have := HK1.out; have := HJ6.out; omega
                       case rel => exact ⟨(y113), (true), (wrap64 (x9_1 + 1)), (by first | rfl | (simp; done) | (simp [*]; done)), (by first | rfl | (simp; done) | (simp [*]; done)), H', ⟨by have := HK1.out; have := HJ6.out; omega⟩, ⟨by (with_reducible repeat (first | apply Kd.R_alloc | apply Kd.R_drewN | apply Kd.R_drew)); exact HO115.out⟩, ⟨by repeat (first | (with_reducible first | exact HB.out | apply qab | apply qaa | apply qac) | exact HB.out)⟩⟩
                     · rw [if_neg c16] at H
                       exact absurd H (by simp)
                 · rw [if_neg c13] at H
                   exact absurd H (by simp)
               · rw [if_neg c12] at H
                 exact absurd H (by simp)
             · rw [if_neg c11] at H
               exact absurd H (by simp)
           · replace c10 := Bool.eq_false_iff.mpr c10
             subst c10
             have H1 : (if 0 ≤ x9_1 then (if x9_1 < (l0.length : Int) then (if ((qan l0 x9_1).f0).toList = a1.toList then (spec_l4Put.l0 kj6 l0 a1 a2 x7_1 x8_1 (wrap64 (x9_1 + 1))) else (if x7_1.length < 4398046511104 then (spec_l4Put.l0 kj6 l0 a1 a2 (x7_1 ++ [(⟨(qan l0 x9_1).f0, (qan l0 x9_1).f1⟩ : S80)]) x8_1 (wrap64 (x9_1 + 1))) else (none))) else (none)) else (none)) = some r := by rw [if_neg (show ¬ (false = true) by decide)] at H; exact H
             clear H
             have H := H1
             clear H1
             by_cases c19 : 0 ≤ x9_1
             · rw [if_pos c19] at H
               have c19b0 : decide (0 ≤ x9_1) = true := decide_eq_true c19
               clear c19
               by_cases c20 : x9_1 < (l0.length : Int)
               · rw [if_pos c20] at H
                 have c20b0 : decide (x9_1 < (l0.length : Int)) = true := decide_eq_true c20
                 clear c20
                 by_cases c21 : ((qan l0 x9_1).f0).toList = a1.toList
                 · rw [if_pos c21] at H
                   have c21b0 : (((qan l0 x9_1).f0).toList == a1.toList) = true := beq_iff_eq.mpr c21
                   have c21b1 : (((qan l0 x9_1).f0).toList != a1.toList) = false := bne_eq_false_iff_eq.mpr c21
                   clear c21
                   have H' := Aside0.mk H
                   clear H
                   have p116 : 0 ≤ (x9_1 : Int) := of_decide_eq_true (by first | (with_reducible assumption) | assumption)
                   have q116 : x9_1 < (l0.length : Int) := of_decide_eq_true (by first | (with_reducible assumption) | assumption)
                   obtain ⟨ad116, e116, hx116_0, hx116_1⟩ := qba HR0.out x9_1 p116 q116
                   cases e116
                   replace hx116_0 := (HB.out.cell (World.block_lt_of_cell? w _ hx116_0)).trans hx116_0
                   replace hx116_1 := (HB.out.cell (World.block_lt_of_cell? w _ hx116_1)).trans hx116_1
                   replace p116 := eq_true p116
                   replace q116 := eq_true q116
                   go_wp2
                   go_roundg kj6
                   case measure => have := HK1.out; have := HJ6.out; omega
                   case rel => exact ⟨(x7_1), (x8_1), (wrap64 (x9_1 + 1)), (by first | rfl | (simp; done) | (simp [*]; done)), (by first | rfl | (simp; done) | (simp [*]; done)), H', ⟨by have := HK1.out; have := HJ6.out; omega⟩, ⟨by (with_reducible repeat (first | apply Kd.R_alloc | apply Kd.R_drewN | apply Kd.R_drew)); exact HO_7.out⟩, ⟨by repeat (first | (with_reducible first | exact HB.out | apply qab | apply qaa | apply qac) | exact HB.out)⟩⟩
                 · rw [if_neg c21] at H
                   have c21b0 : (((qan l0 x9_1).f0).toList == a1.toList) = false := beq_eq_false_iff_ne.mpr c21
                   have c21b1 : (((qan l0 x9_1).f0).toList != a1.toList) = true := bne_iff_ne.mpr c21
                   by_cases c22 : x7_1.length < 4398046511104
                   · rw [if_pos c22] at H
                     have LMc22 := Aside0.mk c22
                     clear c22
                     obtain ⟨y118, hy118⟩ : ∃ y_ : List (S80), y_ = (x7_1 ++ [(⟨(qan l0 x9_1).f0, (qan l0 x9_1).f1⟩ : S80)]) := ⟨_, rfl⟩
                     replace H : (spec_l4Put.l0 kj6 l0 a1 a2 y118 x8_1 (wrap64 (x9_1 + 1))) = some r := by first | (rw [hy118]; with_reducible exact H) | (have H2_ := (Option.bind_some _ _).symm.trans H; rw [hy118]; with_reducible exact H2_) | (have H2_ := (Option.bind_some _ _).symm.trans H; with_reducible exact H2_) | with_reducible exact H | (rw [hy118]; exact H) | exact H
                     have Ny118 := Aside0.mk hy118
                     clear hy118
                     have H' := Aside0.mk H
                     clear H
                     have p116 : 0 ≤ (x9_1 : Int) := of_decide_eq_true (by first | (with_reducible assumption) | assumption)
                     have q116 : x9_1 < (l0.length : Int) := of_decide_eq_true (by first | (with_reducible assumption) | assumption)
                     obtain ⟨ad116, e116, hx116_0, hx116_1⟩ := qba HR0.out x9_1 p116 q116
                     cases e116
                     replace hx116_0 := (HB.out.cell (World.block_lt_of_cell? w _ hx116_0)).trans hx116_0
                     replace hx116_1 := (HB.out.cell (World.block_lt_of_cell? w _ hx116_1)).trans hx116_1
                     replace p116 := eq_true p116
                     replace q116 := eq_true q116
                     have p117 : 0 ≤ (x9_1 : Int) := of_decide_eq_true (by first | (with_reducible assumption) | assumption)
                     have q117 : x9_1 < (l0.length : Int) := of_decide_eq_true (by first | (with_reducible assumption) | assumption)
                     obtain ⟨ad117, e117, hx117_0, hx117_1⟩ := qba HR0.out x9_1 p117 q117
                     obtain rfl : ad116 = ad117 := (by injection e117)
                     replace hx117_0 := (HB.out.cell (World.block_lt_of_cell? w _ hx117_0)).trans hx117_0
                     replace hx117_1 := (HB.out.cell (World.block_lt_of_cell? w _ hx117_1)).trans hx117_1
                     replace p117 := eq_true p117
                     replace q117 := eq_true q117
                     go_wp2_with (first | ((with_reducible refine qbo (b := .append) (xs := #[.tmp 41, .tmp 46]) rfl ?_); at_builtin; refine Kd.R_append k80 (w0 := w) w.heap.size rfl (.tmp 41) (.tmp 46) 28 80 (.agg #[(.string ⟨#[]⟩), (.string ⟨#[]⟩)]) 32 rfl Try.underlying28 qcl rfl (by decide) (by omega) u7 x7_1 (⟨(qan l0 x9_1).f0, (qan l0 x9_1).f1⟩ : S80) [.string ((qan l0 x9_1).f0), .string ((qan l0 x9_1).f1)] (fun _ => True) (fun _ => False) rfl rfl ?aP (fun _ hk => hk.elim) ?aF ?aO ?aB ?aS ?aL ?_; (case aP => exact qcp _ _ _ (⟨(qan l0 x9_1).f0, (qan l0 x9_1).f1⟩ : S80)); (case aB => exact (by repeat (first | (with_reducible first | exact HB.out | apply qab | apply qaa | apply qac) | exact HB.out))); (case aF => exact (fun _ _ => trivial)); (case aO => exact (by (with_reducible repeat (first | apply Kd.R_alloc | apply Kd.R_drewN | apply Kd.R_drew)); exact HO_7.out)); (case aS => exact (qaj (by repeat (first | (with_reducible first | exact HB.out | apply qab | apply qaa | apply qac) | exact HB.out)))); (case aL => have := LMc22.out; omega); intro v119 w23 ho hb hg hat; rw [← Ny118.out] at ho; have n0_ := Aside0.mk (hb); have n1_ := Aside0.mk (ho); clear HB; clear HO_7; have HB := n0_; have HO120 := n1_; clear n0_ n1_; clear ho hb hg hat))
                     go_roundg kj6
                     case measure => have := HK1.out; have := HJ6.out; omega
                     case rel => exact ⟨(y118), (x8_1), (wrap64 (x9_1 + 1)), (by first | rfl | (simp; done) | (simp [*]; done)), (by first | rfl | (simp; done) | (simp [*]; done)), H', ⟨by have := HK1.out; have := HJ6.out; omega⟩, ⟨by (with_reducible repeat (first | apply Kd.R_alloc | apply Kd.R_drewN | apply Kd.R_drew)); exact HO120.out⟩, ⟨by repeat (first | (with_reducible first | exact HB.out | apply qab | apply qaa | apply qac) | exact HB.out)⟩⟩
                   · rw [if_neg c22] at H
                     exact absurd H (by simp)
               · rw [if_neg c20] at H
                 exact absurd H (by simp)
             · rw [if_neg c19] at H
               exact absurd H (by simp)
     · rw [if_neg c6] at H
       have c6b0 : decide (x9_1 < (l0.length : Int)) = false := decide_eq_false c6
       clear c6
       by_cases c24 : x8_1 = true
       · subst c24
         have H1 : (some x7_1) = some r := by rw [if_pos rfl] at H; exact H
         clear H
         have H := H1
         clear H1
         obtain rfl := Option.some.inj H
         go_wp2
         go_ret
         exact ⟨_, by first | rfl | (simp [qal, qam] <;> rfl) | (simp [*, qal, qam] <;> rfl), by (with_reducible repeat (first | apply Kd.R_alloc | apply Kd.R_drewN | apply Kd.R_drew)); exact HO_7.out, by repeat (first | (with_reducible first | exact HB.out | apply qab | apply qaa | apply qac) | exact HB.out)⟩
       · replace c24 := Bool.eq_false_iff.mpr c24
         subst c24
         have H1 : (if x7_1.length < 4398046511104 then (some (x7_1 ++ [(⟨a1, a2⟩ : S80)])) else (none)) = some r := by rw [if_neg (show ¬ (false = true) by decide)] at H; exact H
         clear H
         have H := H1
         clear H1
         by_cases c25 : x7_1.length < 4398046511104
         · rw [if_pos c25] at H
           have LMc25 := Aside0.mk c25
           clear c25
           obtain ⟨y104, hy104⟩ : ∃ y_ : List (S80), y_ = (x7_1 ++ [(⟨a1, a2⟩ : S80)]) := ⟨_, rfl⟩
           replace H : (some y104) = some r := by first | (rw [hy104]; with_reducible exact H) | (have H2_ := (Option.bind_some _ _).symm.trans H; rw [hy104]; with_reducible exact H2_) | (have H2_ := (Option.bind_some _ _).symm.trans H; with_reducible exact H2_) | with_reducible exact H | (rw [hy104]; exact H) | exact H
           have Ny104 := Aside0.mk hy104
           clear hy104
           obtain rfl := Option.some.inj H
           go_wp2_with (first | ((with_reducible refine qbo (b := .append) (xs := #[.tmp 50, .tmp 54]) rfl ?_); at_builtin; refine Kd.R_append k80 (w0 := w) w.heap.size rfl (.tmp 50) (.tmp 54) 28 80 (.agg #[(.string ⟨#[]⟩), (.string ⟨#[]⟩)]) 32 rfl Try.underlying28 qcl rfl (by decide) (by omega) u7 x7_1 (⟨a1, a2⟩ : S80) [.string a1, .string a2] (fun _ => True) (fun _ => False) rfl rfl ?aP (fun _ hk => hk.elim) ?aF ?aO ?aB ?aS ?aL ?_; (case aP => exact qcp _ _ _ (⟨a1, a2⟩ : S80)); (case aB => exact (by repeat (first | (with_reducible first | exact HB.out | apply qab | apply qaa | apply qac) | exact HB.out))); (case aF => exact (fun _ _ => trivial)); (case aO => exact (by (with_reducible repeat (first | apply Kd.R_alloc | apply Kd.R_drewN | apply Kd.R_drew)); exact HO_7.out)); (case aS => exact (qaj (by repeat (first | (with_reducible first | exact HB.out | apply qab | apply qaa | apply qac) | exact HB.out)))); (case aL => have := LMc25.out; omega); intro v105 w26 ho hb hg hat; rw [← Ny104.out] at ho; have n0_ := Aside0.mk (hb); have n1_ := Aside0.mk (ho); clear HB; clear HO_7; have HB := n0_; have HO106 := n1_; clear n0_ n1_; clear ho hb hg hat))
           go_ret
           exact ⟨_, by first | rfl | (simp [qal, qam] <;> rfl) | (simp [*, qal, qam] <;> rfl), by (with_reducible repeat (first | apply Kd.R_alloc | apply Kd.R_drewN | apply Kd.R_drew)); exact HO106.out, by repeat (first | (with_reducible first | exact HB.out | apply qab | apply qaa | apply qac) | exact HB.out)⟩
         · rw [if_neg c25] at H
           exact absurd H (by simp)

end

section
attribute [local go_sem high] eqA80
def spec_l4Same.l0 : Nat → List (S80) → List (S80) → Int → Option (Bool)
 | 0, _, _, _ => none
 | k + 1, x0, x1, x5 => if x5 < (x0.length : Int) then (if 0 ≤ x5 then (if x5 < (x1.length : Int) then (if (!((((qan x0 x5).f0).toList) == (((qan x1 x5).f0).toList)) || (!((((qan x0 x5).f1).toList) == (((qan x1 x5).f1).toList)))) = true then (some false) else (spec_l4Same.l0 k x0 x1 (wrap64 (x5 + 1)))) else (none)) else (none)) else (some true)
def spec_l4Same.f (k : Nat) (l0 : List (S80)) (l1 : List (S80)) : Option (Bool) := if (l0.length : Int) = (l1.length : Int) then (spec_l4Same.l0 k l0 l1 0) else (some false)
theorem spec_l4Same.mono_l : ∀ k, (∀ y0 y1 y2, LeO (spec_l4Same.l0 k y0 y1 y2) (spec_l4Same.l0 (k + 1) y0 y1 y2))
 | 0 => fun _ _ _ r h => by simp [spec_l4Same.l0] at h
 | k + 1 => by
   have ih0 := spec_l4Same.mono_l k
   · intro y0 y1 y2
     unfold spec_l4Same.l0
     repeat' first
     | (with_reducible exact ih0 _ _ _)
     | (with_reducible exact LeO.refl _)
     | (with_reducible exact LeO.none _)
     | (with_reducible refine LeO.ite ?_ ?_)
     | (with_reducible refine LeO.bind ?_ (fun _ => ?_))
     | exact ih0 _ _ _
     | exact LeO.none _
     | refine LeO.ite ?_ ?_
     | refine LeO.bind ?_ (fun _ => ?_)
theorem spec_l4Same.mono : ∀ a0 a1 k, LeO (spec_l4Same.f k a0 a1) (spec_l4Same.f (k + 1) a0 a1) := by
 intro a0 a1 k
 have ih0 := spec_l4Same.mono_l k
 unfold spec_l4Same.f
 repeat' first
     | (with_reducible exact ih0 _ _ _)
     | (with_reducible exact LeO.refl _)
     | (with_reducible exact LeO.none _)
     | (with_reducible refine LeO.ite ?_ ?_)
     | (with_reducible refine LeO.bind ?_ (fun _ => ?_))
     | exact ih0 _ _ _
     | exact LeO.none _
     | refine LeO.ite ?_ ?_
     | refine LeO.bind ?_ (fun _ => ?_)
set_option maxHeartbeats 8000000 in
set_option maxRecDepth 100000 in
theorem spec_l4Same.calls (k : Nat) (A0 : Option Addr) (c0 : Nat) (l0 : List (S80)) (A1 : Option Addr) (c1 : Nat) (l1 : List (S80)) (r : Bool) (w : World) (hr0 : Kd.C k80 w A0 l0.length l0) (hc0 : l0.length ≤ c0) (hr1 : Kd.C k80 w A1 l1.length l1) (hc1 : l1.length ≤ c1) (h : spec_l4Same.f k l0 l1 = some r) :
   Calls Try.prog 46 #[.slice A0 l0.length c0, .slice A1 l1.length c1] w fun e w' => e = .returned (.bool r) ∧ Drawn0 w w' := by
 have hu80 := Try.underlying80
 have HR0 := Aside0.mk hr0
 have HC0 := Aside0.mk hc0
 clear hr0 hc0
 have HR1 := Aside0.mk hr1
 have HC1 := Aside0.mk hc1
 clear hr1 hc1
 have H : (if (l0.length : Int) = (l1.length : Int) then (spec_l4Same.l0 k l0 l1 0) else (some false)) = some r := h
 clear h
 by_cases c3 : (l0.length : Int) = (l1.length : Int)
 · rw [if_pos c3] at H
   have c3b0 : ((l0.length : Int) == (l1.length : Int)) = true := beq_iff_eq.mpr c3
   have c3b1 : ((l0.length : Int) != (l1.length : Int)) = false := bne_eq_false_iff_eq.mpr c3
   have c3b2 : (l0.length == l1.length) = true := by first | simpa using c3 | (simp at c3 ⊢; omega)
   clear c3
   have H' := Aside0.mk H
   clear H
   go_enter Try.func46, Try.ntmps46
   go_wp2
   repeat (go_quiet (fail); try go_wp2)
   go_loopg [5] k (fun kq v5 w' => ∃ (x5_1 : Int), v5 = .int .i64 x5_1 ∧ Aside0 (spec_l4Same.l0 kq l0 l1 x5_1 = some r) ∧ Aside0 (kq ≤ k) ∧ Drawn0 w w')
   case atStart => exact ⟨(0), (by first | rfl | (simp; done) | (simp [*]; done)), H', ⟨Nat.le_refl _⟩, by repeat (first | exact Drawn0.refl _ | apply Drawn0.step)⟩
   case round =>
     clear H'
     try clear c1
     try clear p2
     try clear c3
     try clear c3b0
     try clear c3b1
     try clear c3b2
     obtain ⟨x5_1, rfl, HA, HK1, ⟨m1, rfl⟩⟩ := hrel
     cases gk with
     | zero => exact absurd HA.out (by simp [spec_l4Same.l0])
     | succ k1 =>
       have H := HA.out
       clear HA
       simp only [spec_l4Same.l0] at H
       by_cases c4 : x5_1 < (l0.length : Int)
       · rw [if_pos c4] at H
         have c4b0 : decide (x5_1 < (l0.length : Int)) = true := decide_eq_true c4
         clear c4
         by_cases c5 : 0 ≤ x5_1
         · rw [if_pos c5] at H
           have c5b0 : decide (0 ≤ x5_1) = true := decide_eq_true c5
           clear c5
           by_cases c6 : x5_1 < (l1.length : Int)
           · rw [if_pos c6] at H
             have c6b0 : decide (x5_1 < (l1.length : Int)) = true := decide_eq_true c6
             clear c6
             by_cases c7 : (!((((qan l0 x5_1).f0).toList) == (((qan l1 x5_1).f0).toList)) || (!((((qan l0 x5_1).f1).toList) == (((qan l1 x5_1).f1).toList)))) = true
             · rw [if_pos c7] at H
               have c7b0 : (!((((qan l0 x5_1).f0).toList) == (((qan l1 x5_1).f0).toList)) || (!((((qan l0 x5_1).f1).toList) == (((qan l1 x5_1).f1).toList)))) = true := c7
               clear c7
               obtain rfl := Option.some.inj H
               have p101 : 0 ≤ (x5_1 : Int) := of_decide_eq_true (by first | (with_reducible assumption) | assumption)
               have q101 : x5_1 < (l0.length : Int) := of_decide_eq_true (by first | (with_reducible assumption) | assumption)
               obtain ⟨ad101, e101, hx101_0, hx101_1⟩ := qba HR0.out x5_1 p101 q101
               cases e101
               replace p101 := eq_true p101
               replace q101 := eq_true q101
               have p102 : 0 ≤ (x5_1 : Int) := of_decide_eq_true (by first | (with_reducible assumption) | assumption)
               have q102 : x5_1 < (l1.length : Int) := of_decide_eq_true (by first | (with_reducible assumption) | assumption)
               obtain ⟨ad102, e102, hx102_0, hx102_1⟩ := qba HR1.out x5_1 p102 q102
               cases e102
               replace p102 := eq_true p102
               replace q102 := eq_true q102
               go_wp2
               repeat (go_quiet (fail); try go_wp2)
               go_ret
               exact ⟨by first | rfl | (simp; done) | (simp [*]; done), by repeat (first | exact Drawn0.refl _ | apply Drawn0.step)⟩
             · rw [if_neg c7] at H
               have c7b0 : (!((((qan l0 x5_1).f0).toList) == (((qan l1 x5_1).f0).toList)) || (!((((qan l0 x5_1).f1).toList) == (((qan l1 x5_1).f1).toList)))) = false := by simpa using c7
               clear c7
               have H' := Aside0.mk H
               clear H
               have p101 : 0 ≤ (x5_1 : Int) := of_decide_eq_true (by first | (with_reducible assumption) | assumption)
               have q101 : x5_1 < (l0.length : Int) := of_decide_eq_true (by first | (with_reducible assumption) | assumption)
               obtain ⟨ad101, e101, hx101_0, hx101_1⟩ := qba HR0.out x5_1 p101 q101
               cases e101
               replace p101 := eq_true p101
               replace q101 := eq_true q101
               have p102 : 0 ≤ (x5_1 : Int) := of_decide_eq_true (by first | (with_reducible assumption) | assumption)
               have q102 : x5_1 < (l1.length : Int) := of_decide_eq_true (by first | (with_reducible assumption) | assumption)
               obtain ⟨ad102, e102, hx102_0, hx102_1⟩ := qba HR1.out x5_1 p102 q102
               cases e102
               replace p102 := eq_true p102
               replace q102 := eq_true q102
               go_wp2
               repeat (go_quiet (fail); try go_wp2)
               go_roundg k1
               case measure => have := HK1.out; omega
               case rel => exact ⟨(wrap64 (x5_1 + 1)), (by first | rfl | (simp; done) | (simp [*]; done)), H', ⟨by have := HK1.out; omega⟩, by repeat (first | exact Drawn0.refl _ | apply Drawn0.step)⟩
           · rw [if_neg c6] at H
             exact absurd H (by simp)
         · rw [if_neg c5] at H
           exact absurd H (by simp)
       · rw [if_neg c4] at H
         have c4b0 : decide (x5_1 < (l0.length : Int)) = false := decide_eq_false c4
         clear c4
         obtain rfl := Option.some.inj H
         go_wp2
         repeat (go_quiet (fail); try go_wp2)
         go_ret
         exact ⟨by first | rfl | (simp; done) | (simp [*]; done), by repeat (first | exact Drawn0.refl _ | apply Drawn0.step)⟩
 · rw [if_neg c3] at H
   have c3b0 : ((l0.length : Int) == (l1.length : Int)) = false := beq_eq_false_iff_ne.mpr c3
   have c3b1 : ((l0.length : Int) != (l1.length : Int)) = true := bne_iff_ne.mpr c3
   have c3b2 : (l0.length == l1.length) = false := by first | simpa using c3 | (simp at c3 ⊢; omega)
   obtain rfl := Option.some.inj H
   go_enter Try.func46, Try.ntmps46
   go_wp2
   repeat (go_quiet (fail); try go_wp2)
   go_ret
   exact ⟨by first | rfl | (simp; done) | (simp [*]; done), by repeat (first | exact Drawn0.refl _ | apply Drawn0.step)⟩

end

end Go.Proofs.Ytfjoamlgbegpgaa.Q
