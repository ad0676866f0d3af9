/- Part 0 of what the row of FnExactReplace needs: functions of the program as plain Lean functions, their contracts, and lemmas; made by a program of this session out of its texts. -/
import Derived.Test.YtfjoamlgbegpgaaVFnExactReplace0
import Derived.Test.YtfjoamlgbegpgaaProg
import Derived.Below
import Derived.Deep.Draws
import Derived.Deep.AppendLies
import Derived.Maps.AppendAt
import Derived.OwnWalk
import Derived.Laws.BytesArg
import Derived.Laws.MakeOwn
import Derived.Laws.OwnMore
import Derived.Deep.OwnRows
import Derived.Tactics
import Derived.Lib.ConvBytes
import Derived.Laws.Slices
import Derived.WalkKit
import Derived.KernelRfl
import Derived.RowKit3
import Derived.Deep.LoopGhost
import Derived.Deep.QuietTactic
import Derived.BigQuiet
import Derived.WideLaws
import Derived.Deep.DeepCutAuto
import Derived.Deep.CutBlock
import Derived.Deep.RegionHeld3
import Derived.Laws.Rows
import Derived.Lib.AppendStr
import Derived.ArgAppend
import Derived.Laws.IdiomCopy
import Derived.OrdersHeld
import Derived.Laws.BitsLemmas
import Derived.RowKit
import Derived.Shelf.Spec.SlicesInsert
import Derived.Lib.AppendZerosOnto
import Derived.Lib.Overlaps
import Derived.Laws.CopyRow
import Derived.Laws.NewBlocks
import Derived.Shelf.Abstract
import Derived.Lib.Bytealg
import Derived.Lib.Strings
import Derived.Shelf.Small.Strs
import Derived.Shelf.Bin.LEUint32
import Derived.Shelf.Bin.ReadersZ
import Derived.Deep.RegionLaw
import Derived.Deep.RegionWith
namespace Go.Proofs.Ytfjoamlgbegpgaa.Q
open Go.RowKit Go.Proofs.YtfjoamlgbegpgaaW.PrintWords Go.Proofs.YtfjoamlgbegpgaaW.PrintLast Go.Proofs.YtfjoamlgbegpgaaW.PrintMore
attribute [local go_sem] max2_int min2_int max_two min_two max_three min_three max_four min_four   -- for this text's walks alone
set_option linter.unusedVariables false
set_option linter.unusedSimpArgs false
section
def errW : Option Int → Value
 | none => .nilIface
 | some c => .iface 0 (.int .i64 c)
theorem qag : errW none = .nilIface := rfl
theorem qah (c : Int) : errW (some c) = .iface 0 (.int .i64 c) := rfl
theorem qex : (Try.prog.info? 73).map (fun i => (i.zero, i.size, i.bytes)) = some (some (.agg #[(.int .i64 0), (.string ⟨#[]⟩), (.string ⟨#[]⟩), (.string ⟨#[]⟩)]), 4, 56) := by kernel_rfl
theorem qch : (Try.prog.info? 80).map (fun i => (i.zero, i.size, i.bytes)) = some (some (.agg #[(.string ⟨#[]⟩), (.string ⟨#[]⟩)]), 2, 32) := by kernel_rfl
structure S106 where
 f0 : ByteArray
 f1 : ByteArray
def z106 : S106 := ⟨(⟨#[]⟩ : ByteArray), (⟨#[]⟩ : ByteArray)⟩
def k106 : Kd S106 := Kd.iso (Kd.pair Kd.string Kd.string) (fun x : S106 => (x.f0, x.f1))
theorem k106_open {w : World} {x : S106} {cs : List Value} (h : k106.K w x cs) : cs = [.string x.f0, .string x.f1] := by
 obtain ⟨_, _, rfl, rfl, rfl⟩ := h
 exact rfl
theorem k106_mk (w : World) (x : S106)  : k106.K w x [.string x.f0, .string x.f1] := ⟨[.string x.f0], [.string x.f1], rfl, rfl, rfl⟩
def qbm (xs : List S106) (i : Int) : S106 := xs.getD i.toNat z106
theorem at_T106 {w : World} {A : Option Addr} {n : Nat} {xs : List S106} (h : Kd.C k106 w A n xs) (i : Int) (h0 : 0 ≤ i) (h1 : i < n) : ∃ ad , A = some ad ∧ w.cell? (ad.add (i.toNat * 2)) = some (.string (qbm xs i).f0) ∧ w.cell? ⟨(ad.add (i.toNat * 2)).block, (ad.add (i.toNat * 2)).off + 1, none⟩ = some (.string (qbm xs i).f1) := by
 obtain ⟨ad, c, e, _, hK, hc0⟩ := Kd.C_get h z106 i h0 h1
 have hc : ∀ j u, c[j]? = some u → w.cell? (ad.add (i.toNat * 2 + j)) = some u := hc0
 obtain rfl := k106_open hK
 exact ⟨ad, e, hc 0 _ rfl, by rw [← qco _ _ 1 (by omega)]; exact hc 1 _ rfl⟩
structure S108 where
 f0 : Int
 f1 : ByteArray
 f2 : ByteArray
 f3 : ByteArray
def z108 : S108 := ⟨(0 : Int), (⟨#[]⟩ : ByteArray), (⟨#[]⟩ : ByteArray), (⟨#[]⟩ : ByteArray)⟩
def k108 : Kd S108 := Kd.iso (Kd.pair (Kd.int .i64) (Kd.pair Kd.string (Kd.pair Kd.string Kd.string))) (fun x : S108 => (x.f0, x.f1, x.f2, x.f3))
theorem k108_open {w : World} {x : S108} {cs : List Value} (h : k108.K w x cs) : cs = [.int .i64 x.f0, .string x.f1, .string x.f2, .string x.f3] := by
 obtain ⟨_, _, rfl, rfl, ⟨_, _, rfl, rfl, ⟨_, _, rfl, rfl, rfl⟩⟩⟩ := h
 exact rfl
theorem k108_mk (w : World) (x : S108)  : k108.K w x [.int .i64 x.f0, .string x.f1, .string x.f2, .string x.f3] := ⟨[.int .i64 x.f0], [.string x.f1, .string x.f2, .string x.f3], rfl, rfl, ⟨[.string x.f1], [.string x.f2, .string x.f3], rfl, rfl, ⟨[.string x.f2], [.string x.f3], rfl, rfl, rfl⟩⟩⟩
def qbc (xs : List S108) (i : Int) : S108 := xs.getD i.toNat z108
theorem at_T108 {w : World} {A : Option Addr} {n : Nat} {xs : List S108} (h : Kd.C k108 w A n xs) (i : Int) (h0 : 0 ≤ i) (h1 : i < n) : ∃ ad , A = some ad ∧ w.cell? (ad.add (i.toNat * 4)) = some (.int .i64 (qbc xs i).f0) ∧ w.cell? ⟨(ad.add (i.toNat * 4)).block, (ad.add (i.toNat * 4)).off + 1, none⟩ = some (.string (qbc xs i).f1) ∧ w.cell? ⟨(ad.add (i.toNat * 4)).block, (ad.add (i.toNat * 4)).off + 2, none⟩ = some (.string (qbc xs i).f2) ∧ w.cell? ⟨(ad.add (i.toNat * 4)).block, (ad.add (i.toNat * 4)).off + 3, none⟩ = some (.string (qbc xs i).f3) := by
 obtain ⟨ad, c, e, _, hK, hc0⟩ := Kd.C_get h z108 i h0 h1
 have hc : ∀ j u, c[j]? = some u → w.cell? (ad.add (i.toNat * 4 + j)) = some u := hc0
 obtain rfl := k108_open hK
 exact ⟨ad, e, hc 0 _ rfl, by rw [← qco _ _ 1 (by omega)]; exact hc 1 _ rfl, by rw [← qco _ _ 2 (by omega)]; exact hc 2 _ rfl, by rw [← qco _ _ 3 (by omega)]; exact hc 3 _ rfl⟩
structure S80 where
 f0 : ByteArray
 f1 : ByteArray
def z80 : S80 := ⟨(⟨#[]⟩ : ByteArray), (⟨#[]⟩ : ByteArray)⟩
def k80 : Kd S80 := Kd.iso (Kd.pair Kd.string Kd.string) (fun x : S80 => (x.f0, x.f1))
theorem k80_heap : Kd.Heap k80 := Kd.heap_iso _ (Kd.heap_pair Kd.heap_string Kd.heap_string)
theorem k80_open {w : World} {x : S80} {cs : List Value} (h : k80.K w x cs) : cs = [.string x.f0, .string x.f1] := by
 obtain ⟨_, _, rfl, rfl, rfl⟩ := h
 exact rfl
theorem qcp {w : World} {base : Nat} {ok : Nat → Prop} {x : S80} {cs : List Value} (h : k80.M w base ok x cs) : cs = [.string x.f0, .string x.f1] := by
 obtain ⟨_, _, rfl, rfl, rfl⟩ := h
 exact rfl
theorem qcs (w : World) (base : Nat) (ok : Nat → Prop) (x : S80)  : k80.M w base ok x [.string x.f0, .string x.f1] := ⟨[.string x.f0], [.string x.f1], rfl, rfl, rfl⟩
def qai (xs : List S80) (i : Int) : S80 := xs.getD i.toNat z80
theorem qax {w : World} {A : Option Addr} {n : Nat} {xs : List S80} (h : Kd.C k80 w A n xs) (i : Int) (h0 : 0 ≤ i) (h1 : i < n) : ∃ ad , A = some ad ∧ w.cell? (ad.add (i.toNat * 2)) = some (.string (qai xs i).f0) ∧ w.cell? ⟨(ad.add (i.toNat * 2)).block, (ad.add (i.toNat * 2)).off + 1, none⟩ = some (.string (qai xs i).f1) := by
 obtain ⟨ad, c, e, _, hK, hc0⟩ := Kd.C_get h z80 i h0 h1
 have hc : ∀ j u, c[j]? = some u → w.cell? (ad.add (i.toNat * 2 + j)) = some u := hc0
 obtain rfl := k80_open hK
 exact ⟨ad, e, hc 0 _ rfl, by rw [← qco _ _ 1 (by omega)]; exact hc 1 _ rfl⟩
structure S73 where
 f0 : Int
 f1 : ByteArray
 f2 : ByteArray
 f3 : ByteArray
def z73 : S73 := ⟨(0 : Int), (⟨#[]⟩ : ByteArray), (⟨#[]⟩ : ByteArray), (⟨#[]⟩ : ByteArray)⟩
def k73 : Kd S73 := Kd.iso (Kd.pair (Kd.int .i64) (Kd.pair Kd.string (Kd.pair Kd.string Kd.string))) (fun x : S73 => (x.f0, x.f1, x.f2, x.f3))
theorem k73_open {w : World} {x : S73} {cs : List Value} (h : k73.K w x cs) : cs = [.int .i64 x.f0, .string x.f1, .string x.f2, .string x.f3] := by
 obtain ⟨_, _, rfl, rfl, ⟨_, _, rfl, rfl, ⟨_, _, rfl, rfl, rfl⟩⟩⟩ := h
 exact rfl
theorem qbs {w : World} {base : Nat} {ok : Nat → Prop} {x : S73} {cs : List Value} (h : k73.M w base ok x cs) : cs = [.int .i64 x.f0, .string x.f1, .string x.f2, .string x.f3] := by
 obtain ⟨_, _, rfl, rfl, ⟨_, _, rfl, rfl, ⟨_, _, rfl, rfl, rfl⟩⟩⟩ := h
 exact rfl
theorem qct (w : World) (base : Nat) (ok : Nat → Prop) (x : S73)  : k73.M w base ok x [.int .i64 x.f0, .string x.f1, .string x.f2, .string x.f3] := ⟨[.int .i64 x.f0], [.string x.f1, .string x.f2, .string x.f3], rfl, rfl, ⟨[.string x.f1], [.string x.f2, .string x.f3], rfl, rfl, ⟨[.string x.f2], [.string x.f3], rfl, rfl, rfl⟩⟩⟩
def qae (xs : List S73) (i : Int) : S73 := xs.getD i.toNat z73
theorem qcu {w : World} {A : Option Addr} {n : Nat} {xs : List S73} (h : Kd.C k73 w A n xs) (i : Int) (h0 : 0 ≤ i) (h1 : i < n) : ∃ ad , A = some ad ∧ w.cell? (ad.add (i.toNat * 4)) = some (.int .i64 (qae xs i).f0) ∧ w.cell? ⟨(ad.add (i.toNat * 4)).block, (ad.add (i.toNat * 4)).off + 1, none⟩ = some (.string (qae xs i).f1) ∧ w.cell? ⟨(ad.add (i.toNat * 4)).block, (ad.add (i.toNat * 4)).off + 2, none⟩ = some (.string (qae xs i).f2) ∧ w.cell? ⟨(ad.add (i.toNat * 4)).block, (ad.add (i.toNat * 4)).off + 3, none⟩ = some (.string (qae xs i).f3) := by
 obtain ⟨ad, c, e, _, hK, hc0⟩ := Kd.C_get h z73 i h0 h1
 have hc : ∀ j u, c[j]? = some u → w.cell? (ad.add (i.toNat * 4 + j)) = some u := hc0
 obtain rfl := k73_open hK
 exact ⟨ad, e, hc 0 _ rfl, by rw [← qco _ _ 1 (by omega)]; exact hc 1 _ rfl, by rw [← qco _ _ 2 (by omega)]; exact hc 2 _ rfl, by rw [← qco _ _ 3 (by omega)]; exact hc 3 _ rfl⟩
theorem qdo : ∀ (x y : List UInt8), Op.bytesLess x y = decide (x < y)
 | [], [] => by simp [Op.bytesLess]
 | [], _ :: _ => by simp [Op.bytesLess]
 | _ :: _, [] => by simp [Op.bytesLess]
 | a :: x, b :: y => by
  rw [Op.bytesLess, qdo x y]
  rw [Bool.eq_iff_iff]
  simp [List.cons_lt_cons_iff]
theorem bytes_flip (x y : List UInt8) : (Op.bytesLess x y || x == y) = !(Op.bytesLess y x) := by
 rw [qdo, qdo, Bool.eq_iff_iff]
 simp only [Bool.or_eq_true, decide_eq_true_eq, beq_iff_eq, Bool.not_eq_true', decide_eq_false_iff_not, List.not_lt]
 constructor
 ·
  rintro (h | rfl)
  · exact List.le_of_lt h
  · exact List.le_refl _
 ·
  intro h
  exact List.le_iff_lt_or_eq.1 h
theorem str_leq (t : TypeId) (a b : ByteArray) : binOp .leq t (.string a) (.string b) = pure (.bool !(Op.bytesLess b.toList a.toList)) := by
 rw [← bytes_flip]
 simp [binOp, Op.stringOp]
theorem str_gtr (t : TypeId) (a b : ByteArray) : binOp .gtr t (.string a) (.string b) = pure (.bool (Op.bytesLess b.toList a.toList)) := by
 have h : Op.bytesLess b.toList a.toList = !(Op.bytesLess a.toList b.toList || a.toList == b.toList) := by rw [bytes_flip, Bool.not_not]
 rw [h]
 simp [binOp, Op.stringOp]
theorem str_geq (t : TypeId) (a b : ByteArray) : binOp .geq t (.string a) (.string b) = pure (.bool !(Op.bytesLess a.toList b.toList)) := by simp [binOp, Op.stringOp]

end

section
theorem bxE {P : Program} {ops : Array Oper} {o : Oper} {rest : List Oper} {a : Act} {W : World} {Q : Exit → Act → World → Prop} {N : Tmp} {cs : Array Value} {t : TypeId}
 (h : ∀ g, g = W.heap.size → ∀ w1, w1.heap[g]? = some (.cells cs t (0, 0)) → Below W.heap.size W w1 → wpList P ops Q rest (a.put o.dst (.pointer (some ⟨g, 0, none⟩))) w1) (hgd : o.guard = none := by rfl) (hd : o.dst = some N := by rfl)
 (hrun : (execOp a.eval o).run P W = .ok (.value (.pointer (some ⟨W.heap.size, 0, none⟩))) (W.alloc (.cells cs t (0, 0))) := by first | (go_simp; done) | (go_simp; rfl)) : wpList P ops Q (o :: rest) a W := box_event hgd hd hrun h
theorem sgE {g : Nat} {w W : World} (hg : g = W.heap.size) (h : Below w.heap.size w W) : w.heap.size ≤ g := by rw [hg]; exact h.size
theorem scE {P Q : Prop} (h : P) (f : P → Q := by intro h; repeat (first | exact h | (with_reducible refine Kd.C_alloc ?_ _) | (with_reducible refine Kd.C_drewN ?_ _) | (with_reducible refine Kd.C_drew ?_))) : Q := f h
theorem bcE {w : World} {g : Nat} {t : TypeId} {cs : Array Value} {v : Value} (h : w.heap[g]? = some (.cells cs t (0, 0))) (i : Nat) (hv : cs[i]? = some v := by rfl) : w.cell? ⟨g, i, none⟩ = some v := (qak h i).trans hv
theorem k2E {P Q : Nat → Prop} : ∀ k, P k ∧ Q k → Q k := fun _ h => h.2
theorem k1E {P Q : Nat → Prop} : ∀ k, P k ∧ Q k → P k := fun _ h => h.1
theorem sltE {g n : Nat} {W : World} (hg : g = W.heap.size) (h : n < W.heap.size) : n ≠ g := by rw [hg]; exact Nat.ne_of_lt h
theorem sgtE {g n : Nat} {W : World} (hg : g = W.heap.size) (h : n < W.heap.size) : g ≠ n := by rw [hg]; exact Nat.ne_of_gt h
theorem qsA {α : Type} {l : List α} {i : Nat} {a : α} : l.toArray.setIfInBounds i a = (l.set i a).toArray := by simp
theorem qsZ {α : Type} {a b : α} {l : List α} : (a :: l).set 0 b = b :: l := rfl
theorem qsS {α : Type} {a b : α} {n : Nat} {l : List α} : (a :: l).set (n + 1) b = a :: l.set n b := rfl
theorem am {p : Prop} (h : p) : Aside0 p := ⟨h⟩
theorem au0 {P Q : Prop} (h : P) (f : P → Q := by intro h; (with_reducible repeat (first | apply Kd.R_alloc | apply Kd.R_drewN | apply Kd.R_drew)); exact h) : Q := f h
theorem au1 {P Q : Prop} (h : P) (f : P → Q := by intro h; (with_reducible repeat (first | refine blk_drewN ?_ _ | refine qcm ?_ | refine blk_alloc ?_ _)); exact h) : Q := f h
theorem au2 {P Q : Prop} (h : P) (f : P → Q := by intro h; (with_reducible repeat (first | apply Kd.V_alloc | apply Kd.V_drewN | apply Kd.V_drew)); exact h) : Q := f h
theorem au3 {A1 Q : Prop} (g1 : A1) (f : A1 → Q := by intro g1; repeat (first | (with_reducible first | exact g1 | apply qaq | apply qaw | apply qay) | exact g1)) : Q := f g1
theorem au4 {A1 A2 A3 Q : Prop} (g1 : A1) (g2 : A2) (g3 : A3) (f : A1 → A2 → A3 → Q := by intro g1 g2 g3; repeat (first | (with_reducible first | exact g1 | apply qaq | apply qaw | apply qay | refine qar ?_ g2 | refine qar ?_ g3) | exact g1)) : Q := f g1 g2 g3
theorem au5 {Q : Prop} (f : Q := by simp only [qbz, Act.put, List.setIfInBounds_toArray, List.set_cons_zero, List.set_cons_succ]) : Q := f
theorem au6 {Q : Prop} (f : Q := by (try simp only [List.map_toArray, List.map_cons, List.map_nil]); first | done | rfl | (simp only [List.length_drop, List.length_take]; rfl)) : Q := f
theorem au7 {A1 A2 Q : Prop} (g1 : A1) (g2 : A2) (f : A1 → A2 → Q := by intro g1 g2; repeat (first | (with_reducible first | exact g1 | apply qaq | apply qaw | apply qay | refine qar ?_ g2) | exact g1)) : Q := f g1 g2
theorem au8 {Q : Prop} (f : Q := by repeat (first | exact Drawn0.refl _ | apply Drawn0.step)) : Q := f
theorem au9 {Q : Prop} (f : Q := by first | (with_reducible assumption) | assumption) : Q := f
theorem au10 {Q : Prop} (f : Q := by first | rfl | (simp; done) | (simp [*]; done)) : Q := f
theorem au11 {A1 A2 A3 A4 Q : Prop} (g1 : A1) (g2 : A2) (g3 : A3) (g4 : A4) (f : A1 → A2 → A3 → A4 → Q := by intro g1 g2 g3 g4; repeat (first | (with_reducible first | exact g1 | apply qaq | apply qaw | apply qay | refine qar ?_ g2 | refine qar ?_ g3 | refine qar ?_ g4) | exact g1)) : Q := f g1 g2 g3 g4
theorem au12 {A1 A2 A3 A4 A5 Q : Prop} (g1 : A1) (g2 : A2) (g3 : A3) (g4 : A4) (g5 : A5) (f : A1 → A2 → A3 → A4 → A5 → Q := by intro g1 g2 g3 g4 g5; repeat (first | (with_reducible first | exact g1 | apply qaq | apply qaw | apply qay | refine qar ?_ g2 | refine qar ?_ g3 | refine qar ?_ g4 | refine qar ?_ g5) | exact g1)) : Q := f g1 g2 g3 g4 g5
theorem au13 {A1 A2 Q : Prop} (g1 : A1) (g2 : A2) (f : A1 → A2 → Q := by intro g1 g2; refine au1 ?_; refine qas ?_ g1 _; refine au1 ?_; exact g2) : Q := f g1 g2
theorem au14 {A1 A2 Q : Prop} (g1 : A1) (g2 : A2) (f : A1 → A2 → Q := by intro g1 g2; refine au1 ?_; refine qas ?_ g1 _; refine au1 ?_; refine qas ?_ g1 _; refine au1 ?_; refine qas ?_ g1 _; refine au1 ?_; exact g2) : Q := f g1 g2
theorem au15 {A1 A2 A3 A4 A5 A6 Q : Prop} (g1 : A1) (g2 : A2) (g3 : A3) (g4 : A4) (g5 : A5) (g6 : A6) (f : A1 → A2 → A3 → A4 → A5 → A6 → Q := by intro g1 g2 g3 g4 g5 g6; repeat (first | (with_reducible first | exact g1 | apply qaq | apply qaw | apply qay | refine qar ?_ g2 | refine qar ?_ g3 | refine qar ?_ g4 | refine qar ?_ g5 | refine qar ?_ g6) | exact g1)) : Q := f g1 g2 g3 g4 g5 g6
theorem au16 {A1 A2 Q : Prop} (g1 : A1) (g2 : A2) (f : A1 → A2 → Q := by intro g1 g2; refine au1 ?_; refine qas ?_ g1 _; refine au1 ?_; refine qas ?_ g1 _; refine au1 ?_; refine qas ?_ g1 _; refine au1 ?_; refine qas ?_ g1 _; refine au1 ?_; exact g2) : Q := f g1 g2
theorem au17 {A1 Q : Prop} (g1 : A1) (f : A1 → Q := by intro g1; repeat (first | (with_reducible first | exact g1 | apply Kept.alloc | apply Kept.drewN | apply Kept.drew) | exact g1)) : Q := f g1
theorem au18 {A1 A2 Q : Prop} (g1 : A1) (g2 : A2) (f : A1 → A2 → Q := by intro g1 g2; repeat (first | (with_reducible first | exact g1 | apply Kept.alloc | apply Kept.drewN | apply Kept.drew | refine Kept.setCell ?_ (.inr g2) _) | exact g1)) : Q := f g1 g2
theorem au19 {Q : Prop} (f : Q := by first | (simp only [qbz, Act.put, List.setIfInBounds_toArray, List.set_cons_zero, List.set_cons_succ]; done) | (simp only [qbz, Act.put, List.setIfInBounds_toArray, List.set_cons_zero, List.set_cons_succ]; rfl)) : Q := f

end

section
theorem qbg {P : Program} (w : World) (dT sT ty elem : TypeId) (size : Nat) (g o dLen dCap : Nat) (a : Addr) (sLen sCap : Nat) (cur : Array Value) (t : TypeId) (cs : List Value)
 (hu : P.underlying dT = some (.slice elem)) (hs : (P.info? elem).map (·.size) = some size)
 (hg : w.heap[g]? = some (.cells cur t (0, 0))) (hn : cs.length = Nat.min sLen dLen * size)
 (hsrc : ∀ j v, cs[j]? = some v → w.cell? (a.add j) = some v) (hfit : o + cs.length ≤ cur.size) (h1 : ∀ v ∈ cs, v.oneCell' = true) :
 (Builtin.copy_ #[dT, sT] ty #[.slice (some ⟨g, o, none⟩) dLen dCap, .slice (some a) sLen sCap]).run P w =
  .ok (goInt (Nat.min sLen dLen)) (w.setRow g (cur.toList.take o ++ cs ++ cur.toList.drop (o + cs.length)).toArray) := by
 have hl := run_loadCells_list (P := P) w a cs hsrc
 have hst := run_storeCells_at P g o t cs 0 cur w hg (by simpa using hfit) h1
 cases hq : P.info? elem with
 | none => simp [hq] at hs
 | some i =>
  have hi : i.size = size := by simpa [hq] using hs
  simp [Builtin.copy_, run_underlying hu, Builtin.lenOf, Builtin.firstCells, sizeOf, typeInfo, hq, hi, ← hn, hl, hst]
theorem qej {α : Type} (cs vs rest : List α) (p k : Nat) (hp : p ≤ cs.length) (hv : vs.length = k) :
 (((cs.take p ++ rest).take p ++ vs ++ (cs.take p ++ rest).drop (p + vs.length)).take (p + k) ++ cs.drop p ++ ((cs.take p ++ rest).take p ++ vs ++ (cs.take p ++ rest).drop (p + vs.length)).drop (p + k + (cs.drop p).length)).take (cs.length + k) = cs.take p ++ (vs ++ cs.drop p) := by
 have l1 : (cs.take p).length = p := by rw [List.length_take]; omega
 have e1 : (cs.take p ++ rest).take p = cs.take p := by rw [List.take_append_of_le_length (by omega), List.take_of_length_le (by omega)]
 rw [e1]
 have e2 : (cs.take p ++ vs ++ (cs.take p ++ rest).drop (p + vs.length)).take (p + k) = cs.take p ++ vs := by
  rw [List.take_append_of_le_length (by rw [List.length_append]; omega), List.take_of_length_le (by rw [List.length_append]; omega)]
 rw [e2]
 have l2 : (cs.take p ++ vs ++ cs.drop p).length = cs.length + k := by
  rw [List.length_append, List.length_append, List.length_drop]; omega
 rw [List.take_append_of_le_length (by omega), List.take_of_length_le (by omega), List.append_assoc]
theorem splice_shift {α : Type} (cur cs vs : List α) (p k : Nat) (hp : p ≤ cs.length) (hv : vs.length = k) (hc : cur.take cs.length = cs) (hl : cs.length + k ≤ cur.length) :
 ((cur.take (p + k) ++ cs.drop p ++ cur.drop (p + k + (cs.drop p).length)).take p ++ vs ++ (cur.take (p + k) ++ cs.drop p ++ cur.drop (p + k + (cs.drop p).length)).drop (p + vs.length)).take (cs.length + k) = cs.take p ++ (vs ++ cs.drop p) := by
 have e0 : cur.take p = cs.take p := by rw [← hc, List.take_take, Nat.min_eq_left hp]
 have l1 : (cur.take (p + k)).length = p + k := by rw [List.length_take]; omega
 have e1 : (cur.take (p + k) ++ cs.drop p ++ cur.drop (p + k + (cs.drop p).length)).take p = cs.take p := by
  rw [List.append_assoc, List.take_append_of_le_length (by omega), List.take_take, Nat.min_eq_left (by omega), e0]
 have e2 : (cur.take (p + k) ++ cs.drop p ++ cur.drop (p + k + (cs.drop p).length)).drop (p + vs.length) = cs.drop p ++ cur.drop (p + k + (cs.drop p).length) := by
  rw [hv, List.append_assoc, List.drop_append_of_le_length (by omega), List.drop_of_length_le (by omega), List.nil_append]
 rw [e1, e2]
 have l2 : (cs.take p ++ vs ++ cs.drop p).length = cs.length + k := by
  rw [List.length_append, List.length_append, List.length_drop, List.length_take]; omega
 rw [← List.append_assoc, List.take_append_of_le_length (by omega), List.take_of_length_le (by omega), List.append_assoc]
theorem qbo (w : World) (g : Nat) (cs : Array Value) (row : Option Nat) (h : row = some g ∨ w.heap.size ≤ g) : w.grownBy (w.setRow g cs) row :=
 ⟨rfl, rfl, rfl, by simp [World.setRow], fun k hk hne => setRow_other w g k cs (by
  rcases h with h | h
  · rintro rfl; exact hne h.symm
  · omega)⟩
theorem qdp (w : World) (row : Option Nat) : w.grownBy w.drew row := ⟨rfl, rfl, rfl, Nat.le_refl _, fun _ _ _ => rfl⟩
theorem qca {w w1 w2 : World} {row : Option Nat} (h : w.grownBy w1 row) (k : w1.grownBy w2 row) : w.grownBy w2 row :=
 ⟨k.os.trans h.os, k.tape.trans h.tape, k.output.trans h.output, Nat.le_trans h.size k.size, fun i hi hne => (k.block i (Nat.lt_of_lt_of_le hi h.size) hne).trans (h.block i hi hne)⟩
theorem qdi {w w1 w2 : World} {row : Option Nat} (h : w.grownBy w1 row) {g : Nat} (hg : w.heap.size ≤ g) (cs : Array Value) (he : w2 = w1.setRow g cs) : w.grownBy w2 row := by
 subst he
 exact ⟨h.os, h.tape, h.output, by simp [World.setRow]; exact h.size, fun i hi hne => (setRow_other w1 g i cs (by omega)).trans (h.block i hi hne)⟩
theorem qdq {w : World} {base e size : Nat} {v : Value} {n : Nat} {xs : List Value} (h : w.ownsRow base e size v n xs) (hn : 0 < n) :
 ∃ g cap cur, v = .slice (some ⟨g, 0, none⟩) n cap ∧ base ≤ g ∧ w.heap[g]? = some (.cells cur e (0, 0)) ∧ n ≤ cap ∧ cap ≤ maxLen ∧ cur.size = cap * size ∧ cur.toList.take (n * size) = xs := by
 rcases h.2 with ⟨_, h0⟩ | h
 · omega
 · exact h
theorem own_mk {w : World} {base e size g n cap : Nat} {cur : Array Value} {xs : List Value} (hg : base ≤ g) (hh : w.heap[g]? = some (.cells cur e (0, 0))) (hn : n ≤ cap) (hc : cap ≤ maxLen) (hs : cur.size = cap * size) (hx : cur.toList.take (n * size) = xs) (hl : xs.length = n * size) :
 w.ownsRow base e size (.slice (some ⟨g, 0, none⟩) n cap) n xs := ⟨hl, .inr ⟨g, cap, cur, rfl, hg, hh, hn, hc, hs, hx⟩⟩
theorem setCells_row (P : Program) (w : World) (g o : Nat) (t : TypeId) (vs : List Value) (cur : Array Value) (hg : w.heap[g]? = some (.cells cur t (0, 0))) (hl : o + vs.length ≤ cur.size) (h1 : ∀ v ∈ vs, v.oneCell' = true) :
 w.setCells g o vs = w.setRow g (cur.toList.take o ++ vs ++ cur.toList.drop (o + vs.length)).toArray := by
 have e1 := run_storeCells_at P g o t vs 0 cur w hg (by simpa using hl) h1
 have e2 := run_storeCells_cells (P := P) g o vs 0 w (fun j hj => by
  rw [qak hg, Array.getElem?_eq_getElem (by omega)]
  rfl) (fun j hj => qaa hg _) h1
 rw [e1] at e2
 injection e2 with _ e3
 simpa using e3.symm
theorem qde (z : Array Value) (n : Nat) : (Builtin.zeroCells z n).size = n * z.size := by simp [Builtin.zeroCells]
theorem run_clear_row_k {P : Program} (w : World) (t e ty : TypeId) (z : Value) (ht : P.underlying t = some (.slice e)) (hv : ∀ w, (zeroValue e).run P w = .ok z w) (g o n c : Nat) (hn : 0 < n) (cur : Array Value) (tt : TypeId) (hg : w.heap[g]? = some (.cells cur tt (0, 0)))
 (hfit : o + n * z.cells.size ≤ cur.size) (h1 : ∀ v ∈ (Builtin.zeroCells z.cells n).toList, v.oneCell' = true) :
 (Builtin.clear_ #[t] ty #[.slice (some ⟨g, o, none⟩) n c]).run P w = .ok (.tuple #[]) (w.setRow g (cur.toList.take o ++ (Builtin.zeroCells z.cells n).toList ++ cur.toList.drop (o + n * z.cells.size)).toArray) := by
 have hst := run_storeCells_at P g o tt (Builtin.zeroCells z.cells n).toList 0 cur w hg (by rw [Array.length_toList, qde]; simpa using hfit) h1
 rw [Array.length_toList, qde] at hst
 obtain ⟨m, rfl⟩ : ∃ m, n = m + 1 := ⟨n - 1, by omega⟩
 simp [Builtin.clear_, run_underlying ht, hv, hst]
theorem del_shift {α : Type} (cur cs zs : List α) (p q n : Nat) (hpq : p ≤ q) (hq : q ≤ cs.length) (hc : cur.take cs.length = cs) (hl : cs.length ≤ cur.length) (hn : n = cs.length - (q - p)) :
 ((cur.take p ++ cs.drop q ++ cur.drop (p + (cs.drop q).length)).take n ++ zs ++ (cur.take p ++ cs.drop q ++ cur.drop (p + (cs.drop q).length)).drop (n + zs.length)).take n = cs.take p ++ cs.drop q := by
 have e0 : cur.take p = cs.take p := by rw [← hc, List.take_take, Nat.min_eq_left (by omega)]
 have l1 : (cs.take p ++ cs.drop q).length = n := by rw [List.length_append, List.length_take, List.length_drop]; omega
 rw [e0, List.take_append_of_le_length (l₁ := cs.take p ++ cs.drop q) (by omega), List.take_of_length_le (l := cs.take p ++ cs.drop q) (by omega), List.append_assoc, List.take_append_of_le_length (by omega), List.take_of_length_le (by omega)]

end

section
set_option maxHeartbeats 4000000 in
set_option maxRecDepth 100000 in
theorem lib_insEnd_DOp (base : Nat) (v : Value) (n : Nat) (cs vs : List Value) (vb : Nat) (w : World) (ho : w.ownsRow base 73 4 v n cs) (cv : Array Value) (vc : Nat) (hvb : w.heap[vb]? = some (.cells cv 73 (0, 0))) (hvs : ∀ (j : Nat) (u : Value), vs[j]? = some u → cv[j]? = some u) (hvl : vs.length = 4) (h1v : ∀ u ∈ vs, u.oneCell' = true)
 (hbase : base ≤ w.heap.size) (hl : (n + 1) * 56 ≤ 140737488355328) :
 Calls Try.prog 103 #[v, .int .i64 n, .slice (some ⟨vb, 0, none⟩) 1 vc] w fun e w' => ∃ v', e = .returned v' ∧ w'.ownsRow base 73 4 v' (n + 1) (cs ++ vs) ∧ w.grownBy w' v.ownBlock ∧ (v'.ownBlock = v.ownBlock ∨ ∃ b, v'.ownBlock = some b ∧ w.heap.size ≤ b) := by
 obtain ⟨i0, hi0, hz0, hzs, hzb⟩ := info_parts qex
 have hnews : ∀ j u, vs[j]? = some u → w.cell? ((⟨vb, 0, none⟩ : Addr).add j) = some u := fun j u hj => by
  rw [qcb, qak hvb]
  exact hvs j u hj
 have hu := Try.underlying29
 obtain ⟨A, c, rfl⟩ := own_slice ho
 have HO := Aside0.mk ho
 have HN := Aside0.mk hnews
 have H1 := Aside0.mk h1v
 have HV := Aside0.mk hvl
 have hn : n ≤ 9223372036854775806 := by omega
 have hnc : n ≤ c := by
  rcases ho.2 with ⟨hv, h0⟩ | ⟨g, cap, cur, hv, _, _, hle, _⟩
  · omega
  ·
   injection hv with _ _ hc
   omega
 have hcm : c ≤ 9223372036854775807 := by
  rcases ho.2 with ⟨hv, h0⟩ | ⟨g, cap, cur, hv, _, _, _, hle, _⟩
  ·
   injection hv with _ _ hc
   omega
  ·
   injection hv with _ _ hc
   unfold maxLen at hle
   omega
 have hl63 : n + 1 ≤ maxLen := by unfold maxLen; omega
 clear ho hnews h1v hvl hvb hvs
 go_enter Try.func103, Try.ntmps103
 cases A with
 | none =>
  go_wp2_with (at_builtin; refine wpList_append_own_at _ rfl _ _ 29 rfl base 73 i0 (.agg #[(.int .i64 0), (.string ⟨#[]⟩), (.string ⟨#[]⟩), (.string ⟨#[]⟩)]) 4 56 hu hi0 hz0 hzs hzb rfl (by decide) _ n cs rfl HO.out ⟨vb, 0, none⟩ 1 vc vs rfl HV.out HN.out H1.out hl63 hl hbase ?_; intro v1 w1 ho1 hg1 _ hat)
  go_ret
  exact ⟨_, rfl, ho1, hg1, hat.imp id (fun h => ⟨_, h, Nat.le_refl _⟩)⟩
 | some a =>
  obtain ⟨ab, ao, asp⟩ := a
  go_wp2_with (at_builtin; refine wpList_append_own_at _ rfl _ _ 29 rfl base 73 i0 (.agg #[(.int .i64 0), (.string ⟨#[]⟩), (.string ⟨#[]⟩), (.string ⟨#[]⟩)]) 4 56 hu hi0 hz0 hzs hzb rfl (by decide) _ n cs rfl HO.out ⟨vb, 0, none⟩ 1 vc vs rfl HV.out HN.out H1.out hl63 hl hbase ?_; intro v1 w1 ho1 hg1 _ hat)
  all_goals
   go_ret
   exact ⟨_, rfl, ho1, hg1, hat.imp id (fun h => ⟨_, h, Nat.le_refl _⟩)⟩
set_option maxHeartbeats 4000000 in
set_option maxRecDepth 100000 in
theorem lib_insRoom_DOp (base g c i n : Nat) (cur : Array Value) (cs vs : List Value) (vb : Nat) (w : World) (hg : w.heap[g]? = some (.cells cur 73 (0, 0))) (hbg : base ≤ g) (hcap : cur.size = c * 4) (hc63 : c ≤ maxLen) (hin : i < n) (hroom : n + 1 ≤ c)
 (hcl : cs.length = n * 4) (hcs : cur.toList.take (n * 4) = cs) (h1c : ∀ u ∈ cs, u.oneCell' = true)
 (cv : Array Value) (vc : Nat) (hvb : w.heap[vb]? = some (.cells cv 73 (0, 0))) (hvs : ∀ (j : Nat) (u : Value), vs[j]? = some u → cv[j]? = some u) (hvl : vs.length = 4) (h1v : ∀ u ∈ vs, u.oneCell' = true) (hne : vb ≠ g) :
 Calls Try.prog 103 #[.slice (some ⟨g, 0, none⟩) n c, .int .i64 i, .slice (some ⟨vb, 0, none⟩) 1 vc] w fun e w' => e = .returned (.slice (some ⟨g, 0, none⟩) (n + 1) c) ∧ w'.ownsRow base 73 4 (.slice (some ⟨g, 0, none⟩) (n + 1) c) (n + 1) (cs.take (i * 4) ++ (vs ++ cs.drop (i * 4))) ∧ w.grownBy w' (some g) := by
 have hu := Try.underlying29
 have hsz : (Try.prog.info? 73).map (·.size) = some 4 := by
  obtain ⟨i0, hi0, _, h1, _⟩ := info_parts qex
  rw [hi0]; simp [h1]
 have hlen : cur.toList.length = c * 4 := by rw [Array.length_toList]; exact hcap
 have hcell : ∀ j u, cs[j]? = some u → cur[j]? = some u := fun j u hj => by
  rw [← hcs, List.getElem?_take] at hj
  split at hj
  · simpa using hj
  · cases hj
 have hsa : w.shape? vb = some (73, cv.size) := by simp [World.shape?, hvb]
 have hsb : w.shape? g = some (73, c * 4) := by simp [World.shape?, hg, hcap]
 have hov : ∀ lb cb, (callFunc 122 #[.slice (some ⟨vb, 0, none⟩) 1 vc, .slice (some ⟨g, (i + 1) * 4, none⟩) lb cb]).run Try.prog w = .ok (.value (.bool false)) w := fun lb cb => by
  rw [run_callFunc_extern Try.func122 (by kernel_rfl) (by kernel_rfl) (by kernel_rfl) (e := Extern.SlicesOverlaps.overlaps #[29, 29] #[4]) (by kernel_rfl),
   Lib.run_overlaps_apart w 29 4 73 hu 4 Try.sizeOf73 ⟨vb, 0, none⟩ ⟨g, (i + 1) * 4, none⟩ 1 vc lb cb hne 73 73 cv.size (c * 4) hsa hsb (by omega) (qaa hvb 0) (qaa hvb cv.size)]
  rfl
 have hdl : (cs.drop (i * 4)).length = (n - i) * 4 := by rw [List.length_drop]; omega
 obtain ⟨R1, hR1⟩ : ∃ R1, R1 = (cur.toList.take ((i + 1) * 4) ++ cs.drop (i * 4) ++ cur.toList.drop ((i + 1) * 4 + (cs.drop (i * 4)).length)).toArray := ⟨_, rfl⟩
 have hR1l : R1.size = c * 4 := by
  rw [hR1]
  simp only [List.size_toArray, List.length_append, List.length_take, List.length_drop, hlen, hcl]
  omega
 have hcp1 : ∀ (W : World), W.heap = w.heap → ∀ ty dc sc, (Builtin.copy_ #[29, 29] ty #[.slice (some ⟨g, (i + 1) * 4, none⟩) (n - i) dc, .slice (some ⟨g, i * 4, none⟩) (n + 1 - i) sc]).run Try.prog W = .ok (goInt ((n - i : Nat) : Int)) (W.setRow g R1) := fun W hW ty dc sc => by
  have hgW : W.heap[g]? = some (.cells cur 73 (0, 0)) := by rw [hW]; exact hg
  have := qbg (P := Try.prog) W 29 29 ty 73 4 g ((i + 1) * 4) (n - i) dc ⟨g, i * 4, none⟩ (n + 1 - i) sc cur 73 (cs.drop (i * 4)) hu hsz hgW (by rw [hdl]; simp only [Nat.min_def]; split <;> omega)
   (fun j u hj => by
    rw [Addr.add_lit, qak hgW]
    rw [List.getElem?_drop] at hj
    exact hcell _ _ hj) (by rw [hdl, hcap]; omega) (fun u hu => h1c u (List.mem_of_mem_drop hu))
  rw [this, hR1, show Nat.min (n + 1 - i) (n - i) = n - i by simp only [Nat.min_def]; split <;> omega]
 obtain ⟨R2, hR2⟩ : ∃ R2, R2 = (R1.toList.take (i * 4) ++ vs ++ R1.toList.drop (i * 4 + vs.length)).toArray := ⟨_, rfl⟩
 have hcp2 : ∀ (W : World), W.heap = (w.setRow g R1).heap → ∀ ty dc, (Builtin.copy_ #[29, 29] ty #[.slice (some ⟨g, i * 4, none⟩) (n + 1 - i) dc, .slice (some ⟨vb, 0, none⟩) 1 vc]).run Try.prog W = .ok (goInt ((1 : Nat) : Int)) (W.setRow g R2) := fun W hW ty dc => by
  have hgW : W.heap[g]? = some (.cells R1 73 (0, 0)) := by rw [hW]; exact setRow_heap w g cur R1 _ _ hg
  have hvW : W.heap[vb]? = some (.cells cv 73 (0, 0)) := by rw [hW, setRow_other w g vb R1 hne]; exact hvb
  have := qbg (P := Try.prog) W 29 29 ty 73 4 g (i * 4) (n + 1 - i) dc ⟨vb, 0, none⟩ 1 vc R1 73 vs hu hsz hgW (by rw [hvl]; simp only [Nat.min_def]; split <;> omega)
   (fun j u hj => by
    rw [qcb, qak hvW]
    exact hvs j u hj) (by rw [hvl, hR1l]; omega) h1v
  rw [this, hR2, show Nat.min 1 (n + 1 - i) = 1 by simp only [Nat.min_def]; split <;> omega]
 have hR2l : R2.size = c * 4 := by
  rw [hR2]
  simp only [List.size_toArray, List.length_append, List.length_take, List.length_drop, Array.length_toList, hR1l, hvl]
  omega
 have hfin : R2.toList.take ((n + 1) * 4) = cs.take (i * 4) ++ (vs ++ cs.drop (i * 4)) := by
  have := splice_shift cur.toList cs vs (i * 4) 4 (by rw [hcl]; omega) hvl (by rw [hcl]; exact hcs) (by rw [hcl, hlen]; omega)
  rw [hcl, show n * 4 + 4 = (n + 1) * 4 by omega] at this
  rw [hR2, hR1]
  simpa only [show i * 4 + 4 = (i + 1) * 4 by omega] using this
 have FIN : Aside0 ((((w.drew).setRow g R1).setRow g R2).ownsRow base 73 4 (.slice (some ⟨g, 0, none⟩) (n + 1) c) (n + 1) (cs.take (i * 4) ++ (vs ++ cs.drop (i * 4)))) :=
  ⟨own_mk hbg (setRow_heap _ g R1 R2 _ _ (setRow_heap _ g cur R1 _ _ hg)) hroom hc63 (by omega) (by simpa using hfin) (by rw [← hfin, List.length_take, Array.length_toList, hR2l]; omega)⟩
 have GR : Aside0 (w.grownBy (((w.drew).setRow g R1).setRow g R2) (some g)) := ⟨qca (qca (qdp w _) (qbo _ g R1 _ (.inl rfl))) (qbo _ g R2 _ (.inl rfl))⟩
 have hz2 : ¬ ((i : Int) = (n : Int)) := by omega
 have hw1 : IntKind.i64.wrap ((i : Int) + 1) = (i : Int) + 1 := by unfold maxLen at hc63; rw [IntKind.wrap_i64]; omega
 have hb1 : (0 : Int) ≤ (i : Int) + 1 := by omega
 have hin' : i ≤ n := by omega
 have htn : ((i : Int) + 1).toNat = i + 1 := by omega
 have hb2 : ¬ (c = i + 1) := by omega
 have hb3 : (i : Int) ≤ (n : Int) + 1 := by omega
 have hb4 : ¬ (c = i) := by omega
 have hcm : c ≤ 9223372036854775807 := by unfold maxLen at hc63; omega
 have HC1 := Aside0.mk hcp1
 have HC2 := Aside0.mk hcp2
 clear hcp1 hcp2 hfin hR1 hR2 hR1l hR2l hsa hsb hcell hlen hcs h1c h1v hvb hvs hg hcap hdl hcl hvl hc63
 go_enter Try.func103, Try.ntmps103
 go_wp2_with (simp only [hov])
 go_region_law (refine step_copy_runI rfl _ _ 29 29 rfl _ _ (by simp [Act.eval, Act.put]) (by simp [Act.eval, Act.put]) (HC1.out w.drew rfl _ (c - (i + 1)) (c - i)) ?_)
 go_wp2_with fail
 rw [HC2.out (w.drew.setRow g R1) rfl]
 go_wp2
 go_ret
 exact ⟨rfl, FIN.out, GR.out⟩
set_option maxHeartbeats 4000000 in
set_option maxRecDepth 100000 in
theorem lib_insGrow_DOp (base g c i n : Nat) (cur : Array Value) (cs vs : List Value) (vb : Nat) (w : World) (hg : w.heap[g]? = some (.cells cur 73 (0, 0))) (hbase : base ≤ w.heap.size) (hcap : cur.size = c * 4) (hin : i < n) (hnc : n ≤ c) (hroom : c < n + 1) (hbig : (n + 1) * 56 ≤ 140737488355328)
 (hcl : cs.length = n * 4) (hcs : cur.toList.take (n * 4) = cs) (h1c : ∀ u ∈ cs, u.oneCell' = true)
 (cv : Array Value) (vc : Nat) (hvb : w.heap[vb]? = some (.cells cv 73 (0, 0))) (hvs : ∀ (j : Nat) (u : Value), vs[j]? = some u → cv[j]? = some u) (hvl : vs.length = 4) (h1v : ∀ u ∈ vs, u.oneCell' = true) :
 Calls Try.prog 103 #[.slice (some ⟨g, 0, none⟩) n c, .int .i64 i, .slice (some ⟨vb, 0, none⟩) 1 vc] w fun e w' => ∃ v', e = .returned v' ∧ w'.ownsRow base 73 4 v' (n + 1) (cs.take (i * 4) ++ (vs ++ cs.drop (i * 4))) ∧ w.grownBy w' none ∧ v'.ownBlock = some w.heap.size := by
 have hu := Try.underlying29
 have hui := Try.underlying3
 obtain ⟨i0, hi0, hz0, hzs, hzb⟩ := info_parts qex
 have hsz : (Try.prog.info? 73).map (·.size) = some 4 := by rw [hi0]; simp [hzs]
 have hlen : cur.toList.length = c * 4 := by rw [Array.length_toList]; exact hcap
 have hcell : ∀ j u, cs[j]? = some u → cur[j]? = some u := fun j u hj => by
  rw [← hcs, List.getElem?_take] at hj
  split at hj
  · simpa using hj
  · cases hj
 have hgw : g < w.heap.size := qan hg
 have hvw : vb < w.heap.size := qan hvb
 have hkk : (n : Int) + 1 - (i : Int) = ((n + 1 - i : Nat) : Int) := by omega
 have hik : i + (n + 1 - i) = n + 1 := by omega
 have hold : (Builtin.firstCells i0.size i (.slice (some ⟨g, 0, none⟩) i c)).run Try.prog w.drew = .ok (cs.take (i * 4)).toArray w.drew := by
  rw [hzs]
  exact run_firstCells_some w.drew 4 i ⟨g, 0, none⟩ i c (cs.take (i * 4)) (by rw [List.length_take]; omega) (fun j v hj => by
   rw [qcb]
   rw [List.getElem?_take] at hj
   split at hj
   · exact (qak hg j).trans (hcell j v hj)
   · cases hj)
 obtain ⟨G, hG⟩ : ∃ G, G = grownCap w (n + 1) c 73 := ⟨_, rfl⟩
 obtain ⟨ROW, hROW⟩ : ∃ ROW : Array Value, ROW = (cs.take (i * 4)).toArray ++ Builtin.zeroCells (Value.cells (.agg #[(.int .i64 0), (.string ⟨#[]⟩), (.string ⟨#[]⟩), (.string ⟨#[]⟩)])) (n + 1 - i) ++ Builtin.zeroCells (Value.cells (.agg #[(.int .i64 0), (.string ⟨#[]⟩), (.string ⟨#[]⟩), (.string ⟨#[]⟩)])) (G - (n + 1)) := ⟨_, rfl⟩
 have hrz : ∀ ty, (Builtin.append_ #[29, 3] ty #[.slice (some ⟨g, 0, none⟩) i c, .int .i64 ((n : Int) + 1 - (i : Int))]).run Try.prog w =
  .ok (.slice (some ⟨w.heap.size, 0, none⟩) (n + 1) G) (w.drew.alloc (.cells ROW 73)) := fun ty => by
  have h := Lib.run_append_grow_zeros w 29 3 ty 73 i0 _ .i64 .i64 hu hui hi0 hz0 (some ⟨g, 0, none⟩) i c (cs.take (i * 4)) hold (n + 1 - i) (by omega) (by omega) (by omega) (by omega) (by rw [hzb]; omega) (by rw [hzb, hik]; exact growslice_fits hroom hbig)
  rw [hik] at h
  rw [hkk, hROW, hG]
  exact h
 have hGn : n + 1 ≤ G := by rw [hG]; exact grownCap_ge w _ _ _
 have hGm : G ≤ maxLen := by rw [hG]; exact grownCap_le_maxLen w (n + 1) c 73 (by unfold maxLen; omega)
 have hG63 : G ≤ 9223372036854775807 := by unfold maxLen at hGm; omega
 have hRl : ROW.size = G * 4 := by
  rw [hROW]
  simp [Builtin.zeroCells, Value.cells]
  omega
 have hN : (w.alloc (.cells ROW 73)).heap[w.heap.size]? = some (.cells ROW 73 (0, 0)) := qcj w _
 have hgN : (w.alloc (.cells ROW 73)).heap[g]? = some (.cells cur 73 (0, 0)) := (heap_alloc_old w _ hgw).trans hg
 have hvN : (w.alloc (.cells ROW 73)).heap[vb]? = some (.cells cv 73 (0, 0)) := (heap_alloc_old w _ hvw).trans hvb
 have hdl : (cs.drop (i * 4)).length = (n - i) * 4 := by rw [List.length_drop]; omega
 obtain ⟨R1, hR1⟩ : ∃ R1, R1 = (ROW.toList.take (i * 4) ++ vs ++ ROW.toList.drop (i * 4 + vs.length)).toArray := ⟨_, rfl⟩
 have hcp1 : ∀ (W : World), W.heap = (w.alloc (.cells ROW 73)).heap → ∀ ty dc, (Builtin.copy_ #[29, 29] ty #[.slice (some ⟨w.heap.size, i * 4, none⟩) (n + 1 - i) dc, .slice (some ⟨vb, 0, none⟩) 1 vc]).run Try.prog W = .ok (goInt ((1 : Nat) : Int)) (W.setRow w.heap.size R1) := fun W hW ty dc => by
  have hgW : W.heap[w.heap.size]? = some (.cells ROW 73 (0, 0)) := by rw [hW]; exact hN
  have hvW : W.heap[vb]? = some (.cells cv 73 (0, 0)) := by rw [hW]; exact hvN
  have := qbg (P := Try.prog) W 29 29 ty 73 4 w.heap.size (i * 4) (n + 1 - i) dc ⟨vb, 0, none⟩ 1 vc ROW 73 vs hu hsz hgW (by rw [hvl]; simp only [Nat.min_def]; split <;> omega)
   (fun j u hj => by
    rw [qcb, qak hvW]
    exact hvs j u hj) (by rw [hvl, hRl]; omega) h1v
  rw [this, hR1, show Nat.min 1 (n + 1 - i) = 1 by simp only [Nat.min_def]; split <;> omega]
 have hR1l : R1.size = G * 4 := by
  rw [hR1]
  simp only [List.size_toArray, List.length_append, List.length_take, List.length_drop, Array.length_toList, hRl, hvl]
  omega
 obtain ⟨R2, hR2⟩ : ∃ R2, R2 = (R1.toList.take ((i + 1) * 4) ++ cs.drop (i * 4) ++ R1.toList.drop ((i + 1) * 4 + (cs.drop (i * 4)).length)).toArray := ⟨_, rfl⟩
 have hcp2 : ∀ (W : World), W.heap = ((w.alloc (.cells ROW 73)).setRow w.heap.size R1).heap → ∀ ty dc sc, (Builtin.copy_ #[29, 29] ty #[.slice (some ⟨w.heap.size, (i + 1) * 4, none⟩) (n - i) dc, .slice (some ⟨g, i * 4, none⟩) (n - i) sc]).run Try.prog W = .ok (goInt ((n - i : Nat) : Int)) (W.setRow w.heap.size R2) := fun W hW ty dc sc => by
  have hgW : W.heap[w.heap.size]? = some (.cells R1 73 (0, 0)) := by rw [hW]; exact setRow_heap _ _ ROW R1 _ _ hN
  have hsW : W.heap[g]? = some (.cells cur 73 (0, 0)) := by rw [hW, setRow_other _ w.heap.size g R1 (by omega)]; exact hgN
  have := qbg (P := Try.prog) W 29 29 ty 73 4 w.heap.size ((i + 1) * 4) (n - i) dc ⟨g, i * 4, none⟩ (n - i) sc R1 73 (cs.drop (i * 4)) hu hsz hgW (by rw [hdl]; simp only [Nat.min_def]; split <;> omega)
   (fun j u hj => by
    rw [Addr.add_lit, qak hsW]
    rw [List.getElem?_drop] at hj
    exact hcell _ _ hj) (by rw [hdl, hR1l]; omega) (fun u hu => h1c u (List.mem_of_mem_drop hu))
  rw [this, hR2, show Nat.min (n - i) (n - i) = n - i by simp only [Nat.min_def]; split <;> omega]
 have hR2l : R2.size = G * 4 := by
  rw [hR2]
  simp only [List.size_toArray, List.length_append, List.length_take, List.length_drop, Array.length_toList, hR1l, hcl]
  omega
 have hRt : ROW.toList = cs.take (i * 4) ++ (Builtin.zeroCells (Value.cells (.agg #[(.int .i64 0), (.string ⟨#[]⟩), (.string ⟨#[]⟩), (.string ⟨#[]⟩)])) (n + 1 - i) ++ Builtin.zeroCells (Value.cells (.agg #[(.int .i64 0), (.string ⟨#[]⟩), (.string ⟨#[]⟩), (.string ⟨#[]⟩)])) (G - (n + 1))).toList := by rw [hROW]; simp
 have hfin : R2.toList.take ((n + 1) * 4) = cs.take (i * 4) ++ (vs ++ cs.drop (i * 4)) := by
  have := qej cs vs (Builtin.zeroCells (Value.cells (.agg #[(.int .i64 0), (.string ⟨#[]⟩), (.string ⟨#[]⟩), (.string ⟨#[]⟩)])) (n + 1 - i) ++ Builtin.zeroCells (Value.cells (.agg #[(.int .i64 0), (.string ⟨#[]⟩), (.string ⟨#[]⟩), (.string ⟨#[]⟩)])) (G - (n + 1))).toList (i * 4) 4 (by rw [hcl]; omega) hvl
  rw [← hRt, hcl, show n * 4 + 4 = (n + 1) * 4 by omega] at this
  rw [hR2, hR1]
  simpa only [show i * 4 + 4 = (i + 1) * 4 by omega] using this
 have FIN : Aside0 ((((w.alloc (.cells ROW 73)).setRow w.heap.size R1).setRow w.heap.size R2).ownsRow base 73 4 (.slice (some ⟨w.heap.size, 0, none⟩) (n + 1) G) (n + 1) (cs.take (i * 4) ++ (vs ++ cs.drop (i * 4)))) :=
  ⟨own_mk hbase (setRow_heap _ _ R1 R2 _ _ (setRow_heap _ _ ROW R1 _ _ hN)) hGn hGm (by omega) (by simpa using hfin) (by rw [← hfin, List.length_take, Array.length_toList, hR2l]; omega)⟩
 have GR : Aside0 (w.grownBy (((w.alloc (.cells ROW 73)).setRow w.heap.size R1).setRow w.heap.size R2) none) := ⟨qdi (qdi (World.grownBy_alloc w _ _) (Nat.le_refl _) R1 rfl) (Nat.le_refl _) R2 rfl⟩
 have hz2 : ¬ ((i : Int) = (n : Int)) := by omega
 have hz3 : (c : Int) < (n : Int) + 1 := by omega
 have hw1 : IntKind.i64.wrap ((i : Int) + 1) = (i : Int) + 1 := by rw [IntKind.wrap_i64]; omega
 have hb1 : (0 : Int) ≤ (i : Int) + 1 := by omega
 have hin' : i ≤ n := by omega
 have htn : ((i : Int) + 1).toNat = i + 1 := by omega
 have hGi : ¬ (G = i) := by omega
 have hGim : ¬ (G = i + 1) := by omega
 have hci : ¬ (c = i) := by omega
 have hb3 : (i : Int) ≤ (n : Int) := by omega
 have hn63 : n ≤ 4611686018427387904 := by omega
 have HC1 := Aside0.mk hcp1
 have HC2 := Aside0.mk hcp2
 clear hcp1 hcp2 hfin hR1 hR2 hR1l hR2l hcell hlen hcs h1c h1v hvb hvs hg hcap hdl hcl hvl hRt hN hgN hvN hRl hROW hG hold hkk hik hGm hgw hvw
 go_enter Try.func103, Try.ntmps103
 go_wp2_with (at_builtin; refine Lib.wpList_append_run _ rfl _ _ _ _ rfl _ _ rfl rfl _ _ (hrz _) ?_)
 rw [HC1.out ((w.alloc (.cells ROW 73)).drew) rfl]
 go_wp2
 go_region_law (refine step_copy_runI rfl _ _ 29 29 rfl _ _ (by simp [Act.eval, Act.put]) (by simp [Act.eval, Act.put]) (HC2.out (((w.alloc (.cells ROW 73)).drew.setRow w.heap.size R1).drew) rfl _ (G - (i + 1)) (c - i)) ?_)
 go_wp2
 go_ret
 exact ⟨_, rfl, FIN.out, ⟨GR.out.os, GR.out.tape, GR.out.output, GR.out.size, GR.out.block⟩, rfl⟩
theorem lib_insC_DOp (base : Nat) (v : Value) (n i : Nat) (cs vs : List Value) (vb : Nat) (w : World) (ho : w.ownsRow base 73 4 v n cs) (h1c : ∀ u ∈ cs, u.oneCell' = true) (hi : i ≤ n)
 (cv : Array Value) (vc : Nat) (hvb : w.heap[vb]? = some (.cells cv 73 (0, 0))) (hvs : ∀ (j : Nat) (u : Value), vs[j]? = some u → cv[j]? = some u) (hvl : vs.length = 4) (h1v : ∀ u ∈ vs, u.oneCell' = true) (hne : v.ownBlock ≠ some vb) (hbase : base ≤ w.heap.size) (hl : (n + 1) * 56 ≤ 140737488355328) :
 Calls Try.prog 103 #[v, .int .i64 i, .slice (some ⟨vb, 0, none⟩) 1 vc] w fun e w' => ∃ v', e = .returned v' ∧ w'.ownsRow base 73 4 v' (n + 1) (cs.take (i * 4) ++ (vs ++ cs.drop (i * 4))) ∧ w.grownBy w' v.ownBlock ∧ (v'.ownBlock = v.ownBlock ∨ ∃ b, v'.ownBlock = some b ∧ w.heap.size ≤ b) := by
 by_cases he : i = n
 ·
  subst he
  have hcl : cs.length = i * 4 := by have := ho.1; omega
  rw [List.take_of_length_le (by omega), List.drop_of_length_le (by omega), List.append_nil]
  exact lib_insEnd_DOp base v i cs vs vb w ho cv vc hvb hvs hvl h1v hbase hl
 ·
  obtain ⟨g, cap, cur, rfl, hbg, hg, hnc, hcm, hcap, hcs⟩ := qdq ho (by omega)
  have hcl : cs.length = n * 4 := by have := ho.1; omega
  have hne' : vb ≠ g := fun h => hne (by rw [h]; rfl)
  by_cases hroom : n + 1 ≤ cap
  ·
   refine (lib_insRoom_DOp base g cap i n cur cs vs vb w hg hbg (by omega) hcm (by omega) hroom hcl (by simpa using hcs) h1c cv vc hvb hvs hvl h1v hne').mono ?_
   rintro e w' ⟨rfl, h1, h2⟩
   exact ⟨_, rfl, h1, h2, .inl rfl⟩
  ·
   refine (lib_insGrow_DOp base g cap i n cur cs vs vb w hg hbase (by omega) (by omega) hnc (by omega) hl hcl (by simpa using hcs) h1c cv vc hvb hvs hvl h1v).mono ?_
   rintro e w' ⟨v', rfl, h1, h2, h3⟩
   exact ⟨_, rfl, h1, ⟨h2.os, h2.tape, h2.output, h2.size, fun k hk _ => h2.block k hk (by simp)⟩, .inr ⟨_, h3, Nat.le_refl _⟩⟩

end

section
theorem reps_enc {α : Type} {R : α → List Value → Prop} {enc : α → List Value} {size : Nat} (hR : ∀ x cs, R x cs → cs = enc x) : ∀ (xs : List α) (cs : List Value), Reps R size xs cs → cs = xs.flatMap enc
 | [], cs, h => by
  have := h.1
  simp at this
  simpa using this
 | x :: xs, cs, h => by
  have h0 := hR _ _ (h.2 0 x rfl)
  rw [Nat.zero_mul, List.drop_zero] at h0
  have hl : cs.length = (xs.length + 1) * size := by simpa using h.1
  have ht : Reps R size xs (cs.drop size) := by
   refine ⟨by rw [List.length_drop, hl, Nat.succ_mul]; omega, fun j p hj => ?_⟩
   have := h.2 (j + 1) p (by simpa using hj)
   rwa [List.drop_drop, Nat.add_comm size, ← Nat.succ_mul]
  rw [List.flatMap_cons, ← h0, ← reps_enc hR xs _ ht, List.take_append_drop]
theorem enc_reps {α : Type} {R : α → List Value → Prop} {enc : α → List Value} {size : Nat} (hR : ∀ x, R x (enc x)) (hl : ∀ x, (enc x).length = size) : ∀ (xs : List α), Reps R size xs (xs.flatMap enc)
 | [] => ⟨by simp, fun j p h => by simp at h⟩
 | x :: xs => by
  have ih := enc_reps hR hl xs
  refine ⟨by rw [List.flatMap_cons, List.length_append, hl, ih.1, List.length_cons, Nat.succ_mul]; omega, fun j p hj => ?_⟩
  cases j with
  | zero =>
   obtain rfl : x = p := by simpa using hj
   rw [Nat.zero_mul, List.drop_zero, List.flatMap_cons, List.take_append_of_le_length (by rw [hl]; exact Nat.le_refl _), List.take_of_length_le (by rw [hl]; exact Nat.le_refl _)]
   exact hR x
  | succ j =>
   have := ih.2 j p (by simpa using hj)
   rw [List.flatMap_cons, Nat.succ_mul, Nat.add_comm, ← List.drop_drop, List.drop_append_of_le_length (by rw [hl]; exact Nat.le_refl _), List.drop_of_length_le (l := enc x) (by rw [hl]; exact Nat.le_refl _), List.nil_append]
   exact this
theorem qdr {α : Type} {enc : α → List Value} {size : Nat} (hl : ∀ x, (enc x).length = size) : ∀ (xs : List α) (i : Nat), (xs.flatMap enc).take (i * size) = (xs.take i).flatMap enc
 | [], i => by simp
 | x :: xs, 0 => by simp
 | x :: xs, i + 1 => by
  rw [List.flatMap_cons, Nat.succ_mul, Nat.add_comm, List.take_append, hl, Nat.add_sub_cancel_left, qdr hl xs i, List.take_succ_cons, List.flatMap_cons, List.take_of_length_le (by rw [hl]; omega)]
theorem qds {α : Type} {enc : α → List Value} {size : Nat} (hl : ∀ x, (enc x).length = size) : ∀ (xs : List α) (i : Nat), (xs.flatMap enc).drop (i * size) = (xs.drop i).flatMap enc
 | [], i => by simp
 | x :: xs, 0 => by simp
 | x :: xs, i + 1 => by
  rw [List.flatMap_cons, Nat.succ_mul, Nat.add_comm, ← List.drop_drop, List.drop_append_of_le_length (by rw [hl]; exact Nat.le_refl _), List.drop_of_length_le (l := enc x) (by rw [hl]; exact Nat.le_refl _), List.nil_append, qds hl xs i, List.drop_succ_cons]
theorem qek {α : Type} {enc : α → List Value} (h : ∀ x, ∀ u ∈ enc x, u.oneCell' = true) (xs : List α) : ∀ u ∈ xs.flatMap enc, u.oneCell' = true := fun u hu => by
 obtain ⟨x, _, hx⟩ := List.mem_flatMap.1 hu
 exact h x u hx

end

section
def qdz (x : S73) : List Value := [.int .i64 x.f0, .string x.f1, .string x.f2, .string x.f3]
theorem qdj (x : S73) : (qdz x).length = 4 := rfl
theorem enc_DOp_one (x : S73) : ∀ u ∈ qdz x, u.oneCell' = true := by
 intro u hu
 simp only [qdz, List.mem_cons, List.not_mem_nil, or_false] at hu
 rcases hu with rfl | rfl | rfl | rfl <;> rfl
theorem own_of_DOp {w : World} {base : Nat} {ok : Nat → Prop} {v : Value} {xs : List S73} (h : Kd.R k73 73 w base ok v xs) : w.ownsRow base 73 4 v xs.length (xs.flatMap qdz) := by
 obtain ⟨_, inner, ho, hr⟩ := h
 rw [← reps_enc (enc := qdz) (fun x cs hM => qbs hM) xs inner hr]
 exact ho
theorem of_own_DOp {w : World} {base : Nat} {ok : Nat → Prop} {v : Value} {xs : List S73} (h : w.ownsRow base 73 4 v xs.length (xs.flatMap qdz)) (hok : ∀ k, v.ownBlock = some k → ok k) : Kd.R k73 73 w base ok v xs :=
 ⟨hok, _, h, enc_reps (fun x => qct w base _ x) qdj xs⟩

end

section
def impl_DOp_103.f (l0 : List S73) (a1 : Int) (l2 : List S73) : Option (List S73 × List S73) := if l2.length = 1 ∧ 0 ≤ a1 ∧ a1 ≤ l0.length ∧ l0.length < 1099511627776 then some (l0.take a1.toNat ++ (l2 ++ l0.drop a1.toNat), l2) else none
set_option maxHeartbeats 8000000 in
set_option maxRecDepth 100000 in
theorem impl_DOp_103.calls (P0_ : Nat → Prop) (u9000_ : Value) (l0 : List (S73)) (a1 : Int) (P2_ : Nat → Prop) (u9001_ : Value) (l2 : List (S73)) (r1 : List (S73)) (r2 : List (S73)) (w0 w : World) (hB : Below w0.heap.size w0 w) (ho0 : Kd.R k73 73 w w0.heap.size P0_ u9000_ l0) (hp0_2 : ∀ k_, P0_ k_ → ¬ P2_ k_) (ho2 : Kd.R k73 73 w w0.heap.size P2_ u9001_ l2) (hp2_0 : ∀ k_, P2_ k_ → ¬ P0_ k_) (h : impl_DOp_103.f l0 a1 l2 = some (r1, r2)) :
 Calls Try.prog 103 #[u9000_, .int .i64 a1, u9001_] w fun e w' => ∃ v0_ : Value, e = .returned (v0_) ∧ Kd.R k73 73 w' w0.heap.size (fun k_ => ((P0_ k_ ∨ P2_ k_) ∨ w.heap.size ≤ k_) ∧ some k_ ≠ (u9001_ : Value).ownBlock) v0_ r1 ∧ Kd.R k73 73 w' w0.heap.size (fun k_ => ((P0_ k_ ∨ P2_ k_) ∨ w.heap.size ≤ k_)) u9001_ r2 ∧ Below w0.heap.size w0 w' ∧ Kept w w' (fun k_ => P0_ k_ ∨ P2_ k_) := by
 unfold impl_DOp_103.f at h
 by_cases hc : l2.length = 1 ∧ 0 ≤ a1 ∧ a1 ≤ l0.length ∧ l0.length < 1099511627776
 ·
  rw [if_pos hc] at h
  obtain ⟨hl, h0, h1, hm⟩ := hc
  obtain ⟨n, rfl⟩ : ∃ n : Nat, a1 = (n : Int) := ⟨a1.toNat, by omega⟩
  obtain ⟨rfl, rfl⟩ : l0.take (n : Int).toNat ++ (l2 ++ l0.drop (n : Int).toNat) = r1 ∧ l2 = r2 := by simpa using h
  have ho := own_of_DOp ho0
  have hv := own_of_DOp ho2
  obtain ⟨g, cap, cur, hvv, hbg, hg, hnc, hcm, hcap, hcs⟩ := qdq hv (by omega)
  rw [hl] at hvv hnc hcs
  have hvs : ∀ (j : Nat) (u : Value), (l2.flatMap qdz)[j]? = some u → cur[j]? = some u := fun j u hj => by
   rw [← hcs, List.getElem?_take] at hj
   split at hj
   · simpa using hj
   · cases hj
  have hgb : u9001_.ownBlock = some g := by rw [hvv]; rfl
  have hgP : P2_ g := ho2.1 g hgb
  have hne : u9000_.ownBlock ≠ some g := fun he => hp0_2 g (ho0.1 g he) hgP
  subst hvv
  refine (lib_insC_DOp w0.heap.size u9000_ l0.length n _ _ g w ho (qek enc_DOp_one l0) (by omega) cur cap hg hvs (by obtain ⟨x, rfl⟩ := List.length_eq_one_iff.1 hl; simp [qdj]) (qek enc_DOp_one l2) hne hB.size (by omega)).mono ?_
  rintro e w' ⟨v', rfl, h2, h3, h4⟩
  refine ⟨v', rfl, of_own_DOp ?_ ?_, ?_, qcl hB _ hB.size h3 (fun k hk => qcd ho k hk), Kept.of_grown h3 (Kept.refl w _) (fun k hk => .inl (.inl (ho0.1 k hk)))⟩
  ·
   rw [Int.toNat_natCast, List.flatMap_append, List.flatMap_append, ← qdr qdj, ← qds qdj, List.length_append, List.length_append, List.length_take, List.length_drop, hl, show min n l0.length + (1 + (l0.length - n)) = l0.length + 1 by omega]
   exact h2
  ·
   intro k hk
   rcases h4 with h4 | ⟨b, h4, h5⟩
   ·
    rw [h4] at hk
    exact ⟨.inl (.inl (ho0.1 k hk)), fun he => hne (by rw [hk, he]; rfl)⟩
   ·
    rw [h4] at hk
    obtain rfl := Option.some.inj hk
    refine ⟨.inr h5, fun he => ?_⟩
    have := qan hg
    have : b = g := Option.some.inj he
    omega
  · exact of_own_DOp (own_other hv h3 (.inr (fun he => hne he.symm))) (fun k hk => .inl (.inr (ho2.1 k hk)))
 ·
  rw [if_neg hc] at h
  cases h

end

section
def impl_copyFiles.f (l0 : List (S80)) : Option ((List (S80))) := (some (([] : List (S80)) : List (S80))).bind fun y101 => (if y101.length + l0.length < 4398046511104 then (some (y101 ++ l0)) else (none))
set_option maxHeartbeats 8000000 in
set_option maxRecDepth 100000 in
theorem impl_copyFiles.calls (A0 : Option Addr) (c0 : Nat) (l0 : List (S80)) (r : List (S80)) (w : World) (hr0 : Kd.C k80 w A0 l0.length l0) (hc0 : l0.length ≤ c0) (h : impl_copyFiles.f l0 = some r) :
 Calls Try.prog 59 #[.slice A0 l0.length c0] w fun e w' => ∃ v0_ : Value, e = .returned (v0_) ∧ Kd.R k80 80 w' w.heap.size (fun _ => True) v0_ r ∧ Below w.heap.size w w' := by
 have HR0 := am hr0
 have HC0 := am hc0
 clear hr0 hc0
 have HB := am (Below.refl w.heap.size w)
 have H : ((some (([] : List (S80)) : List (S80))).bind fun y101 => (if y101.length + l0.length < 4398046511104 then (some (y101 ++ l0)) else (none))) = some r := h
 clear h
 obtain ⟨y101, hy101⟩ : ∃ y_ : List (S80), y_ = (([] : List (S80))) := ⟨_, rfl⟩
 replace H : (if y101.length + l0.length < 4398046511104 then (some (y101 ++ l0)) else (none)) = some r := by first | (rw [hy101]; with_reducible exact H) | (have H2_ := (Option.bind_some _ _).symm.trans H; rw [hy101]; with_reducible exact H2_) | (have H2_ := (Option.bind_some _ _).symm.trans H; with_reducible exact H2_) | with_reducible exact H | (rw [hy101]; exact H) | exact H
 have Ny101 := am hy101
 clear hy101
 by_cases c2 : y101.length + l0.length < 4398046511104
 ·
  rw [if_pos c2] at H
  have LMc2 := am c2
  clear c2
  obtain ⟨y104, hy104⟩ : ∃ y_ : List (S80), y_ = (y101 ++ l0) := ⟨_, rfl⟩
  replace H : (some y104) = some r := by first | (rw [hy104]; with_reducible exact H) | (have H2_ := (Option.bind_some _ _).symm.trans H; rw [hy104]; with_reducible exact H2_) | (have H2_ := (Option.bind_some _ _).symm.trans H; with_reducible exact H2_) | with_reducible exact H | (rw [hy104]; exact H) | exact H
  have Ny104 := am hy104
  clear hy104
  obtain rfl := Option.some.inj H
  go_enter Try.func59, Try.ntmps59
  go_wp2_with (first | ((with_reducible refine qal (N := 3) rfl ?_); refine Kd.R_lit k80 _ 80 ?hg (N := 3) ?hd (xs := ([] : List (S80))) (inner := []) (ok := fun _ => True) (okp := fun _ => True) ?hr ?hp (fun _ hk => hk) trivial (Below.refl _ _) (Nat.le_refl _) (by simp) ?_; (case hd => rfl); (case hg => rfl); (case hr => first | (go_simp; done) | (go_simp; rfl)); (case hp => exact (Reps.none _ _)); intro v102 w3 ho4 hb hg_ hnew_; clear hg_ hnew_; (first | rw [← Ny101.out] at ho4 | (simp only [Int.reduceToNat] at ho4; rw [← Ny101.out] at ho4)); have HO103 := am (Kd.R_lower ho4 (qaf (au3 HB.out))); replace HB := am (qad (au3 HB.out) hb); clear hb ho4) | ((with_reducible refine qbf (b := .append) (xs := #[.tmp 3, .tmp 4]) rfl ?_); at_builtin; refine Kd.R_append_rows k80 (w0 := w) w.heap.size rfl (.tmp 3) (.tmp 4) 28 80 (.agg #[(.string ⟨#[]⟩), (.string ⟨#[]⟩)]) 32 rfl Try.underlying28 qch rfl (by decide) (by omega) v102 y101 l0 _ _ _ (fun _ => True) (fun _ => False) rfl rfl ?aO ?aR (fun _ _ h => h) (fun _ h => h.elim) ?aF ?aB ?aS ?aL ?_; (case aR => exact scE (Kd.C_below HR0.out HB.out)); (case aB => exact (au3 HB.out)); (case aF => exact (fun _ _ => trivial)); (case aO => exact (au0 HO103.out)); (case aS => exact (qaf (au3 HB.out))); (case aL => have := LMc2.out; omega); intro v105 w5 ho hb hg hat; rw [← Ny104.out] at ho; replace HB := am (hb); have HO106 := am (ho); clear HO103; clear ho hb hg hat))
  go_ret
  exact ⟨_, by first | rfl | (simp [qag, qah] <;> rfl) | (simp [*, qag, qah] <;> rfl), au0 HO106.out, (au3 HB.out)⟩
 ·
  rw [if_neg c2] at H
  exact absurd H (by simp)

end

section
def impl_copyDisk.f (l0_0 : List (S80)) (l0_1 : List (S80)) (l0_2 : List (S73)) : Option ((List (S80)) × (List (S80)) × (List (S73))) := (impl_copyFiles.f l0_0).bind fun t103 => ((impl_copyFiles.f l0_1).bind fun t106 => ((some (([] : List (S73)) : List (S73))).bind fun y109 => (if y109.length + l0_2.length < 2513169434916 then (some (t103, t106, (y109 ++ l0_2))) else (none))))
def impl_copyDisk.T1 : Bool × List (List Nat × List Nat) := (true, [([], []), ([0], [0]), ([1], [1]), ([], []), ([3], [3]), ([4, 2], [4]), ([], []), ([], []), ([7], [7]), ([6, 8, 5], [6, 8]), ([2, 5, 9], [2, 5, 9]), ([10, 9, 0, 1, 2, 3, 4, 5, 6, 7, 8, 9, 10], [10])])
def impl_copyDisk.B1 : List Nat := [0, 1, 3, 0, 8, 31, 0, 0, 128, 511, 1023, 2047]
theorem impl_copyDisk.tab1 : rtab .any (opsOf Try.f79 1) = impl_copyDisk.T1 := by kernel_rfl
theorem impl_copyDisk.bits1 : qcf impl_copyDisk.T1.2 impl_copyDisk.B1 = true := by kernel_rfl
set_option maxHeartbeats 8000000 in
set_option maxRecDepth 100000 in
theorem impl_copyDisk.calls (A0_0 : Option Addr) (c0_0 : Nat) (l0_0 : List (S80)) (A0_1 : Option Addr) (c0_1 : Nat) (l0_1 : List (S80)) (A0_2 : Option Addr) (c0_2 : Nat) (l0_2 : List (S73)) (r1 : List (S80)) (r2 : List (S80)) (r3 : List (S73)) (w : World) (hr0_0 : Kd.C k80 w A0_0 l0_0.length l0_0) (hc0_0 : l0_0.length ≤ c0_0) (hr0_1 : Kd.C k80 w A0_1 l0_1.length l0_1) (hc0_1 : l0_1.length ≤ c0_1) (hr0_2 : Kd.C k73 w A0_2 l0_2.length l0_2) (hc0_2 : l0_2.length ≤ c0_2) (h : impl_copyDisk.f l0_0 l0_1 l0_2 = some (r1, r2, r3)) :
 Calls Try.prog 79 #[.agg #[.slice A0_0 l0_0.length c0_0, .slice A0_1 l0_1.length c0_1, .slice A0_2 l0_2.length c0_2]] w fun e w' => ∃ v0_ v1_ v2_ : Value, e = .returned (.agg #[v0_, v1_, v2_]) ∧ Kd.R k80 80 w' w.heap.size (fun k_ => some k_ ≠ (v1_ : Value).ownBlock) v0_ r1 ∧ Kd.R k80 80 w' w.heap.size (fun k_ => some k_ ≠ (v0_ : Value).ownBlock) v1_ r2 ∧ Kd.R k73 73 w' w.heap.size (fun _ => True) v2_ r3 ∧ Below w.heap.size w w' := by
 have hu31 := Try.underlying31
 have HR0_0 := am hr0_0
 have HC0_0 := am hc0_0
 clear hr0_0 hc0_0
 have HR0_1 := am hr0_1
 have HC0_1 := am hc0_1
 clear hr0_1 hc0_1
 have HR0_2 := am hr0_2
 have HC0_2 := am hc0_2
 clear hr0_2 hc0_2
 have HB := am (Below.refl w.heap.size w)
 have H : ((impl_copyFiles.f l0_0).bind fun t103 => ((impl_copyFiles.f l0_1).bind fun t106 => ((some (([] : List (S73)) : List (S73))).bind fun y109 => (if y109.length + l0_2.length < 2513169434916 then (some (t103, t106, (y109 ++ l0_2))) else (none))))) = some (r1, r2, r3) := h
 clear h
 replace H := Option.bind_eq_some_iff.mp H
 obtain ⟨t103, A20, H⟩ := H
 replace H : ((impl_copyFiles.f l0_1).bind fun t106 => ((some (([] : List (S73)) : List (S73))).bind fun y109 => (if y109.length + l0_2.length < 2513169434916 then (some (t103, t106, (y109 ++ l0_2))) else (none)))) = some (r1, r2, r3) := H
 have A2 := am A20
 clear A20
 replace H := Option.bind_eq_some_iff.mp H
 obtain ⟨t106, A30, H⟩ := H
 replace H : ((some (([] : List (S73)) : List (S73))).bind fun y109 => (if y109.length + l0_2.length < 2513169434916 then (some (t103, t106, (y109 ++ l0_2))) else (none))) = some (r1, r2, r3) := H
 have A3 := am A30
 clear A30
 obtain ⟨y109, hy109⟩ : ∃ y_ : List (S73), y_ = (([] : List (S73))) := ⟨_, rfl⟩
 replace H : (if y109.length + l0_2.length < 2513169434916 then (some (t103, t106, (y109 ++ l0_2))) else (none)) = some (r1, r2, r3) := by first | (rw [hy109]; with_reducible exact H) | (have H2_ := (Option.bind_some _ _).symm.trans H; rw [hy109]; with_reducible exact H2_) | (have H2_ := (Option.bind_some _ _).symm.trans H; with_reducible exact H2_) | with_reducible exact H | (rw [hy109]; exact H) | exact H
 have Ny109 := am hy109
 clear hy109
 by_cases c4 : y109.length + l0_2.length < 2513169434916
 ·
  rw [if_pos c4] at H
  have LMc4 := am c4
  clear c4
  obtain ⟨y112, hy112⟩ : ∃ y_ : List (S73), y_ = (y109 ++ l0_2) := ⟨_, rfl⟩
  replace H : (some (t103, t106, y112)) = some (r1, r2, r3) := by first | (rw [hy112]; with_reducible exact H) | (have H2_ := (Option.bind_some _ _).symm.trans H; rw [hy112]; with_reducible exact H2_) | (have H2_ := (Option.bind_some _ _).symm.trans H; with_reducible exact H2_) | with_reducible exact H | (rw [hy112]; exact H) | exact H
  have Ny112 := am hy112
  clear hy112
  simp only [Option.some.injEq, Prod.mk.injEq] at H
  obtain ⟨rfl, rfl, rfl⟩ := H
  go_enter Try.func79, Try.ntmps79
  try go_wp2_with (first | ((with_reducible refine qal (N := 1) rfl ?_); refine bxE (N := 1) (cs := #[.slice A0_0 l0_0.length c0_0, .slice A0_1 l0_1.length c0_1, .slice A0_2 l0_2.length c0_2]) (t := 31) ?_; intro gb101 hg w5 hbox hb; have BK101 := am (hbox); have GW101 := am (sgE hg (au3 HB.out) : w.heap.size ≤ gb101); have GE101 := GW101; replace HB := am (qad (au3 HB.out) hb); clear hb hbox hg) | ((with_reducible refine qal (N := 2) rfl ?_); refine bxE (N := 2) (cs := #[.slice none 0 0, .slice none 0 0, .slice none 0 0]) (t := 31) ?_; intro gb102 hg w6 hbox hb; have BK102 := am (hbox); have GW102 := am (sgE hg (au7 HB.out GE101.out) : w.heap.size ≤ gb102); have GE102 := GW102; replace HB := am (qad (au7 HB.out GE101.out) hb); have NB101_102 := am ((sltE hg (qan (au1 BK101.out)))); have NB102_101 := am ((sgtE hg (qan (au1 BK101.out)))); replace BK101 := am (qab (au1 BK101.out) hb); clear hb hbox hg))
  replace BK101 := am (qcm BK101.out)
  replace BK102 := am (qcm BK102.out)
  replace HB := am (qay HB.out)
  refine qdm (n := 12) (S := fun w' => w'.cell? ⟨gb101, 0, none⟩ = some (.slice A0_0 l0_0.length c0_0) ∧ w'.cell? ⟨gb101, 1, none⟩ = some (.slice A0_1 l0_1.length c0_1) ∧ w'.cell? ⟨gb101, 2, none⟩ = some (.slice A0_2 l0_2.length c0_2)) (ds := []) #[false, false, false, false, false, false, false, false, false, false, false, false] (by kernel_rfl) rfl rfl ⟨(qak BK101.out 0).trans rfl, (qak BK101.out 1).trans rfl, (qak BK101.out 2).trans rfl⟩ (fun hHeld => ?_); refine qbx impl_copyDisk.tab1 impl_copyDisk.bits1 (fun HT_ HW_ => ?_)
  generalize w6.drew = w7 at BK101 BK102 HB hHeld ⊢
  refine pure_ (i := 0) (N := some 3) (v := ?_) (a' := ?_) #[true, false, false, false, false, false, false, false, false, false, false, false] rfl rfl (qaz HT_.out (by kernel_rfl)) (fun _ _ _ h => h) (Or.inl ⟨by rfl, ?_⟩) ?_ ?_
  rotate_left
  ·
   intro w'
   go_simp
   with_reducible rfl
  rotate_left
  ·
   simp only [Act.put, qsA, qsZ, qsS, i64_w, i32_w]
   rfl
  refine pure_ (i := 3) (N := some 6) (v := ?_) (a' := ?_) #[true, false, false, true, false, false, false, false, false, false, false, false] rfl rfl (qaz HT_.out (by kernel_rfl)) (fun _ _ _ h => h) (Or.inl ⟨by rfl, ?_⟩) ?_ ?_
  rotate_left
  ·
   intro w'
   go_simp
   with_reducible rfl
  rotate_left
  ·
   simp only [Act.put, qsA, qsZ, qsS, i64_w, i32_w]
   rfl
  refine pure_ (i := 7) (N := some 10) (v := ?_) (a' := ?_) #[true, false, false, true, false, false, false, true, false, false, false, false] rfl rfl (qaz HT_.out (by kernel_rfl)) (fun _ _ _ h => h) (Or.inl ⟨by rfl, ?_⟩) ?_ ?_
  rotate_left
  ·
   intro w'
   go_simp
   with_reducible rfl
  rotate_left
  ·
   simp only [Act.put, qsA, qsZ, qsS, i64_w, i32_w]
   rfl
  refine take_ (i := 1) (N := some 4) (v := ?_) (a' := ?_) #[true, true, false, true, false, false, false, true, false, false, false, false] rfl rfl (qbj HT_.out HW_.out (by kernel_rfl)) (fun _ _ _ h => h) (Or.inl ⟨by rfl, ?_⟩) hHeld ?_ ?_
  rotate_left
  ·
   rintro w' ⟨s0, s1, s2⟩
   go_simp
   with_reducible rfl
  rotate_left
  ·
   simp only [Act.put, qsA, qsZ, qsS, i64_w, i32_w]
   rfl
  refine take_ (i := 4) (N := some 7) (v := ?_) (a' := ?_) #[true, true, false, true, true, false, false, true, false, false, false, false] rfl rfl (qbj HT_.out HW_.out (by kernel_rfl)) (fun _ _ _ h => h) (Or.inl ⟨by rfl, ?_⟩) hHeld ?_ ?_
  rotate_left
  ·
   rintro w' ⟨s0, s1, s2⟩
   go_simp
   with_reducible rfl
  rotate_left
  ·
   simp only [Act.put, qsA, qsZ, qsS, i64_w, i32_w]
   rfl
  refine take_ (i := 8) (N := some 11) (v := ?_) (a' := ?_) #[true, true, false, true, true, false, false, true, true, false, false, false] rfl rfl (qbj HT_.out HW_.out (by kernel_rfl)) (fun _ _ _ h => h) (Or.inl ⟨by rfl, ?_⟩) hHeld ?_ ?_
  rotate_left
  ·
   rintro w' ⟨s0, s1, s2⟩
   go_simp
   with_reducible rfl
  rotate_left
  ·
   simp only [Act.put, qsA, qsZ, qsS, i64_w, i32_w]
   rfl
  refine join_ (σ := Value × Value × Value) 3 #[true, true, true, true, true, true, true, true, true, false, false, false] (fun s_ => [(5, s_.1), (8, s_.2.1), (9, s_.2.2)]) (fun s_ w' => (w'.cell? ⟨gb101, 0, none⟩ = some (.slice A0_0 l0_0.length c0_0) ∧ w'.cell? ⟨gb101, 1, none⟩ = some (.slice A0_1 l0_1.length c0_1) ∧ w'.cell? ⟨gb101, 2, none⟩ = some (.slice A0_2 l0_2.length c0_2)) ∧ (Kd.R k80 80 w' w.heap.size (fun k_ => some k_ ≠ (s_.2.1 : Value).ownBlock) s_.1 t103) ∧ (Kd.R k80 80 w' w.heap.size (fun k_ => some k_ ≠ (s_.1 : Value).ownBlock) s_.2.1 t106) ∧ (Kd.R k73 73 w' w.heap.size (fun _ => True) s_.2.2 y109) ∧ (w'.heap[gb101]? = some (.cells #[.slice A0_0 l0_0.length c0_0, .slice A0_1 l0_1.length c0_1, .slice A0_2 l0_2.length c0_2] 31 (0, 0))) ∧ (w'.heap[gb102]? = some (.cells #[.slice none 0 0, .slice none 0 0, .slice none 0 0] 31 (0, 0))) ∧ (Below w.heap.size w w')) ?_ ?_
  rotate_left
  ·
   intro hCont
   refine two_ (i := 2) (j := 6) (Ni := some 5) (Nj := some 9) #[true, true, true, true, true, false, false, true, true, false, false, false] #[true, true, false, true, true, false, true, true, true, false, false, false] rfl rfl rfl rfl (qew HT_.out (by kernel_rfl)) (by decide) (by decide) (fun K hK => ?_) (fun K hK => ?_)
   ·
    skip
    refine goes_ Try.func59 (by kernel_rfl) rfl #[.slice A0_0 l0_0.length c0_0] (by rfl) rfl rfl au6 ?_
    with_reducible refine (impl_copyFiles.calls _ _ l0_0 t103 _ ?side1 ?side2 A2.out).mono ?_
    (case side1 => exact scE (Kd.C_below HR0_0.out HB.out))
    (case side2 => exact HC0_0.out)
    rintro e w8 ⟨v104, rfl, ho0, hb⟩
    refine ⟨_, rfl, ?_⟩
    have HO105 := am (Kd.R_lower ho0 (qaf (au4 HB.out GE101.out GE102.out)))
    replace BK101 := am (qab (au1 BK101.out) hb)
    replace BK102 := am (qab (au1 BK102.out) hb)
    replace HB := am (qad (au4 HB.out GE101.out GE102.out) hb)
    (try clear hb)
    (try clear hb2)
    (try clear hk)
    (try clear hi)
    (try clear ho0)
    refine hK.out _ _ ⟨(qak BK101.out 0).trans rfl, (qak BK101.out 1).trans rfl, (qak BK101.out 2).trans rfl⟩ (fun hHeld => ?_)
    clear hK K
    refine norm_ (a' := ?_) ?_ ?_
    rotate_left
    ·
     show Act.put _ (some 5) _ = _
     simp only [Act.put, qsA, qsZ, qsS, i64_w, i32_w]
     rfl
    refine two_ (i := 5) (j := 6) (Ni := some 8) (Nj := some 9) #[true, true, true, true, true, true, false, true, true, false, false, false] #[true, true, true, true, true, false, true, true, true, false, false, false] rfl rfl rfl rfl (qew HT_.out (by kernel_rfl)) (by decide) (by decide) (fun K hK => ?_) (fun K hK => ?_)
    ·
     skip
     refine goes_ Try.func59 (by kernel_rfl) rfl #[.slice A0_1 l0_1.length c0_1] (by rfl) rfl rfl au6 ?_
     with_reducible refine (impl_copyFiles.calls _ _ l0_1 t106 _ ?side1 ?side2 A3.out).mono ?_
     (case side1 => exact scE (Kd.C_below HR0_1.out HB.out))
     (case side2 => exact HC0_1.out)
     rintro e w9 ⟨v107, rfl, ho0, hb⟩
     refine ⟨_, rfl, ?_⟩
     have HO108 := am (Kd.R_lower (Kd.R_new' ho0 (Kd.R_lt (au0 HO105.out))) (qaf (au4 HB.out GE101.out GE102.out)))
     replace HO105 := am (Kd.R_elder' (au0 HO105.out) (Kd.R_base ho0) hb)
     replace BK101 := am (qab (au1 BK101.out) hb)
     replace BK102 := am (qab (au1 BK102.out) hb)
     replace HB := am (qad (au4 HB.out GE101.out GE102.out) hb)
     (try clear hb)
     (try clear hb2)
     (try clear hk)
     (try clear hi)
     (try clear ho0)
     refine hK.out _ _ ⟨(qak BK101.out 0).trans rfl, (qak BK101.out 1).trans rfl, (qak BK101.out 2).trans rfl⟩ (fun hHeld => ?_)
     clear hK K
     refine norm_ (a' := ?_) ?_ ?_
     rotate_left
     ·
      show Act.put _ (some 8) _ = _
      simp only [Act.put, qsA, qsZ, qsS, i64_w, i32_w]
      rfl
     refine one_ (i := 6) (N := some 9) #[true, true, true, true, true, true, true, true, true, false, false, false] rfl rfl (qbw HT_.out (by kernel_rfl)) (by decide) (fun K hK => ?_)
     refine Kd.R_lit_step k73 _ 73 ?hg (N := 9) ?hd (xs := ([] : List (S73))) (inner := []) (ok := fun _ => True) (okp := fun _ => True) ?hr ?hp (fun _ hk => hk) trivial (Below.refl _ _) (Nat.le_refl _) (by simp) ?_; (case hd => rfl); (case hg => rfl); (case hr => first | (go_simp; done) | (go_simp; rfl)); (case hp => exact (Reps.none _ _))
     intro v110 w10 ho11 hb hg_ hnew_
     clear hg_ hnew_
     (first | rw [← Ny109.out] at ho11 | (simp only [Int.reduceToNat] at ho11; rw [← Ny109.out] at ho11))
     replace HO105 := am (Kd.R_below (au0 HO105.out) hb)
     replace HO108 := am (Kd.R_below (au0 HO108.out) hb)
     have HO111 := am (Kd.R_lower ho11 (qaf (au4 HB.out GE101.out GE102.out)))
     replace BK101 := am (qab (au1 BK101.out) hb)
     replace BK102 := am (qab (au1 BK102.out) hb)
     replace HB := am (qad (au4 HB.out GE101.out GE102.out) hb)
     clear hb ho11
     refine hK.out _ _ ⟨(qak BK101.out 0).trans rfl, (qak BK101.out 1).trans rfl, (qak BK101.out 2).trans rfl⟩ (fun hHeld => ?_)
     clear hK K
     refine norm_ (a' := ?_) ?_ ?_
     rotate_left
     ·
      show Act.put _ (some 9) _ = _
      simp only [Act.put, qsA, qsZ, qsS, i64_w, i32_w]
      rfl
     exact norm_ au5 (hCont (v104, v107, v110) _ ⟨hHeld, (by refine au0 ?_; exact Kd.R_mono HO105.out k2E), (by refine au0 ?_; exact Kd.R_mono HO108.out k2E), (au0 HO111.out), (au1 BK101.out), (au1 BK102.out), (au4 HB.out GE101.out GE102.out)⟩)
    ·
     skip
     refine Kd.R_lit_step k73 _ 73 ?hg (N := 9) ?hd (xs := ([] : List (S73))) (inner := []) (ok := fun _ => True) (okp := fun _ => True) ?hr ?hp (fun _ hk => hk) trivial (Below.refl _ _) (Nat.le_refl _) (by simp) ?_; (case hd => rfl); (case hg => rfl); (case hr => first | (go_simp; done) | (go_simp; rfl)); (case hp => exact (Reps.none _ _))
     intro v110 w9 ho10 hb hg_ hnew_
     clear hg_ hnew_
     (first | rw [← Ny109.out] at ho10 | (simp only [Int.reduceToNat] at ho10; rw [← Ny109.out] at ho10))
     replace HO105 := am (Kd.R_below (au0 HO105.out) hb)
     have HO111 := am (Kd.R_lower ho10 (qaf (au4 HB.out GE101.out GE102.out)))
     replace BK101 := am (qab (au1 BK101.out) hb)
     replace BK102 := am (qab (au1 BK102.out) hb)
     replace HB := am (qad (au4 HB.out GE101.out GE102.out) hb)
     clear hb ho10
     refine hK.out _ _ ⟨(qak BK101.out 0).trans rfl, (qak BK101.out 1).trans rfl, (qak BK101.out 2).trans rfl⟩ (fun hHeld => ?_)
     clear hK K
     refine norm_ (a' := ?_) ?_ ?_
     rotate_left
     ·
      show Act.put _ (some 9) _ = _
      simp only [Act.put, qsA, qsZ, qsS, i64_w, i32_w]
      rfl
     refine one_ (i := 5) (N := some 8) #[true, true, true, true, true, true, true, true, true, false, false, false] rfl rfl (qbw HT_.out (by kernel_rfl)) (by decide) (fun K hK => ?_)
     refine goes_ Try.func59 (by kernel_rfl) rfl #[.slice A0_1 l0_1.length c0_1] (by rfl) rfl rfl au6 ?_
     with_reducible refine (impl_copyFiles.calls _ _ l0_1 t106 _ ?side1 ?side2 A3.out).mono ?_
     (case side1 => exact scE (Kd.C_below HR0_1.out HB.out))
     (case side2 => exact HC0_1.out)
     rintro e w11 ⟨v107, rfl, ho0, hb⟩
     refine ⟨_, rfl, ?_⟩
     replace HO111 := am (Kd.R_below (au0 HO111.out) hb)
     have HO108 := am (Kd.R_lower (Kd.R_new' ho0 (Kd.R_lt (au0 HO105.out))) (qaf (au4 HB.out GE101.out GE102.out)))
     replace HO105 := am (Kd.R_elder' (au0 HO105.out) (Kd.R_base ho0) hb)
     replace BK101 := am (qab (au1 BK101.out) hb)
     replace BK102 := am (qab (au1 BK102.out) hb)
     replace HB := am (qad (au4 HB.out GE101.out GE102.out) hb)
     (try clear hb)
     (try clear hb2)
     (try clear hk)
     (try clear hi)
     (try clear ho0)
     refine hK.out _ _ ⟨(qak BK101.out 0).trans rfl, (qak BK101.out 1).trans rfl, (qak BK101.out 2).trans rfl⟩ (fun hHeld => ?_)
     clear hK K
     refine norm_ (a' := ?_) ?_ ?_
     rotate_left
     ·
      show Act.put _ (some 8) _ = _
      simp only [Act.put, qsA, qsZ, qsS, i64_w, i32_w]
      rfl
     exact norm_ au5 (hCont (v104, v107, v110) _ ⟨hHeld, (by refine au0 ?_; exact Kd.R_mono HO105.out k2E), (by refine au0 ?_; exact Kd.R_mono HO108.out k2E), (au0 HO111.out), (au1 BK101.out), (au1 BK102.out), (au4 HB.out GE101.out GE102.out)⟩)
   ·
    skip
    refine Kd.R_lit_step k73 _ 73 ?hg (N := 9) ?hd (xs := ([] : List (S73))) (inner := []) (ok := fun _ => True) (okp := fun _ => True) ?hr ?hp (fun _ hk => hk) trivial (Below.refl _ _) (Nat.le_refl _) (by simp) ?_; (case hd => rfl); (case hg => rfl); (case hr => first | (go_simp; done) | (go_simp; rfl)); (case hp => exact (Reps.none _ _))
    intro v110 w8 ho9 hb hg_ hnew_
    clear hg_ hnew_
    (first | rw [← Ny109.out] at ho9 | (simp only [Int.reduceToNat] at ho9; rw [← Ny109.out] at ho9))
    have HO111 := am (Kd.R_lower ho9 (qaf (au4 HB.out GE101.out GE102.out)))
    replace BK101 := am (qab (au1 BK101.out) hb)
    replace BK102 := am (qab (au1 BK102.out) hb)
    replace HB := am (qad (au4 HB.out GE101.out GE102.out) hb)
    clear hb ho9
    refine hK.out _ _ ⟨(qak BK101.out 0).trans rfl, (qak BK101.out 1).trans rfl, (qak BK101.out 2).trans rfl⟩ (fun hHeld => ?_)
    clear hK K
    refine norm_ (a' := ?_) ?_ ?_
    rotate_left
    ·
     show Act.put _ (some 9) _ = _
     simp only [Act.put, qsA, qsZ, qsS, i64_w, i32_w]
     rfl
    refine one_ (i := 2) (N := some 5) #[true, true, true, true, true, false, true, true, true, false, false, false] rfl rfl (qbw HT_.out (by kernel_rfl)) (by decide) (fun K hK => ?_)
    refine goes_ Try.func59 (by kernel_rfl) rfl #[.slice A0_0 l0_0.length c0_0] (by rfl) rfl rfl au6 ?_
    with_reducible refine (impl_copyFiles.calls _ _ l0_0 t103 _ ?side1 ?side2 A2.out).mono ?_
    (case side1 => exact scE (Kd.C_below HR0_0.out HB.out))
    (case side2 => exact HC0_0.out)
    rintro e w10 ⟨v104, rfl, ho0, hb⟩
    refine ⟨_, rfl, ?_⟩
    replace HO111 := am (Kd.R_below (au0 HO111.out) hb)
    have HO105 := am (Kd.R_lower ho0 (qaf (au4 HB.out GE101.out GE102.out)))
    replace BK101 := am (qab (au1 BK101.out) hb)
    replace BK102 := am (qab (au1 BK102.out) hb)
    replace HB := am (qad (au4 HB.out GE101.out GE102.out) hb)
    (try clear hb)
    (try clear hb2)
    (try clear hk)
    (try clear hi)
    (try clear ho0)
    refine hK.out _ _ ⟨(qak BK101.out 0).trans rfl, (qak BK101.out 1).trans rfl, (qak BK101.out 2).trans rfl⟩ (fun hHeld => ?_)
    clear hK K
    refine norm_ (a' := ?_) ?_ ?_
    rotate_left
    ·
     show Act.put _ (some 5) _ = _
     simp only [Act.put, qsA, qsZ, qsS, i64_w, i32_w]
     rfl
    refine one_ (i := 5) (N := some 8) #[true, true, true, true, true, true, true, true, true, false, false, false] rfl rfl (qbw HT_.out (by kernel_rfl)) (by decide) (fun K hK => ?_)
    refine goes_ Try.func59 (by kernel_rfl) rfl #[.slice A0_1 l0_1.length c0_1] (by rfl) rfl rfl au6 ?_
    with_reducible refine (impl_copyFiles.calls _ _ l0_1 t106 _ ?side1 ?side2 A3.out).mono ?_
    (case side1 => exact scE (Kd.C_below HR0_1.out HB.out))
    (case side2 => exact HC0_1.out)
    rintro e w11 ⟨v107, rfl, ho0, hb⟩
    refine ⟨_, rfl, ?_⟩
    replace HO111 := am (Kd.R_below (au0 HO111.out) hb)
    have HO108 := am (Kd.R_lower (Kd.R_new' ho0 (Kd.R_lt (au0 HO105.out))) (qaf (au4 HB.out GE101.out GE102.out)))
    replace HO105 := am (Kd.R_elder' (au0 HO105.out) (Kd.R_base ho0) hb)
    replace BK101 := am (qab (au1 BK101.out) hb)
    replace BK102 := am (qab (au1 BK102.out) hb)
    replace HB := am (qad (au4 HB.out GE101.out GE102.out) hb)
    (try clear hb)
    (try clear hb2)
    (try clear hk)
    (try clear hi)
    (try clear ho0)
    refine hK.out _ _ ⟨(qak BK101.out 0).trans rfl, (qak BK101.out 1).trans rfl, (qak BK101.out 2).trans rfl⟩ (fun hHeld => ?_)
    clear hK K
    refine norm_ (a' := ?_) ?_ ?_
    rotate_left
    ·
     show Act.put _ (some 8) _ = _
     simp only [Act.put, qsA, qsZ, qsS, i64_w, i32_w]
     rfl
    exact norm_ au5 (hCont (v104, v107, v110) _ ⟨hHeld, (by refine au0 ?_; exact Kd.R_mono HO105.out k2E), (by refine au0 ?_; exact Kd.R_mono HO108.out k2E), (au0 HO111.out), (au1 BK101.out), (au1 BK102.out), (au4 HB.out GE101.out GE102.out)⟩)
  rintro ⟨v104, v107, v110⟩ w12 ⟨hS_, h0_, h1_, h2_, h3_, h4_, h5_⟩
  have n0_ : Aside0 (Kd.R k80 80 w12 w.heap.size (fun k_ => some k_ ≠ (v107 : Value).ownBlock) v104 t103) := ⟨h0_⟩
  have n1_ : Aside0 (Kd.R k80 80 w12 w.heap.size (fun k_ => some k_ ≠ (v104 : Value).ownBlock) v107 t106) := ⟨h1_⟩
  have n2_ : Aside0 (Kd.R k73 73 w12 w.heap.size (fun _ => True) v110 y109) := ⟨h2_⟩
  have n3_ : Aside0 (w12.heap[gb101]? = some (.cells #[.slice A0_0 l0_0.length c0_0, .slice A0_1 l0_1.length c0_1, .slice A0_2 l0_2.length c0_2] 31 (0, 0))) := ⟨h3_⟩
  have n4_ : Aside0 (w12.heap[gb102]? = some (.cells #[.slice none 0 0, .slice none 0 0, .slice none 0 0] 31 (0, 0))) := ⟨h4_⟩
  have n5_ : Aside0 (Below w.heap.size w w12) := ⟨h5_⟩
  clear BK101
  clear BK102
  clear HB
  clear h0_ h1_ h2_ h3_ h4_ h5_
  have HO105 := n0_
  have HO108 := n1_
  have HO111 := n2_
  have BK101 := n3_
  have BK102 := n4_
  have HB := n5_
  clear n0_ n1_ n2_ n3_ n4_ n5_
  have hHeld : w12.cell? ⟨gb101, 0, none⟩ = some (.slice A0_0 l0_0.length c0_0) ∧ w12.cell? ⟨gb101, 1, none⟩ = some (.slice A0_1 l0_1.length c0_1) ∧ w12.cell? ⟨gb101, 2, none⟩ = some (.slice A0_2 l0_2.length c0_2) := hS_
  refine norm_ (a' := ?_) ?_ ?_
  rotate_left
  ·
   simp only [qbz, Act.put, qsA, qsZ, qsS]
   rfl
  refine one_ (i := 9) (N := some 12) #[true, true, true, true, true, true, true, true, true, true, false, false] rfl rfl (qbw HT_.out (by kernel_rfl)) (by decide) (fun K hK => ?_)
  refine Kd.R_append_rows_step k73 (w0 := w) w.heap.size (by rfl) (.tmp 9) (.tmp 11) 29 73 (.agg #[(.int .i64 0), (.string ⟨#[]⟩), (.string ⟨#[]⟩), (.string ⟨#[]⟩)]) 56 rfl Try.underlying29 qex rfl (by decide) (by omega) v110 y109 l0_2 _ _ _ (fun _ => True) (fun _ => False) rfl rfl ?aO ?aR (fun _ _ h => h) (fun _ h => h.elim) ?aF ?aB ?aS ?aL ?_
  (case aR => exact scE (Kd.C_below HR0_2.out HB.out))
  (case aB => exact (au4 HB.out GE101.out GE102.out))
  (case aF => exact (fun _ _ => trivial))
  (case aO => exact (au0 HO111.out))
  (case aS => exact (qaf (au4 HB.out GE101.out GE102.out)))
  (case aL => have := LMc4.out; omega)
  intro v113 w13 ho hb hg hat
  rw [← Ny112.out] at ho
  replace BK101 := am (qbb (au1 BK101.out) hg (Kd.R_ne HO111.out BK101.out (by decide)))
  replace BK102 := am (qbb (au1 BK102.out) hg (Kd.R_ne HO111.out BK102.out (by decide)))
  replace HO105 := am (Kd.R_over' (au0 HO105.out) (Kd.R_typed (au0 HO111.out)) (by decide) hg)
  replace HO108 := am (Kd.R_over' (au0 HO108.out) (Kd.R_typed (au0 HO111.out)) (by decide) hg)
  replace HB := am (hb)
  have HO114 := am (ho)
  clear HO111
  clear ho hb hg hat
  obtain ⟨Ao14, co14, eo14⟩ := Kd.R_slice HO114.out
  (first | subst eo14 | (injection eo14 with f1_ f2_ f3_; have f4_ := f1_.symm; have f5_ := f3_.symm; clear f1_ f2_ f3_; subst f4_; subst f5_))
  obtain ⟨Ao15, co15, eo15⟩ := Kd.R_slice HO108.out
  (first | subst eo15 | (injection eo15 with f1_ f2_ f3_; have f4_ := f1_.symm; have f5_ := f3_.symm; clear f1_ f2_ f3_; subst f4_; subst f5_))
  obtain ⟨Ao16, co16, eo16⟩ := Kd.R_slice HO105.out
  (first | subst eo16 | (injection eo16 with f1_ f2_ f3_; have f4_ := f1_.symm; have f5_ := f3_.symm; clear f1_ f2_ f3_; subst f4_; subst f5_))
  refine hK.out _ _ ⟨(qak BK101.out 0).trans rfl, (qak BK101.out 1).trans rfl, (qak BK101.out 2).trans rfl⟩ (fun hHeld => ?_)
  clear hK K
  refine norm_ (a' := ?_) ?_ ?_
  rotate_left
  ·
   show Act.put _ (some 12) _ = _
   simp only [Act.put, qsA, qsZ, qsS, i64_w, i32_w]
   rfl
  refine pure_ (i := 10) (N := some 13) (v := ?_) (a' := ?_) #[true, true, true, true, true, true, true, true, true, true, true, false] rfl rfl (qaz HT_.out (by kernel_rfl)) (fun _ _ _ h => h) (Or.inl ⟨by rfl, ?_⟩) ?_ ?_
  rotate_left
  ·
   intro w'
   go_simp
   with_reducible rfl
  rotate_left
  ·
   simp only [Act.put, qsA, qsZ, qsS, i64_w, i32_w]
   rfl
  refine one_ (i := 11) (N := none) #[true, true, true, true, true, true, true, true, true, true, true, true] rfl rfl (qbw HT_.out (by kernel_rfl)) (by decide) (fun K hK => ?_)
  have hs17 : w13.cell? ⟨gb102, 0, none⟩ = some (.slice none 0 0) := (qak BK102.out 0).trans rfl
  have hfs17 := qaa BK102.out 0
  have hns17_0 := NB101_102.out
  have hms17_0 := NB102_101.out
  have hs18 : w13.cell? ⟨gb102, 1, none⟩ = some (.slice none 0 0) := (qak BK102.out 1).trans rfl
  have hfs18 := qaa BK102.out 1
  have hns18_0 := NB101_102.out
  have hms18_0 := NB102_101.out
  have hs19 : w13.cell? ⟨gb102, 2, none⟩ = some (.slice none 0 0) := (qak BK102.out 2).trans rfl
  have hfs19 := qaa BK102.out 2
  have hns19_0 := NB101_102.out
  have hms19_0 := NB102_101.out
  refine skip_ (w1 := ?_) (by rfl) rfl ?_ ?_
  rotate_left
  ·
   go_simp
   rfl
  refine hK.out _ _ ⟨((qav (p := ⟨gb102, _, none⟩) NB101_102.out _).trans (((qav (p := ⟨gb102, _, none⟩) NB101_102.out _).trans (((qav (p := ⟨gb102, _, none⟩) NB101_102.out _).trans (hHeld.1)))))), ((qav (p := ⟨gb102, _, none⟩) NB101_102.out _).trans (((qav (p := ⟨gb102, _, none⟩) NB101_102.out _).trans (((qav (p := ⟨gb102, _, none⟩) NB101_102.out _).trans (hHeld.2.1)))))), ((qav (p := ⟨gb102, _, none⟩) NB101_102.out _).trans (((qav (p := ⟨gb102, _, none⟩) NB101_102.out _).trans (((qav (p := ⟨gb102, _, none⟩) NB101_102.out _).trans (hHeld.2.2))))))⟩ (fun hHeld => ?_)
  clear hK K
  refine done_ (qdd HT_.out (by kernel_rfl)) ?_
  try go_wp2
  refine bodyPost_ret (results_cell_row rfl _ _ gb102 31 #[.slice Ao16 t103.length co16, .slice Ao15 t106.length co15, .slice Ao14 y112.length co14] (0, 0) _ rfl (by refine au1 ?_; refine qam (cs := #[.slice Ao16 t103.length co16, .slice Ao15 t106.length co15, .slice none 0 0]) ?_ 2 _ rfl; refine au1 ?_; refine qam (cs := #[.slice Ao16 t103.length co16, .slice none 0 0, .slice none 0 0]) ?_ 1 _ rfl; refine au1 ?_; refine qam (cs := #[.slice none 0 0, .slice none 0 0, .slice none 0 0]) ?_ 0 _ rfl; refine au1 ?_; exact BK102.out) Try.underlying31 rfl (by kernel_rfl)) rfl ?_
  exact ⟨_, _, _, by first | rfl | (simp [qag, qah] <;> rfl) | (simp [*, qag, qah] <;> rfl), by refine au0 ?_; exact Kd.R_mono (Kd.R_far (p := ⟨gb102, 2, none⟩) (Kd.R_far (p := ⟨gb102, 1, none⟩) (Kd.R_far (p := ⟨gb102, 0, none⟩) (Kd.R_types HO105.out BK102.out (by decide)) k2E (.slice Ao16 t103.length co16)) k2E (.slice Ao15 t106.length co15)) k2E (.slice Ao14 y112.length co14)) (fun _ hk => hk.1), by refine au0 ?_; exact Kd.R_mono (Kd.R_far (p := ⟨gb102, 2, none⟩) (Kd.R_far (p := ⟨gb102, 1, none⟩) (Kd.R_far (p := ⟨gb102, 0, none⟩) (Kd.R_types HO108.out BK102.out (by decide)) k2E (.slice Ao16 t103.length co16)) k2E (.slice Ao15 t106.length co15)) k2E (.slice Ao14 y112.length co14)) (fun _ hk => hk.1), by refine au0 ?_; exact Kd.R_mono (Kd.R_far (p := ⟨gb102, 2, none⟩) (Kd.R_far (p := ⟨gb102, 1, none⟩) (Kd.R_far (p := ⟨gb102, 0, none⟩) (Kd.R_types HO114.out BK102.out (by decide)) k2E (.slice Ao16 t103.length co16)) k2E (.slice Ao15 t106.length co15)) k2E (.slice Ao14 y112.length co14)) (fun _ hk => trivial), (au4 HB.out GE101.out GE102.out)⟩
 ·
  rw [if_neg c4] at H
  exact absurd H (by simp)

end

section
def impl_isFileName.f (a0 : ByteArray) : Option (Bool) := if (a0.size : Int) ≥ 1 then (some (decide ((a0.size : Int) ≤ 100))) else (some false)
set_option maxHeartbeats 8000000 in
set_option maxRecDepth 100000 in
theorem impl_isFileName.calls (a0 : ByteArray) (r : Bool) (w : World) (h : impl_isFileName.f a0 = some r) :
 Calls Try.prog 101 #[.string a0] w fun e w' => e = .returned (.bool r) ∧ Drawn0 w w' := by
 have H : (if (a0.size : Int) ≥ 1 then (some (decide ((a0.size : Int) ≤ 100))) else (some false)) = some r := h
 clear h
 by_cases c2 : (a0.size : Int) ≥ 1
 ·
  rw [if_pos c2] at H
  have c2b0 : decide (1 ≤ (a0.size : Int)) = true := decide_eq_true c2
  have c2b1 : decide (1 ≤ a0.size) = true := decide_eq_true (by omega)
  clear c2
  obtain rfl := Option.some.inj H
  go_enter Try.func101, Try.ntmps101
  go_wp2
  go_ret
  exact ⟨by first | rfl | (simp; done) | (simp [*]; done), au8⟩
 ·
  rw [if_neg c2] at H
  have c2b0 : decide (1 ≤ (a0.size : Int)) = false := decide_eq_false c2
  have c2b1 : decide (1 ≤ a0.size) = false := decide_eq_false (by omega)
  clear c2
  obtain rfl := Option.some.inj H
  go_enter Try.func101, Try.ntmps101
  go_wp2
  go_ret
  exact ⟨by first | rfl | (simp; done) | (simp [*]; done), au8⟩

end

section
def impl_DOp_isFormed.f (a0_0 : Int) (a0_1 : ByteArray) (a0_2 : ByteArray) (a0_3 : ByteArray) : Option (Bool) := if a0_0 = 1 then ((impl_isFileName.f a0_1).bind fun t102 => (if t102 = true then (some (a0_2.toList == ([] : List UInt8))) else (some false))) else (if a0_0 = 2 then ((impl_isFileName.f a0_1).bind fun t103 => (if t103 = true then ((impl_isFileName.f a0_2).bind fun t104 => (if t104 = true then (some (a0_3.toList == ([] : List UInt8))) else (some false))) else (some false))) else (if a0_0 = 3 then ((impl_isFileName.f a0_1).bind fun t105 => (if t105 = true then (if a0_2.toList = ([] : List UInt8) then (some (a0_3.toList == ([] : List UInt8))) else (some false)) else (some false))) else (some false)))
set_option maxHeartbeats 8000000 in
set_option maxRecDepth 100000 in
theorem impl_DOp_isFormed.calls (a0_0 : Int) (a0_1 : ByteArray) (a0_2 : ByteArray) (a0_3 : ByteArray) (r : Bool) (w : World) (h : impl_DOp_isFormed.f a0_0 a0_1 a0_2 a0_3 = some r) :
 Calls Try.prog 89 #[.agg #[.int .i64 a0_0, .string a0_1, .string a0_2, .string a0_3]] w fun e w' => e = .returned (.bool r) ∧ Below w.heap.size w w' := by
 have hu73 := Try.underlying73
 have HB := am (Below.refl w.heap.size w)
 have H : (if a0_0 = 1 then ((impl_isFileName.f a0_1).bind fun t102 => (if t102 = true then (some (a0_2.toList == ([] : List UInt8))) else (some false))) else (if a0_0 = 2 then ((impl_isFileName.f a0_1).bind fun t103 => (if t103 = true then ((impl_isFileName.f a0_2).bind fun t104 => (if t104 = true then (some (a0_3.toList == ([] : List UInt8))) else (some false))) else (some false))) else (if a0_0 = 3 then ((impl_isFileName.f a0_1).bind fun t105 => (if t105 = true then (if a0_2.toList = ([] : List UInt8) then (some (a0_3.toList == ([] : List UInt8))) else (some false)) else (some false))) else (some false)))) = some r := h
 clear h
 by_cases c2 : a0_0 = 1
 ·
  rw [if_pos c2] at H
  have c2b0 : (a0_0 == 1) = true := beq_iff_eq.mpr c2
  have c2b1 : (a0_0 != 1) = false := bne_eq_false_iff_eq.mpr c2
  clear c2
  replace H := Option.bind_eq_some_iff.mp H
  obtain ⟨t102, A30, H⟩ := H
  replace H : (if t102 = true then (some (a0_2.toList == ([] : List UInt8))) else (some false)) = some r := H
  have A3 := am A30
  clear A30
  by_cases c4 : t102 = true
  ·
   subst c4
   have H1 : (some (a0_2.toList == ([] : List UInt8))) = some r := by rw [if_pos rfl] at H; exact H
   clear H
   have H := H1
   clear H1
   obtain rfl := Option.some.inj H
   go_enter Try.func89, Try.ntmps89
   go_wp2_with (first | ((with_reducible refine qal (N := 1) rfl ?_); refine bxE (N := 1) (cs := #[.int .i64 a0_0, .string a0_1, .string a0_2, .string a0_3]) (t := 73) ?_; intro gb101 hg w5 hbox hb; have BK101 := am (hbox); have GW101 := am (sgE hg (au3 HB.out) : w.heap.size ≤ gb101); have GE101 := GW101; replace HB := am (qad (au3 HB.out) hb); clear hb hbox hg; have hcz6_0 : _ = some (Value.int .i64 a0_0) := bcE BK101.out 0; have hcz6_1 : _ = some (Value.string a0_1) := bcE BK101.out 1; have hcz6_2 : _ = some (Value.string a0_2) := bcE BK101.out 2; have hcz6_3 : _ = some (Value.string a0_3) := bcE BK101.out 3; have hfz6_0 := qaa BK101.out 0; have hfz6_1 := qaa BK101.out 1; have hfz6_2 := qaa BK101.out 2; have hfz6_3 := qaa BK101.out 3) | ((with_reducible refine qaj (f := 101) rfl ?_); refine qap (some 9) rfl rfl Try.func101 (by kernel_rfl) rfl #[.string a0_1] rfl au6 ?_; (with_reducible refine (impl_isFileName.calls a0_1 true _ A3.out).mono ?_); rintro e w' ⟨rfl, ⟨nd, rfl⟩⟩; refine ⟨_, rfl, ?_⟩))
   go_ret
   exact ⟨by first | rfl | (simp [qag, qah] <;> rfl) | (simp [*, qag, qah] <;> rfl), (au7 HB.out GE101.out)⟩
  ·
   replace c4 := Bool.eq_false_iff.mpr c4
   subst c4
   have H1 : (some false) = some r := by rw [if_neg (show ¬ (false = true) by decide)] at H; exact H
   clear H
   have H := H1
   clear H1
   obtain rfl := Option.some.inj H
   go_enter Try.func89, Try.ntmps89
   go_wp2_with (first | ((with_reducible refine qal (N := 1) rfl ?_); refine bxE (N := 1) (cs := #[.int .i64 a0_0, .string a0_1, .string a0_2, .string a0_3]) (t := 73) ?_; intro gb101 hg w7 hbox hb; have BK101 := am (hbox); have GW101 := am (sgE hg (au3 HB.out) : w.heap.size ≤ gb101); have GE101 := GW101; replace HB := am (qad (au3 HB.out) hb); clear hb hbox hg; have hcz8_0 : _ = some (Value.int .i64 a0_0) := bcE BK101.out 0; have hcz8_1 : _ = some (Value.string a0_1) := bcE BK101.out 1; have hcz8_2 : _ = some (Value.string a0_2) := bcE BK101.out 2; have hcz8_3 : _ = some (Value.string a0_3) := bcE BK101.out 3; have hfz8_0 := qaa BK101.out 0; have hfz8_1 := qaa BK101.out 1; have hfz8_2 := qaa BK101.out 2; have hfz8_3 := qaa BK101.out 3) | ((with_reducible refine qaj (f := 101) rfl ?_); refine qap (some 9) rfl rfl Try.func101 (by kernel_rfl) rfl #[.string a0_1] rfl au6 ?_; (with_reducible refine (impl_isFileName.calls a0_1 false _ A3.out).mono ?_); rintro e w' ⟨rfl, ⟨nd, rfl⟩⟩; refine ⟨_, rfl, ?_⟩))
   go_ret
   exact ⟨by first | rfl | (simp [qag, qah] <;> rfl) | (simp [*, qag, qah] <;> rfl), (au7 HB.out GE101.out)⟩
 ·
  rw [if_neg c2] at H
  have c2b0 : (a0_0 == 1) = false := beq_eq_false_iff_ne.mpr c2
  have c2b1 : (a0_0 != 1) = true := bne_iff_ne.mpr c2
  by_cases c9 : a0_0 = 2
  ·
   rw [if_pos c9] at H
   have c9b0 : (a0_0 == 2) = true := beq_iff_eq.mpr c9
   have c9b1 : (a0_0 != 2) = false := bne_eq_false_iff_eq.mpr c9
   clear c9
   replace H := Option.bind_eq_some_iff.mp H
   obtain ⟨t103, A100, H⟩ := H
   replace H : (if t103 = true then ((impl_isFileName.f a0_2).bind fun t104 => (if t104 = true then (some (a0_3.toList == ([] : List UInt8))) else (some false))) else (some false)) = some r := H
   have A10 := am A100
   clear A100
   by_cases c11 : t103 = true
   ·
    subst c11
    have H1 : ((impl_isFileName.f a0_2).bind fun t104 => (if t104 = true then (some (a0_3.toList == ([] : List UInt8))) else (some false))) = some r := by rw [if_pos rfl] at H; exact H
    clear H
    have H := H1
    clear H1
    replace H := Option.bind_eq_some_iff.mp H
    obtain ⟨t104, A120, H⟩ := H
    replace H : (if t104 = true then (some (a0_3.toList == ([] : List UInt8))) else (some false)) = some r := H
    have A12 := am A120
    clear A120
    by_cases c13 : t104 = true
    ·
     subst c13
     have H1 : (some (a0_3.toList == ([] : List UInt8))) = some r := by rw [if_pos rfl] at H; exact H
     clear H
     have H := H1
     clear H1
     obtain rfl := Option.some.inj H
     go_enter Try.func89, Try.ntmps89
     go_wp2_with (first | ((with_reducible refine qal (N := 1) rfl ?_); refine bxE (N := 1) (cs := #[.int .i64 a0_0, .string a0_1, .string a0_2, .string a0_3]) (t := 73) ?_; intro gb101 hg w14 hbox hb; have BK101 := am (hbox); have GW101 := am (sgE hg (au3 HB.out) : w.heap.size ≤ gb101); have GE101 := GW101; replace HB := am (qad (au3 HB.out) hb); clear hb hbox hg; have hcz15_0 : _ = some (Value.int .i64 a0_0) := bcE BK101.out 0; have hcz15_1 : _ = some (Value.string a0_1) := bcE BK101.out 1; have hcz15_2 : _ = some (Value.string a0_2) := bcE BK101.out 2; have hcz15_3 : _ = some (Value.string a0_3) := bcE BK101.out 3; have hfz15_0 := qaa BK101.out 0; have hfz15_1 := qaa BK101.out 1; have hfz15_2 := qaa BK101.out 2; have hfz15_3 := qaa BK101.out 3) | ((with_reducible refine qaj (f := 101) rfl ?_); refine qap (some 19) rfl rfl Try.func101 (by kernel_rfl) rfl #[.string a0_1] rfl au6 ?_; (with_reducible refine (impl_isFileName.calls a0_1 true _ A10.out).mono ?_); rintro e w' ⟨rfl, ⟨nd, rfl⟩⟩; refine ⟨_, rfl, ?_⟩) | (go_at_call 101; (with_reducible refine (impl_isFileName.calls a0_2 true _ A12.out).mono ?_); rintro e w' ⟨rfl, ⟨nd, rfl⟩⟩))
     go_ret
     exact ⟨by first | rfl | (simp [qag, qah] <;> rfl) | (simp [*, qag, qah] <;> rfl), (au7 HB.out GE101.out)⟩
    ·
     replace c13 := Bool.eq_false_iff.mpr c13
     subst c13
     have H1 : (some false) = some r := by rw [if_neg (show ¬ (false = true) by decide)] at H; exact H
     clear H
     have H := H1
     clear H1
     obtain rfl := Option.some.inj H
     go_enter Try.func89, Try.ntmps89
     go_wp2_with (first | ((with_reducible refine qal (N := 1) rfl ?_); refine bxE (N := 1) (cs := #[.int .i64 a0_0, .string a0_1, .string a0_2, .string a0_3]) (t := 73) ?_; intro gb101 hg w16 hbox hb; have BK101 := am (hbox); have GW101 := am (sgE hg (au3 HB.out) : w.heap.size ≤ gb101); have GE101 := GW101; replace HB := am (qad (au3 HB.out) hb); clear hb hbox hg; have hcz17_0 : _ = some (Value.int .i64 a0_0) := bcE BK101.out 0; have hcz17_1 : _ = some (Value.string a0_1) := bcE BK101.out 1; have hcz17_2 : _ = some (Value.string a0_2) := bcE BK101.out 2; have hcz17_3 : _ = some (Value.string a0_3) := bcE BK101.out 3; have hfz17_0 := qaa BK101.out 0; have hfz17_1 := qaa BK101.out 1; have hfz17_2 := qaa BK101.out 2; have hfz17_3 := qaa BK101.out 3) | ((with_reducible refine qaj (f := 101) rfl ?_); refine qap (some 19) rfl rfl Try.func101 (by kernel_rfl) rfl #[.string a0_1] rfl au6 ?_; (with_reducible refine (impl_isFileName.calls a0_1 true _ A10.out).mono ?_); rintro e w' ⟨rfl, ⟨nd, rfl⟩⟩; refine ⟨_, rfl, ?_⟩) | (go_at_call 101; (with_reducible refine (impl_isFileName.calls a0_2 false _ A12.out).mono ?_); rintro e w' ⟨rfl, ⟨nd, rfl⟩⟩))
     go_ret
     exact ⟨by first | rfl | (simp [qag, qah] <;> rfl) | (simp [*, qag, qah] <;> rfl), (au7 HB.out GE101.out)⟩
   ·
    replace c11 := Bool.eq_false_iff.mpr c11
    subst c11
    have H1 : (some false) = some r := by rw [if_neg (show ¬ (false = true) by decide)] at H; exact H
    clear H
    have H := H1
    clear H1
    obtain rfl := Option.some.inj H
    go_enter Try.func89, Try.ntmps89
    go_wp2_with (first | ((with_reducible refine qal (N := 1) rfl ?_); refine bxE (N := 1) (cs := #[.int .i64 a0_0, .string a0_1, .string a0_2, .string a0_3]) (t := 73) ?_; intro gb101 hg w18 hbox hb; have BK101 := am (hbox); have GW101 := am (sgE hg (au3 HB.out) : w.heap.size ≤ gb101); have GE101 := GW101; replace HB := am (qad (au3 HB.out) hb); clear hb hbox hg; have hcz19_0 : _ = some (Value.int .i64 a0_0) := bcE BK101.out 0; have hcz19_1 : _ = some (Value.string a0_1) := bcE BK101.out 1; have hcz19_2 : _ = some (Value.string a0_2) := bcE BK101.out 2; have hcz19_3 : _ = some (Value.string a0_3) := bcE BK101.out 3; have hfz19_0 := qaa BK101.out 0; have hfz19_1 := qaa BK101.out 1; have hfz19_2 := qaa BK101.out 2; have hfz19_3 := qaa BK101.out 3) | ((with_reducible refine qaj (f := 101) rfl ?_); refine qap (some 19) rfl rfl Try.func101 (by kernel_rfl) rfl #[.string a0_1] rfl au6 ?_; (with_reducible refine (impl_isFileName.calls a0_1 false _ A10.out).mono ?_); rintro e w' ⟨rfl, ⟨nd, rfl⟩⟩; refine ⟨_, rfl, ?_⟩))
    go_ret
    exact ⟨by first | rfl | (simp [qag, qah] <;> rfl) | (simp [*, qag, qah] <;> rfl), (au7 HB.out GE101.out)⟩
  ·
   rw [if_neg c9] at H
   have c9b0 : (a0_0 == 2) = false := beq_eq_false_iff_ne.mpr c9
   have c9b1 : (a0_0 != 2) = true := bne_iff_ne.mpr c9
   by_cases c20 : a0_0 = 3
   ·
    rw [if_pos c20] at H
    have c20b0 : (a0_0 == 3) = true := beq_iff_eq.mpr c20
    have c20b1 : (a0_0 != 3) = false := bne_eq_false_iff_eq.mpr c20
    clear c20
    replace H := Option.bind_eq_some_iff.mp H
    obtain ⟨t105, A210, H⟩ := H
    replace H : (if t105 = true then (if a0_2.toList = ([] : List UInt8) then (some (a0_3.toList == ([] : List UInt8))) else (some false)) else (some false)) = some r := H
    have A21 := am A210
    clear A210
    by_cases c22 : t105 = true
    ·
     subst c22
     have H1 : (if a0_2.toList = ([] : List UInt8) then (some (a0_3.toList == ([] : List UInt8))) else (some false)) = some r := by rw [if_pos rfl] at H; exact H
     clear H
     have H := H1
     clear H1
     by_cases c23 : a0_2.toList = ([] : List UInt8)
     ·
      rw [if_pos c23] at H
      have c23b0 : (a0_2.toList == ([] : List UInt8)) = true := beq_iff_eq.mpr c23
      have c23b1 : (a0_2.toList != ([] : List UInt8)) = false := bne_eq_false_iff_eq.mpr c23
      clear c23
      obtain rfl := Option.some.inj H
      go_enter Try.func89, Try.ntmps89
      go_wp2_with (first | ((with_reducible refine qal (N := 1) rfl ?_); refine bxE (N := 1) (cs := #[.int .i64 a0_0, .string a0_1, .string a0_2, .string a0_3]) (t := 73) ?_; intro gb101 hg w24 hbox hb; have BK101 := am (hbox); have GW101 := am (sgE hg (au3 HB.out) : w.heap.size ≤ gb101); have GE101 := GW101; replace HB := am (qad (au3 HB.out) hb); clear hb hbox hg; have hcz25_0 : _ = some (Value.int .i64 a0_0) := bcE BK101.out 0; have hcz25_1 : _ = some (Value.string a0_1) := bcE BK101.out 1; have hcz25_2 : _ = some (Value.string a0_2) := bcE BK101.out 2; have hcz25_3 : _ = some (Value.string a0_3) := bcE BK101.out 3; have hfz25_0 := qaa BK101.out 0; have hfz25_1 := qaa BK101.out 1; have hfz25_2 := qaa BK101.out 2; have hfz25_3 := qaa BK101.out 3) | ((with_reducible refine qaj (f := 101) rfl ?_); refine qap (some 34) rfl rfl Try.func101 (by kernel_rfl) rfl #[.string a0_1] rfl au6 ?_; (with_reducible refine (impl_isFileName.calls a0_1 true _ A21.out).mono ?_); rintro e w' ⟨rfl, ⟨nd, rfl⟩⟩; refine ⟨_, rfl, ?_⟩))
      go_ret
      exact ⟨by first | rfl | (simp [qag, qah] <;> rfl) | (simp [*, qag, qah] <;> rfl), (au7 HB.out GE101.out)⟩
     ·
      rw [if_neg c23] at H
      have c23b0 : (a0_2.toList == ([] : List UInt8)) = false := beq_eq_false_iff_ne.mpr c23
      have c23b1 : (a0_2.toList != ([] : List UInt8)) = true := bne_iff_ne.mpr c23
      obtain rfl := Option.some.inj H
      go_enter Try.func89, Try.ntmps89
      go_wp2_with (first | ((with_reducible refine qal (N := 1) rfl ?_); refine bxE (N := 1) (cs := #[.int .i64 a0_0, .string a0_1, .string a0_2, .string a0_3]) (t := 73) ?_; intro gb101 hg w26 hbox hb; have BK101 := am (hbox); have GW101 := am (sgE hg (au3 HB.out) : w.heap.size ≤ gb101); have GE101 := GW101; replace HB := am (qad (au3 HB.out) hb); clear hb hbox hg; have hcz27_0 : _ = some (Value.int .i64 a0_0) := bcE BK101.out 0; have hcz27_1 : _ = some (Value.string a0_1) := bcE BK101.out 1; have hcz27_2 : _ = some (Value.string a0_2) := bcE BK101.out 2; have hcz27_3 : _ = some (Value.string a0_3) := bcE BK101.out 3; have hfz27_0 := qaa BK101.out 0; have hfz27_1 := qaa BK101.out 1; have hfz27_2 := qaa BK101.out 2; have hfz27_3 := qaa BK101.out 3) | ((with_reducible refine qaj (f := 101) rfl ?_); refine qap (some 34) rfl rfl Try.func101 (by kernel_rfl) rfl #[.string a0_1] rfl au6 ?_; (with_reducible refine (impl_isFileName.calls a0_1 true _ A21.out).mono ?_); rintro e w' ⟨rfl, ⟨nd, rfl⟩⟩; refine ⟨_, rfl, ?_⟩))
      go_ret
      exact ⟨by first | rfl | (simp [qag, qah] <;> rfl) | (simp [*, qag, qah] <;> rfl), (au7 HB.out GE101.out)⟩
    ·
     replace c22 := Bool.eq_false_iff.mpr c22
     subst c22
     have H1 : (some false) = some r := by rw [if_neg (show ¬ (false = true) by decide)] at H; exact H
     clear H
     have H := H1
     clear H1
     obtain rfl := Option.some.inj H
     go_enter Try.func89, Try.ntmps89
     go_wp2_with (first | ((with_reducible refine qal (N := 1) rfl ?_); refine bxE (N := 1) (cs := #[.int .i64 a0_0, .string a0_1, .string a0_2, .string a0_3]) (t := 73) ?_; intro gb101 hg w28 hbox hb; have BK101 := am (hbox); have GW101 := am (sgE hg (au3 HB.out) : w.heap.size ≤ gb101); have GE101 := GW101; replace HB := am (qad (au3 HB.out) hb); clear hb hbox hg; have hcz29_0 : _ = some (Value.int .i64 a0_0) := bcE BK101.out 0; have hcz29_1 : _ = some (Value.string a0_1) := bcE BK101.out 1; have hcz29_2 : _ = some (Value.string a0_2) := bcE BK101.out 2; have hcz29_3 : _ = some (Value.string a0_3) := bcE BK101.out 3; have hfz29_0 := qaa BK101.out 0; have hfz29_1 := qaa BK101.out 1; have hfz29_2 := qaa BK101.out 2; have hfz29_3 := qaa BK101.out 3) | ((with_reducible refine qaj (f := 101) rfl ?_); refine qap (some 34) rfl rfl Try.func101 (by kernel_rfl) rfl #[.string a0_1] rfl au6 ?_; (with_reducible refine (impl_isFileName.calls a0_1 false _ A21.out).mono ?_); rintro e w' ⟨rfl, ⟨nd, rfl⟩⟩; refine ⟨_, rfl, ?_⟩))
     go_ret
     exact ⟨by first | rfl | (simp [qag, qah] <;> rfl) | (simp [*, qag, qah] <;> rfl), (au7 HB.out GE101.out)⟩
   ·
    rw [if_neg c20] at H
    have c20b0 : (a0_0 == 3) = false := beq_eq_false_iff_ne.mpr c20
    have c20b1 : (a0_0 != 3) = true := bne_iff_ne.mpr c20
    obtain rfl := Option.some.inj H
    go_enter Try.func89, Try.ntmps89
    go_wp2_with (first | ((with_reducible refine qal (N := 1) rfl ?_); refine bxE (N := 1) (cs := #[.int .i64 a0_0, .string a0_1, .string a0_2, .string a0_3]) (t := 73) ?_; intro gb101 hg w30 hbox hb; have BK101 := am (hbox); have GW101 := am (sgE hg (au3 HB.out) : w.heap.size ≤ gb101); have GE101 := GW101; replace HB := am (qad (au3 HB.out) hb); clear hb hbox hg; have hcz31_0 : _ = some (Value.int .i64 a0_0) := bcE BK101.out 0; have hcz31_1 : _ = some (Value.string a0_1) := bcE BK101.out 1; have hcz31_2 : _ = some (Value.string a0_2) := bcE BK101.out 2; have hcz31_3 : _ = some (Value.string a0_3) := bcE BK101.out 3; have hfz31_0 := qaa BK101.out 0; have hfz31_1 := qaa BK101.out 1; have hfz31_2 := qaa BK101.out 2; have hfz31_3 := qaa BK101.out 3))
    go_ret
    exact ⟨by first | rfl | (simp [qag, qah] <;> rfl) | (simp [*, qag, qah] <;> rfl), (au7 HB.out GE101.out)⟩

end

section
def idxP {α : Type} (p : α → Bool) (xs : List α) : Int := match xs.findIdx? p with
 | some i => (i : Int)
 | none => -1

end

section
def PredBy {α : Type} (g : Nat) (lb : Array Value) (enc : α → Value) (p : α → Bool) (B : Nat) (w : World) (xs : List α) : Prop :=
 ∀ x ∈ xs, ∀ W, Below B w W → Calls Try.prog g (#[enc x] ++ lb) W fun e W' => e = .returned (.bool (p x)) ∧ Below W.heap.size W W'
theorem qdw {α : Type} (z : α) (xs : List α) (i : Int) (h0 : 0 ≤ i) (h1 : i < xs.length) : xs.getD i.toNat z ∈ xs := by
 have h : i.toNat < xs.length := by omega
 rw [List.getD_eq_getElem?_getD, List.getElem?_eq_getElem h]
 exact List.getElem_mem h
theorem idxG_hit {α : Type} (z : α) (p : α → Bool) (xs : List α) (i : Int) (h0 : 0 ≤ i) (h1 : i < xs.length) (hp : p (xs.getD i.toNat z) = true) (hn : ∀ j : Nat, j < i.toNat → p (xs.getD j z) = false) : idxP p xs = i := by
 have h : i.toNat < xs.length := by omega
 have e : xs.findIdx? p = some i.toNat := by
  rw [List.findIdx?_eq_some_iff_getElem]
  refine ⟨h, ?_, ?_⟩
  ·
   rw [List.getD_eq_getElem?_getD, List.getElem?_eq_getElem h] at hp
   exact hp
  ·
   intro j hj
   have := hn j hj
   rw [List.getD_eq_getElem?_getD, List.getElem?_eq_getElem (by omega)] at this
   simp at this ⊢
   exact this
 unfold idxP
 rw [e]
 show ((i.toNat : Nat) : Int) = i
 omega
theorem idxG_miss {α : Type} (z : α) (p : α → Bool) (xs : List α) (i : Int) (h1 : (xs.length : Int) ≤ i) (hn : ∀ j : Nat, j < i.toNat → p (xs.getD j z) = false) : idxP p xs = -1 := by
 have e : xs.findIdx? p = none := by
  rw [List.findIdx?_eq_none_iff]
  intro x hx
  obtain ⟨j, hj, rfl⟩ := List.getElem_of_mem hx
  have := hn j (by omega)
  rw [List.getD_eq_getElem?_getD, List.getElem?_eq_getElem hj] at this
  exact this
 unfold idxP
 rw [e]
theorem missG_step {α : Type} (z : α) (p : α → Bool) (xs : List α) (i : Int) (h0 : 0 ≤ i) (hp : p (xs.getD i.toNat z) = false) (hn : ∀ j : Nat, j < i.toNat → p (xs.getD j z) = false) : ∀ j : Nat, j < (i + 1).toNat → p (xs.getD j z) = false := by
 intro j hj
 by_cases e : (j : Int) = i
 · rw [show j = i.toNat by omega]; exact hp
 · exact hn j (by omega)
def CmpBy {α : Type} (g : Nat) (lb : Array Value) (enc : α → Value) (tv : Value) (cf : α → Int) (B : Nat) (w : World) (xs : List α) : Prop :=
 ∀ x ∈ xs, ∀ W, Below B w W → Calls Try.prog g (#[enc x, tv] ++ lb) W fun e W' => e = .returned (.int .i64 (cf x)) ∧ Below W.heap.size W W'
def cntLt {α : Type} (cf : α → Int) (xs : List α) : Nat := xs.countP (fun x => decide (cf x < 0))
def hitAt {α : Type} (z : α) (cf : α → Int) (xs : List α) : Bool := decide (cntLt cf xs < xs.length) && decide (cf (xs.getD (cntLt cf xs) z) = 0)
theorem countP_bound {α : Type} (p : α → Bool) (z : α) (l : List α) (i : Nat) (hi : i ≤ l.length) (h1 : ∀ t, t < i → p (l.getD t z) = true) (h2 : ∀ t, i ≤ t → t < l.length → p (l.getD t z) = false) : l.countP p = i := by
 conv => lhs; rw [← List.take_append_drop i l]
 rw [List.countP_append]
 have e1 : (l.take i).countP p = i := by
  rw [List.countP_eq_length.2]
  · rw [List.length_take]; omega
  ·
   intro a ha
   obtain ⟨t, ht, rfl⟩ := List.getElem_of_mem ha
   rw [List.length_take] at ht
   have := h1 t (by omega)
   rw [List.getD_eq_getElem?_getD, List.getElem?_eq_getElem (by omega)] at this
   rw [List.getElem_take]
   exact this
 have e2 : (l.drop i).countP p = 0 := by
  rw [List.countP_eq_zero]
  intro a ha
  obtain ⟨t, ht, rfl⟩ := List.getElem_of_mem ha
  rw [List.length_drop] at ht
  have := h2 (i + t) (by omega) (by omega)
  rw [List.getD_eq_getElem?_getD, List.getElem?_eq_getElem (by omega)] at this
  rw [List.getElem_drop]
  simpa using this
 omega

end

section
set_option maxHeartbeats 4000000 in
set_option maxRecDepth 100000 in
theorem lib_bs_File (g : Nat) (lb : Array Value) (tv : Value) (cf : S80 → Int) (eg : ∀ args w, (callFunc g args).run Try.prog w = .ok (.enter g args) w)
 (A : Option Addr) (c : Nat) (xs : List S80) (w : World) (hr : Kd.C k80 w A xs.length xs) (hsz : xs.length < 4611686018427387904) (hp : CmpBy g lb (fun x => Value.agg #[.string x.f0, .string x.f1]) tv cf w.heap.size w xs)
 (hmono : ∀ a b : Nat, a ≤ b → b < xs.length → cf (xs.getD b z80) < 0 → cf (xs.getD a z80) < 0) :
 Calls Try.prog 118 #[.slice A xs.length c, tv, .func (.func g) #[] lb] w fun e w' => e = .returned (.tuple #[.int .i64 (cntLt cf xs : Nat), .bool (hitAt z80 cf xs)]) ∧ Below w.heap.size w w' := by
 have HR := Aside0.mk hr
 have HP := Aside0.mk hp
 have M := Aside0.mk hmono
 have hu := Try.underlying80
 clear hr hp hmono
 generalize hcnt : cntLt cf xs = cnt
 have CN := Aside0.mk hcnt
 generalize hfin : hitAt z80 cf xs = fin
 have FIN := Aside0.mk hfin
 clear hcnt hfin
 have hget : Aside0 (∀ (t : Nat), xs.getD t z80 = qai xs (t : Int)) := ⟨fun t => by unfold qai; rw [Int.toNat_natCast]⟩
 have hcall : Aside0 (∀ (t : Nat), t < xs.length → ∀ W, Below w.heap.size w W → Calls Try.prog g (#[(fun (x : S80) => Value.agg #[.string x.f0, .string x.f1]) (qai xs (t : Int)), tv] ++ lb) W fun e W' => e = .returned (.int .i64 (cf (qai xs (t : Int)))) ∧ Below W.heap.size W W') := ⟨fun t ht => HP.out _ (by rw [← hget.out t]; have := qdw z80 xs (t : Int) (by omega) (by omega); rwa [Int.toNat_natCast] at this)⟩
 go_enter Try.func118, Try.ntmps118
 go_wp2
 go_loopg [9, 10] xs.length (fun kx s9 s10 wr => ∃ lo hi : Nat, s9 = .int .i64 lo ∧ s10 = .int .i64 hi ∧ lo ≤ hi ∧ hi ≤ xs.length ∧ hi - lo ≤ kx ∧ Aside0 (Below w.heap.size w wr) ∧
  Aside0 ((∀ t, t < lo → cf (xs.getD t z80) < 0) ∧ (∀ t, hi ≤ t → t < xs.length → 0 ≤ cf (xs.getD t z80))))
 case atStart => exact ⟨0, xs.length, rfl, rfl, Nat.zero_le _, Nat.le_refl _, by omega, ⟨Below.refl _ _⟩, ⟨fun t ht => absurd ht (Nat.not_lt_zero _), fun t h1 h2 => by omega⟩⟩
 case round =>
  obtain ⟨lo, hi, rfl, rfl, hlh, hin, hg, HB, I⟩ := hrel
  by_cases hlt : lo < hi
  ·
   obtain ⟨ad, e1, hx_0, hx_1⟩ := qax HR.out (((lo + hi) / 2 : Nat) : Int) (by omega) (by omega)
   cases e1
   rw [Int.toNat_natCast] at *
   replace hx_0 := qac HB.out hx_0; replace hx_1 := qac HB.out hx_1
   have hc := hcall.out ((lo + hi) / 2) (by omega)
   have Y := hget.out ((lo + hi) / 2)
   generalize qai xs (((lo + hi) / 2 : Nat) : Int) = y at *
   have HC := Aside0.mk hc
   have HY := Aside0.mk Y
   clear hc Y
   by_cases hyx : cf y < 0
   ·
    go_wp2_with (go_at_fn g; refine (HC.out _ ?hb).mono ?_; (case hb => exact HB.out); rintro e w' ⟨rfl, hb⟩)
    go_roundg (hi - ((lo + hi) / 2 + 1))
    case measure => omega
    case rel =>
     exact ⟨(lo + hi) / 2 + 1, hi, by rw [show ((lo : Int) + (hi : Int)) / 2 + 1 = (((lo + hi) / 2 + 1 : Nat) : Int) by omega], rfl, by omega, hin, Nat.le_refl _, ⟨qad HB.out hb⟩, ⟨fun t ht => M.out t ((lo + hi) / 2) (by omega) (by omega) (by rw [HY.out]; exact hyx), I.out.2⟩⟩
   ·
    go_wp2_with (go_at_fn g; refine (HC.out _ ?hb).mono ?_; (case hb => exact HB.out); rintro e w' ⟨rfl, hb⟩)
    go_roundg ((lo + hi) / 2 - lo)
    case measure => omega
    case rel =>
     exact ⟨lo, (lo + hi) / 2, rfl, by rw [show ((lo : Int) + (hi : Int)) / 2 = (((lo + hi) / 2 : Nat) : Int) by omega], by omega, by omega, Nat.le_refl _, ⟨qad HB.out hb⟩, ⟨I.out.1, fun t ht htn => Int.not_lt.1 fun h => by have := M.out ((lo + hi) / 2) t ht htn h; rw [HY.out] at this; omega⟩⟩
  ·
   obtain rfl : hi = lo := by omega
   have ecnt : cnt = hi := by
    rw [← CN.out]
    exact countP_bound _ z80 xs hi hin (fun t ht => decide_eq_true (I.out.1 t ht)) (fun t h3 h4 => decide_eq_false (by have := I.out.2 t h3 h4; omega))
   subst ecnt
   by_cases hn : cnt < xs.length
   ·
    obtain ⟨ad, e1, hx_0, hx_1⟩ := qax HR.out (cnt : Int) (by omega) (by omega)
    cases e1
    rw [Int.toNat_natCast] at *
    replace hx_0 := qac HB.out hx_0; replace hx_1 := qac HB.out hx_1
    have hc := hcall.out cnt hn
    have Y := hget.out cnt
    generalize qai xs (cnt : Int) = y at *
    have HC := Aside0.mk hc
    have HY := Aside0.mk Y
    clear hc Y
    by_cases hyx : cf y = 0
    ·
     go_wp2_with (go_at_fn g; refine (HC.out _ ?hb).mono ?_; (case hb => exact HB.out); rintro e w' ⟨rfl, hb⟩)
     go_ret2
     exact ⟨by rw [← FIN.out]; unfold hitAt; rw [CN.out, HY.out]; simp [hn, hyx], qad HB.out hb⟩
    ·
     go_wp2_with (go_at_fn g; refine (HC.out _ ?hb).mono ?_; (case hb => exact HB.out); rintro e w' ⟨rfl, hb⟩)
     go_ret2
     exact ⟨by rw [← FIN.out]; unfold hitAt; rw [CN.out, HY.out]; simp [hn, hyx], qad HB.out hb⟩
   ·
    go_wp2
    go_ret2
    exact ⟨by rw [← FIN.out]; unfold hitAt; rw [CN.out]; simp [hn], HB.out⟩

end

section
set_option maxHeartbeats 4000000 in
set_option maxRecDepth 100000 in
theorem lib_insEnd_File (base : Nat) (v : Value) (n : Nat) (cs vs : List Value) (vb : Nat) (w : World) (ho : w.ownsRow base 80 2 v n cs) (cv : Array Value) (vc : Nat) (hvb : w.heap[vb]? = some (.cells cv 80 (0, 0))) (hvs : ∀ (j : Nat) (u : Value), vs[j]? = some u → cv[j]? = some u) (hvl : vs.length = 2) (h1v : ∀ u ∈ vs, u.oneCell' = true)
 (hbase : base ≤ w.heap.size) (hl : (n + 1) * 32 ≤ 140737488355328) :
 Calls Try.prog 121 #[v, .int .i64 n, .slice (some ⟨vb, 0, none⟩) 1 vc] w fun e w' => ∃ v', e = .returned v' ∧ w'.ownsRow base 80 2 v' (n + 1) (cs ++ vs) ∧ w.grownBy w' v.ownBlock ∧ (v'.ownBlock = v.ownBlock ∨ ∃ b, v'.ownBlock = some b ∧ w.heap.size ≤ b) := by
 obtain ⟨i0, hi0, hz0, hzs, hzb⟩ := info_parts qch
 have hnews : ∀ j u, vs[j]? = some u → w.cell? ((⟨vb, 0, none⟩ : Addr).add j) = some u := fun j u hj => by
  rw [qcb, qak hvb]
  exact hvs j u hj
 have hu := Try.underlying28
 obtain ⟨A, c, rfl⟩ := own_slice ho
 have HO := Aside0.mk ho
 have HN := Aside0.mk hnews
 have H1 := Aside0.mk h1v
 have HV := Aside0.mk hvl
 have hn : n ≤ 9223372036854775806 := by omega
 have hnc : n ≤ c := by
  rcases ho.2 with ⟨hv, h0⟩ | ⟨g, cap, cur, hv, _, _, hle, _⟩
  · omega
  ·
   injection hv with _ _ hc
   omega
 have hcm : c ≤ 9223372036854775807 := by
  rcases ho.2 with ⟨hv, h0⟩ | ⟨g, cap, cur, hv, _, _, _, hle, _⟩
  ·
   injection hv with _ _ hc
   omega
  ·
   injection hv with _ _ hc
   unfold maxLen at hle
   omega
 have hl63 : n + 1 ≤ maxLen := by unfold maxLen; omega
 clear ho hnews h1v hvl hvb hvs
 go_enter Try.func121, Try.ntmps121
 cases A with
 | none =>
  go_wp2_with (at_builtin; refine wpList_append_own_at _ rfl _ _ 28 rfl base 80 i0 (.agg #[(.string ⟨#[]⟩), (.string ⟨#[]⟩)]) 2 32 hu hi0 hz0 hzs hzb rfl (by decide) _ n cs rfl HO.out ⟨vb, 0, none⟩ 1 vc vs rfl HV.out HN.out H1.out hl63 hl hbase ?_; intro v1 w1 ho1 hg1 _ hat)
  go_ret
  exact ⟨_, rfl, ho1, hg1, hat.imp id (fun h => ⟨_, h, Nat.le_refl _⟩)⟩
 | some a =>
  obtain ⟨ab, ao, asp⟩ := a
  go_wp2_with (at_builtin; refine wpList_append_own_at _ rfl _ _ 28 rfl base 80 i0 (.agg #[(.string ⟨#[]⟩), (.string ⟨#[]⟩)]) 2 32 hu hi0 hz0 hzs hzb rfl (by decide) _ n cs rfl HO.out ⟨vb, 0, none⟩ 1 vc vs rfl HV.out HN.out H1.out hl63 hl hbase ?_; intro v1 w1 ho1 hg1 _ hat)
  all_goals
   go_ret
   exact ⟨_, rfl, ho1, hg1, hat.imp id (fun h => ⟨_, h, Nat.le_refl _⟩)⟩
set_option maxHeartbeats 4000000 in
set_option maxRecDepth 100000 in
theorem lib_insRoom_File (base g c i n : Nat) (cur : Array Value) (cs vs : List Value) (vb : Nat) (w : World) (hg : w.heap[g]? = some (.cells cur 80 (0, 0))) (hbg : base ≤ g) (hcap : cur.size = c * 2) (hc63 : c ≤ maxLen) (hin : i < n) (hroom : n + 1 ≤ c)
 (hcl : cs.length = n * 2) (hcs : cur.toList.take (n * 2) = cs) (h1c : ∀ u ∈ cs, u.oneCell' = true)
 (cv : Array Value) (vc : Nat) (hvb : w.heap[vb]? = some (.cells cv 80 (0, 0))) (hvs : ∀ (j : Nat) (u : Value), vs[j]? = some u → cv[j]? = some u) (hvl : vs.length = 2) (h1v : ∀ u ∈ vs, u.oneCell' = true) (hne : vb ≠ g) :
 Calls Try.prog 121 #[.slice (some ⟨g, 0, none⟩) n c, .int .i64 i, .slice (some ⟨vb, 0, none⟩) 1 vc] w fun e w' => e = .returned (.slice (some ⟨g, 0, none⟩) (n + 1) c) ∧ w'.ownsRow base 80 2 (.slice (some ⟨g, 0, none⟩) (n + 1) c) (n + 1) (cs.take (i * 2) ++ (vs ++ cs.drop (i * 2))) ∧ w.grownBy w' (some g) := by
 have hu := Try.underlying28
 have hsz : (Try.prog.info? 80).map (·.size) = some 2 := by
  obtain ⟨i0, hi0, _, h1, _⟩ := info_parts qch
  rw [hi0]; simp [h1]
 have hlen : cur.toList.length = c * 2 := by rw [Array.length_toList]; exact hcap
 have hcell : ∀ j u, cs[j]? = some u → cur[j]? = some u := fun j u hj => by
  rw [← hcs, List.getElem?_take] at hj
  split at hj
  · simpa using hj
  · cases hj
 have hsa : w.shape? vb = some (80, cv.size) := by simp [World.shape?, hvb]
 have hsb : w.shape? g = some (80, c * 2) := by simp [World.shape?, hg, hcap]
 have hov : ∀ lb cb, (callFunc 133 #[.slice (some ⟨vb, 0, none⟩) 1 vc, .slice (some ⟨g, (i + 1) * 2, none⟩) lb cb]).run Try.prog w = .ok (.value (.bool false)) w := fun lb cb => by
  rw [run_callFunc_extern Try.func133 (by kernel_rfl) (by kernel_rfl) (by kernel_rfl) (e := Extern.SlicesOverlaps.overlaps #[28, 28] #[4]) (by kernel_rfl),
   Lib.run_overlaps_apart w 28 4 80 hu 2 Try.sizeOf80 ⟨vb, 0, none⟩ ⟨g, (i + 1) * 2, none⟩ 1 vc lb cb hne 80 80 cv.size (c * 2) hsa hsb (by omega) (qaa hvb 0) (qaa hvb cv.size)]
  rfl
 have hdl : (cs.drop (i * 2)).length = (n - i) * 2 := by rw [List.length_drop]; omega
 obtain ⟨R1, hR1⟩ : ∃ R1, R1 = (cur.toList.take ((i + 1) * 2) ++ cs.drop (i * 2) ++ cur.toList.drop ((i + 1) * 2 + (cs.drop (i * 2)).length)).toArray := ⟨_, rfl⟩
 have hR1l : R1.size = c * 2 := by
  rw [hR1]
  simp only [List.size_toArray, List.length_append, List.length_take, List.length_drop, hlen, hcl]
  omega
 have hcp1 : ∀ (W : World), W.heap = w.heap → ∀ ty dc sc, (Builtin.copy_ #[28, 28] ty #[.slice (some ⟨g, (i + 1) * 2, none⟩) (n - i) dc, .slice (some ⟨g, i * 2, none⟩) (n + 1 - i) sc]).run Try.prog W = .ok (goInt ((n - i : Nat) : Int)) (W.setRow g R1) := fun W hW ty dc sc => by
  have hgW : W.heap[g]? = some (.cells cur 80 (0, 0)) := by rw [hW]; exact hg
  have := qbg (P := Try.prog) W 28 28 ty 80 2 g ((i + 1) * 2) (n - i) dc ⟨g, i * 2, none⟩ (n + 1 - i) sc cur 80 (cs.drop (i * 2)) hu hsz hgW (by rw [hdl]; simp only [Nat.min_def]; split <;> omega)
   (fun j u hj => by
    rw [Addr.add_lit, qak hgW]
    rw [List.getElem?_drop] at hj
    exact hcell _ _ hj) (by rw [hdl, hcap]; omega) (fun u hu => h1c u (List.mem_of_mem_drop hu))
  rw [this, hR1, show Nat.min (n + 1 - i) (n - i) = n - i by simp only [Nat.min_def]; split <;> omega]
 obtain ⟨R2, hR2⟩ : ∃ R2, R2 = (R1.toList.take (i * 2) ++ vs ++ R1.toList.drop (i * 2 + vs.length)).toArray := ⟨_, rfl⟩
 have hcp2 : ∀ (W : World), W.heap = (w.setRow g R1).heap → ∀ ty dc, (Builtin.copy_ #[28, 28] ty #[.slice (some ⟨g, i * 2, none⟩) (n + 1 - i) dc, .slice (some ⟨vb, 0, none⟩) 1 vc]).run Try.prog W = .ok (goInt ((1 : Nat) : Int)) (W.setRow g R2) := fun W hW ty dc => by
  have hgW : W.heap[g]? = some (.cells R1 80 (0, 0)) := by rw [hW]; exact setRow_heap w g cur R1 _ _ hg
  have hvW : W.heap[vb]? = some (.cells cv 80 (0, 0)) := by rw [hW, setRow_other w g vb R1 hne]; exact hvb
  have := qbg (P := Try.prog) W 28 28 ty 80 2 g (i * 2) (n + 1 - i) dc ⟨vb, 0, none⟩ 1 vc R1 80 vs hu hsz hgW (by rw [hvl]; simp only [Nat.min_def]; split <;> omega)
   (fun j u hj => by
    rw [qcb, qak hvW]
    exact hvs j u hj) (by rw [hvl, hR1l]; omega) h1v
  rw [this, hR2, show Nat.min 1 (n + 1 - i) = 1 by simp only [Nat.min_def]; split <;> omega]
 have hR2l : R2.size = c * 2 := by
  rw [hR2]
  simp only [List.size_toArray, List.length_append, List.length_take, List.length_drop, Array.length_toList, hR1l, hvl]
  omega
 have hfin : R2.toList.take ((n + 1) * 2) = cs.take (i * 2) ++ (vs ++ cs.drop (i * 2)) := by
  have := splice_shift cur.toList cs vs (i * 2) 2 (by rw [hcl]; omega) hvl (by rw [hcl]; exact hcs) (by rw [hcl, hlen]; omega)
  rw [hcl, show n * 2 + 2 = (n + 1) * 2 by omega] at this
  rw [hR2, hR1]
  simpa only [show i * 2 + 2 = (i + 1) * 2 by omega] using this
 have FIN : Aside0 ((((w.drew).setRow g R1).setRow g R2).ownsRow base 80 2 (.slice (some ⟨g, 0, none⟩) (n + 1) c) (n + 1) (cs.take (i * 2) ++ (vs ++ cs.drop (i * 2)))) :=
  ⟨own_mk hbg (setRow_heap _ g R1 R2 _ _ (setRow_heap _ g cur R1 _ _ hg)) hroom hc63 (by omega) (by simpa using hfin) (by rw [← hfin, List.length_take, Array.length_toList, hR2l]; omega)⟩
 have GR : Aside0 (w.grownBy (((w.drew).setRow g R1).setRow g R2) (some g)) := ⟨qca (qca (qdp w _) (qbo _ g R1 _ (.inl rfl))) (qbo _ g R2 _ (.inl rfl))⟩
 have hz2 : ¬ ((i : Int) = (n : Int)) := by omega
 have hw1 : IntKind.i64.wrap ((i : Int) + 1) = (i : Int) + 1 := by unfold maxLen at hc63; rw [IntKind.wrap_i64]; omega
 have hb1 : (0 : Int) ≤ (i : Int) + 1 := by omega
 have hin' : i ≤ n := by omega
 have htn : ((i : Int) + 1).toNat = i + 1 := by omega
 have hb2 : ¬ (c = i + 1) := by omega
 have hb3 : (i : Int) ≤ (n : Int) + 1 := by omega
 have hb4 : ¬ (c = i) := by omega
 have hcm : c ≤ 9223372036854775807 := by unfold maxLen at hc63; omega
 have HC1 := Aside0.mk hcp1
 have HC2 := Aside0.mk hcp2
 clear hcp1 hcp2 hfin hR1 hR2 hR1l hR2l hsa hsb hcell hlen hcs h1c h1v hvb hvs hg hcap hdl hcl hvl hc63
 go_enter Try.func121, Try.ntmps121
 go_wp2_with (simp only [hov])
 go_region_law (refine step_copy_runI rfl _ _ 28 28 rfl _ _ (by simp [Act.eval, Act.put]) (by simp [Act.eval, Act.put]) (HC1.out w.drew rfl _ (c - (i + 1)) (c - i)) ?_)
 go_wp2_with fail
 rw [HC2.out (w.drew.setRow g R1) rfl]
 go_wp2
 go_ret
 exact ⟨rfl, FIN.out, GR.out⟩
set_option maxHeartbeats 4000000 in
set_option maxRecDepth 100000 in
theorem lib_insGrow_File (base g c i n : Nat) (cur : Array Value) (cs vs : List Value) (vb : Nat) (w : World) (hg : w.heap[g]? = some (.cells cur 80 (0, 0))) (hbase : base ≤ w.heap.size) (hcap : cur.size = c * 2) (hin : i < n) (hnc : n ≤ c) (hroom : c < n + 1) (hbig : (n + 1) * 32 ≤ 140737488355328)
 (hcl : cs.length = n * 2) (hcs : cur.toList.take (n * 2) = cs) (h1c : ∀ u ∈ cs, u.oneCell' = true)
 (cv : Array Value) (vc : Nat) (hvb : w.heap[vb]? = some (.cells cv 80 (0, 0))) (hvs : ∀ (j : Nat) (u : Value), vs[j]? = some u → cv[j]? = some u) (hvl : vs.length = 2) (h1v : ∀ u ∈ vs, u.oneCell' = true) :
 Calls Try.prog 121 #[.slice (some ⟨g, 0, none⟩) n c, .int .i64 i, .slice (some ⟨vb, 0, none⟩) 1 vc] w fun e w' => ∃ v', e = .returned v' ∧ w'.ownsRow base 80 2 v' (n + 1) (cs.take (i * 2) ++ (vs ++ cs.drop (i * 2))) ∧ w.grownBy w' none ∧ v'.ownBlock = some w.heap.size := by
 have hu := Try.underlying28
 have hui := Try.underlying3
 obtain ⟨i0, hi0, hz0, hzs, hzb⟩ := info_parts qch
 have hsz : (Try.prog.info? 80).map (·.size) = some 2 := by rw [hi0]; simp [hzs]
 have hlen : cur.toList.length = c * 2 := by rw [Array.length_toList]; exact hcap
 have hcell : ∀ j u, cs[j]? = some u → cur[j]? = some u := fun j u hj => by
  rw [← hcs, List.getElem?_take] at hj
  split at hj
  · simpa using hj
  · cases hj
 have hgw : g < w.heap.size := qan hg
 have hvw : vb < w.heap.size := qan hvb
 have hkk : (n : Int) + 1 - (i : Int) = ((n + 1 - i : Nat) : Int) := by omega
 have hik : i + (n + 1 - i) = n + 1 := by omega
 have hold : (Builtin.firstCells i0.size i (.slice (some ⟨g, 0, none⟩) i c)).run Try.prog w.drew = .ok (cs.take (i * 2)).toArray w.drew := by
  rw [hzs]
  exact run_firstCells_some w.drew 2 i ⟨g, 0, none⟩ i c (cs.take (i * 2)) (by rw [List.length_take]; omega) (fun j v hj => by
   rw [qcb]
   rw [List.getElem?_take] at hj
   split at hj
   · exact (qak hg j).trans (hcell j v hj)
   · cases hj)
 obtain ⟨G, hG⟩ : ∃ G, G = grownCap w (n + 1) c 80 := ⟨_, rfl⟩
 obtain ⟨ROW, hROW⟩ : ∃ ROW : Array Value, ROW = (cs.take (i * 2)).toArray ++ Builtin.zeroCells (Value.cells (.agg #[(.string ⟨#[]⟩), (.string ⟨#[]⟩)])) (n + 1 - i) ++ Builtin.zeroCells (Value.cells (.agg #[(.string ⟨#[]⟩), (.string ⟨#[]⟩)])) (G - (n + 1)) := ⟨_, rfl⟩
 have hrz : ∀ ty, (Builtin.append_ #[28, 3] ty #[.slice (some ⟨g, 0, none⟩) i c, .int .i64 ((n : Int) + 1 - (i : Int))]).run Try.prog w =
  .ok (.slice (some ⟨w.heap.size, 0, none⟩) (n + 1) G) (w.drew.alloc (.cells ROW 80)) := fun ty => by
  have h := Lib.run_append_grow_zeros w 28 3 ty 80 i0 _ .i64 .i64 hu hui hi0 hz0 (some ⟨g, 0, none⟩) i c (cs.take (i * 2)) hold (n + 1 - i) (by omega) (by omega) (by omega) (by omega) (by rw [hzb]; omega) (by rw [hzb, hik]; exact growslice_fits hroom hbig)
  rw [hik] at h
  rw [hkk, hROW, hG]
  exact h
 have hGn : n + 1 ≤ G := by rw [hG]; exact grownCap_ge w _ _ _
 have hGm : G ≤ maxLen := by rw [hG]; exact grownCap_le_maxLen w (n + 1) c 80 (by unfold maxLen; omega)
 have hG63 : G ≤ 9223372036854775807 := by unfold maxLen at hGm; omega
 have hRl : ROW.size = G * 2 := by
  rw [hROW]
  simp [Builtin.zeroCells, Value.cells]
  omega
 have hN : (w.alloc (.cells ROW 80)).heap[w.heap.size]? = some (.cells ROW 80 (0, 0)) := qcj w _
 have hgN : (w.alloc (.cells ROW 80)).heap[g]? = some (.cells cur 80 (0, 0)) := (heap_alloc_old w _ hgw).trans hg
 have hvN : (w.alloc (.cells ROW 80)).heap[vb]? = some (.cells cv 80 (0, 0)) := (heap_alloc_old w _ hvw).trans hvb
 have hdl : (cs.drop (i * 2)).length = (n - i) * 2 := by rw [List.length_drop]; omega
 obtain ⟨R1, hR1⟩ : ∃ R1, R1 = (ROW.toList.take (i * 2) ++ vs ++ ROW.toList.drop (i * 2 + vs.length)).toArray := ⟨_, rfl⟩
 have hcp1 : ∀ (W : World), W.heap = (w.alloc (.cells ROW 80)).heap → ∀ ty dc, (Builtin.copy_ #[28, 28] ty #[.slice (some ⟨w.heap.size, i * 2, none⟩) (n + 1 - i) dc, .slice (some ⟨vb, 0, none⟩) 1 vc]).run Try.prog W = .ok (goInt ((1 : Nat) : Int)) (W.setRow w.heap.size R1) := fun W hW ty dc => by
  have hgW : W.heap[w.heap.size]? = some (.cells ROW 80 (0, 0)) := by rw [hW]; exact hN
  have hvW : W.heap[vb]? = some (.cells cv 80 (0, 0)) := by rw [hW]; exact hvN
  have := qbg (P := Try.prog) W 28 28 ty 80 2 w.heap.size (i * 2) (n + 1 - i) dc ⟨vb, 0, none⟩ 1 vc ROW 80 vs hu hsz hgW (by rw [hvl]; simp only [Nat.min_def]; split <;> omega)
   (fun j u hj => by
    rw [qcb, qak hvW]
    exact hvs j u hj) (by rw [hvl, hRl]; omega) h1v
  rw [this, hR1, show Nat.min 1 (n + 1 - i) = 1 by simp only [Nat.min_def]; split <;> omega]
 have hR1l : R1.size = G * 2 := by
  rw [hR1]
  simp only [List.size_toArray, List.length_append, List.length_take, List.length_drop, Array.length_toList, hRl, hvl]
  omega
 obtain ⟨R2, hR2⟩ : ∃ R2, R2 = (R1.toList.take ((i + 1) * 2) ++ cs.drop (i * 2) ++ R1.toList.drop ((i + 1) * 2 + (cs.drop (i * 2)).length)).toArray := ⟨_, rfl⟩
 have hcp2 : ∀ (W : World), W.heap = ((w.alloc (.cells ROW 80)).setRow w.heap.size R1).heap → ∀ ty dc sc, (Builtin.copy_ #[28, 28] ty #[.slice (some ⟨w.heap.size, (i + 1) * 2, none⟩) (n - i) dc, .slice (some ⟨g, i * 2, none⟩) (n - i) sc]).run Try.prog W = .ok (goInt ((n - i : Nat) : Int)) (W.setRow w.heap.size R2) := fun W hW ty dc sc => by
  have hgW : W.heap[w.heap.size]? = some (.cells R1 80 (0, 0)) := by rw [hW]; exact setRow_heap _ _ ROW R1 _ _ hN
  have hsW : W.heap[g]? = some (.cells cur 80 (0, 0)) := by rw [hW, setRow_other _ w.heap.size g R1 (by omega)]; exact hgN
  have := qbg (P := Try.prog) W 28 28 ty 80 2 w.heap.size ((i + 1) * 2) (n - i) dc ⟨g, i * 2, none⟩ (n - i) sc R1 80 (cs.drop (i * 2)) hu hsz hgW (by rw [hdl]; simp only [Nat.min_def]; split <;> omega)
   (fun j u hj => by
    rw [Addr.add_lit, qak hsW]
    rw [List.getElem?_drop] at hj
    exact hcell _ _ hj) (by rw [hdl, hR1l]; omega) (fun u hu => h1c u (List.mem_of_mem_drop hu))
  rw [this, hR2, show Nat.min (n - i) (n - i) = n - i by simp only [Nat.min_def]; split <;> omega]
 have hR2l : R2.size = G * 2 := by
  rw [hR2]
  simp only [List.size_toArray, List.length_append, List.length_take, List.length_drop, Array.length_toList, hR1l, hcl]
  omega
 have hRt : ROW.toList = cs.take (i * 2) ++ (Builtin.zeroCells (Value.cells (.agg #[(.string ⟨#[]⟩), (.string ⟨#[]⟩)])) (n + 1 - i) ++ Builtin.zeroCells (Value.cells (.agg #[(.string ⟨#[]⟩), (.string ⟨#[]⟩)])) (G - (n + 1))).toList := by rw [hROW]; simp
 have hfin : R2.toList.take ((n + 1) * 2) = cs.take (i * 2) ++ (vs ++ cs.drop (i * 2)) := by
  have := qej cs vs (Builtin.zeroCells (Value.cells (.agg #[(.string ⟨#[]⟩), (.string ⟨#[]⟩)])) (n + 1 - i) ++ Builtin.zeroCells (Value.cells (.agg #[(.string ⟨#[]⟩), (.string ⟨#[]⟩)])) (G - (n + 1))).toList (i * 2) 2 (by rw [hcl]; omega) hvl
  rw [← hRt, hcl, show n * 2 + 2 = (n + 1) * 2 by omega] at this
  rw [hR2, hR1]
  simpa only [show i * 2 + 2 = (i + 1) * 2 by omega] using this
 have FIN : Aside0 ((((w.alloc (.cells ROW 80)).setRow w.heap.size R1).setRow w.heap.size R2).ownsRow base 80 2 (.slice (some ⟨w.heap.size, 0, none⟩) (n + 1) G) (n + 1) (cs.take (i * 2) ++ (vs ++ cs.drop (i * 2)))) :=
  ⟨own_mk hbase (setRow_heap _ _ R1 R2 _ _ (setRow_heap _ _ ROW R1 _ _ hN)) hGn hGm (by omega) (by simpa using hfin) (by rw [← hfin, List.length_take, Array.length_toList, hR2l]; omega)⟩
 have GR : Aside0 (w.grownBy (((w.alloc (.cells ROW 80)).setRow w.heap.size R1).setRow w.heap.size R2) none) := ⟨qdi (qdi (World.grownBy_alloc w _ _) (Nat.le_refl _) R1 rfl) (Nat.le_refl _) R2 rfl⟩
 have hz2 : ¬ ((i : Int) = (n : Int)) := by omega
 have hz3 : (c : Int) < (n : Int) + 1 := by omega
 have hw1 : IntKind.i64.wrap ((i : Int) + 1) = (i : Int) + 1 := by rw [IntKind.wrap_i64]; omega
 have hb1 : (0 : Int) ≤ (i : Int) + 1 := by omega
 have hin' : i ≤ n := by omega
 have htn : ((i : Int) + 1).toNat = i + 1 := by omega
 have hGi : ¬ (G = i) := by omega
 have hGim : ¬ (G = i + 1) := by omega
 have hci : ¬ (c = i) := by omega
 have hb3 : (i : Int) ≤ (n : Int) := by omega
 have hn63 : n ≤ 4611686018427387904 := by omega
 have HC1 := Aside0.mk hcp1
 have HC2 := Aside0.mk hcp2
 clear hcp1 hcp2 hfin hR1 hR2 hR1l hR2l hcell hlen hcs h1c h1v hvb hvs hg hcap hdl hcl hvl hRt hN hgN hvN hRl hROW hG hold hkk hik hGm hgw hvw
 go_enter Try.func121, Try.ntmps121
 go_wp2_with (at_builtin; refine Lib.wpList_append_run _ rfl _ _ _ _ rfl _ _ rfl rfl _ _ (hrz _) ?_)
 rw [HC1.out ((w.alloc (.cells ROW 80)).drew) rfl]
 go_wp2
 go_region_law (refine step_copy_runI rfl _ _ 28 28 rfl _ _ (by simp [Act.eval, Act.put]) (by simp [Act.eval, Act.put]) (HC2.out (((w.alloc (.cells ROW 80)).drew.setRow w.heap.size R1).drew) rfl _ (G - (i + 1)) (c - i)) ?_)
 go_wp2
 go_ret
 exact ⟨_, rfl, FIN.out, ⟨GR.out.os, GR.out.tape, GR.out.output, GR.out.size, GR.out.block⟩, rfl⟩
theorem lib_insC_File (base : Nat) (v : Value) (n i : Nat) (cs vs : List Value) (vb : Nat) (w : World) (ho : w.ownsRow base 80 2 v n cs) (h1c : ∀ u ∈ cs, u.oneCell' = true) (hi : i ≤ n)
 (cv : Array Value) (vc : Nat) (hvb : w.heap[vb]? = some (.cells cv 80 (0, 0))) (hvs : ∀ (j : Nat) (u : Value), vs[j]? = some u → cv[j]? = some u) (hvl : vs.length = 2) (h1v : ∀ u ∈ vs, u.oneCell' = true) (hne : v.ownBlock ≠ some vb) (hbase : base ≤ w.heap.size) (hl : (n + 1) * 32 ≤ 140737488355328) :
 Calls Try.prog 121 #[v, .int .i64 i, .slice (some ⟨vb, 0, none⟩) 1 vc] w fun e w' => ∃ v', e = .returned v' ∧ w'.ownsRow base 80 2 v' (n + 1) (cs.take (i * 2) ++ (vs ++ cs.drop (i * 2))) ∧ w.grownBy w' v.ownBlock ∧ (v'.ownBlock = v.ownBlock ∨ ∃ b, v'.ownBlock = some b ∧ w.heap.size ≤ b) := by
 by_cases he : i = n
 ·
  subst he
  have hcl : cs.length = i * 2 := by have := ho.1; omega
  rw [List.take_of_length_le (by omega), List.drop_of_length_le (by omega), List.append_nil]
  exact lib_insEnd_File base v i cs vs vb w ho cv vc hvb hvs hvl h1v hbase hl
 ·
  obtain ⟨g, cap, cur, rfl, hbg, hg, hnc, hcm, hcap, hcs⟩ := qdq ho (by omega)
  have hcl : cs.length = n * 2 := by have := ho.1; omega
  have hne' : vb ≠ g := fun h => hne (by rw [h]; rfl)
  by_cases hroom : n + 1 ≤ cap
  ·
   refine (lib_insRoom_File base g cap i n cur cs vs vb w hg hbg (by omega) hcm (by omega) hroom hcl (by simpa using hcs) h1c cv vc hvb hvs hvl h1v hne').mono ?_
   rintro e w' ⟨rfl, h1, h2⟩
   exact ⟨_, rfl, h1, h2, .inl rfl⟩
  ·
   refine (lib_insGrow_File base g cap i n cur cs vs vb w hg hbase (by omega) (by omega) hnc (by omega) hl hcl (by simpa using hcs) h1c cv vc hvb hvs hvl h1v).mono ?_
   rintro e w' ⟨v', rfl, h1, h2, h3⟩
   exact ⟨_, rfl, h1, ⟨h2.os, h2.tape, h2.output, h2.size, fun k hk _ => h2.block k hk (by simp)⟩, .inr ⟨_, h3, Nat.le_refl _⟩⟩
theorem lib_ins_File (base : Nat) (v : Value) (n i : Nat) (cs vs : List Value) (vb : Nat) (w : World) (ho : w.ownsRow base 80 2 v n cs) (h1c : ∀ u ∈ cs, u.oneCell' = true) (hi : i ≤ n)
 (hvb : w.heap[vb]? = some (.cells vs.toArray 80 (0, 0))) (hvl : vs.length = 2) (h1v : ∀ u ∈ vs, u.oneCell' = true) (hne : v.ownBlock ≠ some vb) (hbase : base ≤ w.heap.size) (hl : (n + 1) * 32 ≤ 140737488355328) :
 Calls Try.prog 121 #[v, .int .i64 i, .slice (some ⟨vb, 0, none⟩) 1 1] w fun e w' => ∃ v', e = .returned v' ∧ w'.ownsRow base 80 2 v' (n + 1) (cs.take (i * 2) ++ (vs ++ cs.drop (i * 2))) ∧ w.grownBy w' v.ownBlock ∧ (v'.ownBlock = v.ownBlock ∨ ∃ b, v'.ownBlock = some b ∧ w.heap.size ≤ b) :=
 lib_insC_File base v n i cs vs vb w ho h1c hi vs.toArray 1 hvb (fun j u hj => by simpa using hj) hvl h1v hne hbase hl

end

section
def qcn (x : S80) : List Value := [.string x.f0, .string x.f1]
theorem qbt (x : S80) : (qcn x).length = 2 := rfl
theorem qdb (x : S80) : ∀ u ∈ qcn x, u.oneCell' = true := by
 intro u hu
 simp only [qcn, List.mem_cons, List.not_mem_nil, or_false] at hu
 rcases hu with rfl | rfl <;> rfl
theorem qck {w : World} {base : Nat} {ok : Nat → Prop} {v : Value} {xs : List S80} (h : Kd.R k80 80 w base ok v xs) : w.ownsRow base 80 2 v xs.length (xs.flatMap qcn) := by
 obtain ⟨_, inner, ho, hr⟩ := h
 rw [← reps_enc (enc := qcn) (fun x cs hM => qcp hM) xs inner hr]
 exact ho
theorem qea {w : World} {base : Nat} {ok : Nat → Prop} {v : Value} {xs : List S80} (h : w.ownsRow base 80 2 v xs.length (xs.flatMap qcn)) (hok : ∀ k, v.ownBlock = some k → ok k) : Kd.R k80 80 w base ok v xs :=
 ⟨hok, _, h, enc_reps (fun x => qcs w base _ x) qbt xs⟩

end

section
open Go
theorem qel : ∀ (x y : List UInt8), Op.bytesLess x y = decide (x < y)
 | [], [] => by simp [Op.bytesLess]
 | [], _ :: _ => by simp [Op.bytesLess]
 | _ :: _, [] => by simp [Op.bytesLess]
 | a :: x, b :: y => by
  rw [Op.bytesLess, qel x y]
  rw [Bool.eq_iff_iff]
  simp [List.cons_lt_cons_iff]
theorem qdt (x : List UInt8) : Op.bytesLess x x = false := by
 rw [qel]
 exact decide_eq_false (List.lt_irrefl x)
theorem qdk {x y z : List UInt8} (h : Op.bytesLess x y = true) (k : Op.bytesLess y z = true) : Op.bytesLess x z = true := by
 rw [qel, decide_eq_true_eq] at *
 exact List.lt_trans h k
theorem bless_tri (x y : List UInt8) : Op.bytesLess x y = true ∨ x = y ∨ Op.bytesLess y x = true := by
 rw [qel, qel, decide_eq_true_eq, decide_eq_true_eq]
 by_cases h : x < y
 · exact .inl h
 ·
  rcases List.le_iff_lt_or_eq.1 (List.not_lt.1 h) with h | h
  · exact .inr (.inr h)
  · exact .inr (.inl h.symm)
theorem cmp_neg (a b : List UInt8) : Lib.compareBytes a b < 0 ↔ Op.bytesLess a b = true := by
 induction a generalizing b with
 | nil => cases b <;> simp [Lib.compareBytes, Op.bytesLess]
 | cons x a ih =>
  cases b with
  | nil => simp [Lib.compareBytes, Op.bytesLess]
  | cons y b =>
   have := ih b
   rw [Op.bytesLess, Lib.compareBytes]
   by_cases h1 : x < y
   · simp [h1]
   ·
    by_cases h2 : x = y
    ·
     subst h2
     simpa [h1] using this
    ·
     have h3 : y < x := by
      rw [UInt8.lt_iff_toNat_lt] at h1 ⊢
      have : x.toNat ≠ y.toNat := fun h => h2 (UInt8.toNat_inj.1 h)
      omega
     simp [h1, h2, h3]
theorem cmp_zero (a b : List UInt8) : Lib.compareBytes a b = 0 ↔ a = b := by
 induction a generalizing b with
 | nil => cases b <;> simp [Lib.compareBytes]
 | cons x a ih =>
  cases b with
  | nil => simp [Lib.compareBytes]
  | cons y b =>
   have := ih b
   rw [Lib.compareBytes]
   by_cases h1 : x < y
   ·
    have : x ≠ y := fun h => by subst h; exact absurd h1 (by rw [UInt8.lt_iff_toNat_lt]; omega)
    simp [h1, this]
   ·
    by_cases h3 : y < x
    ·
     have : x ≠ y := fun h => by subst h; exact absurd h3 (by rw [UInt8.lt_iff_toNat_lt]; omega)
     simp [h1, h3, this]
    ·
     have h2 : x = y := by
      rw [UInt8.lt_iff_toNat_lt] at h1 h3
      exact UInt8.toNat_inj.1 (by omega)
     subst h2
     simp [h1, this]
theorem qcq (s : ByteArray) : s.toList = s.data.toList := ByteArray.toList_eq s
theorem bs_inj {a b : ByteArray} : a.toList = b.toList ↔ a = b := by
 constructor
 ·
  intro h
  rw [qcq, qcq] at h
  exact ByteArray.ext (Array.toList_inj.1 h)
 ·
  rintro rfl
  rfl

end

section
open Go.Shelf
def shelf.lays106_ren : Go.Shelf.Ren := ⟨fun | 106 => 120 | 213 => 132 | 265 => 140 | n => n, fun | 9 => 9 | 3 => 3 | n => n, fun | n => n⟩
theorem shelf.lays106 : Go.Proofs.Lays.n106 Try.prog shelf.lays106_ren := {
 mixed := by kernel_rfl
 f106 := Try.func120.trans (congrArg some (by kernel_rfl))
 f213 := Try.func132.trans (congrArg some (by kernel_rfl))
 f265 := Try.func140.trans (congrArg some (by kernel_rfl))
 t3 := Try.underlying3
 a3 := Try.isAgg3
 z3 := Try.sizeOf3
 v3 := Try.zeroValue3
 t9 := Try.underlying9
 a9 := Try.isAgg9
 z9 := Try.sizeOf9
 v9 := Try.zeroValue9 }
open Go.RowKit in
theorem shelf.strings_Compare (a b : ByteArray) (w : World) :
 Calls Try.prog 120 #[.string a, .string b] w fun e w' => e = .returned (.int .i64 (Lib.compareBytes a.data.toList b.data.toList)) ∧ w' = w := Any.strings_Compare shelf.lays106 a b w

end

section
attribute [local go_sem] str_geq str_leq str_gtr
def qbe (n : ByteArray) (x : S80) : Int := Lib.compareBytes x.f0.data.toList n.data.toList
def qci (l : List S80) : Prop := l.Pairwise (fun a b => Op.bytesLess a.f0.toList b.f0.toList = true)
instance (l : List S80) : Decidable (qci l) := by unfold qci; infer_instance
def putF (l : List S80) (n d : ByteArray) : List S80 :=
 if hitAt z80 (qbe n) l = true then l.set (cntLt (qbe n) l) ⟨n, d⟩ else l.take (cntLt (qbe n) l) ++ (⟨n, d⟩ :: l.drop (cntLt (qbe n) l))
def impl_withFile.f (l0 : List S80) (a1_0 a1_1 : ByteArray) : Option (List S80) := if l0.length < 2199023255552 ∧ qci l0 then some (putF l0 a1_0 a1_1) else none
theorem impl_withFile.lit (n : ByteArray) (x : S80) (W : World) :
 Calls Try.prog 119 #[.agg #[.string x.f0, .string x.f1], .string n] W fun e W' => e = .returned (.int .i64 (qbe n x)) ∧ Below W.heap.size W W' := by
 have hu := Try.underlying80
 go_enter Try.func119, Try.ntmps119
 go_wp2_with (go_at_call 120; refine (shelf.strings_Compare _ _ _).mono ?_; rintro e w' ⟨rfl, rfl⟩)
 go_ret
 exact ⟨rfl, (by repeat (first | exact Below.refl _ _ | apply qaq | apply qaw | apply qcw))⟩
theorem risesF_mono {l : List S80} (h : qci l) (n : ByteArray) (a b : Nat) (hab : a ≤ b) (hb : b < l.length) (hlt : qbe n (l.getD b z80) < 0) : qbe n (l.getD a z80) < 0 := by
 by_cases he : a = b
 · rw [he]; exact hlt
 ·
  have ha : a < l.length := by omega
  have hp := List.pairwise_iff_getElem.1 h a b ha hb (by omega)
  unfold qbe at hlt ⊢
  rw [cmp_neg] at hlt ⊢
  rw [List.getD_eq_getElem?_getD, List.getElem?_eq_getElem hb] at hlt
  rw [List.getD_eq_getElem?_getD, List.getElem?_eq_getElem ha]
  rw [qcq, qcq] at hp
  exact qdk hp hlt
theorem qcr (l : List S80) (h : l.length < 4398046511104) : impl_copyFiles.f l = some l := by
 unfold impl_copyFiles.f
 rw [Option.bind_some, if_pos (by simpa using h), List.nil_append]
theorem cntLt_le {α : Type} (cf : α → Int) (l : List α) : cntLt cf l ≤ l.length := List.countP_le_length
set_option maxHeartbeats 8000000 in
set_option maxRecDepth 100000 in
theorem impl_withFile.calls (A0 : Option Addr) (c0 : Nat) (l0 : List (S80)) (a1_0 : ByteArray) (a1_1 : ByteArray) (r : List (S80)) (w : World) (hr0 : Kd.C k80 w A0 l0.length l0) (hc0 : l0.length ≤ c0) (h : impl_withFile.f l0 a1_0 a1_1 = some r) :
 Calls Try.prog 99 #[.slice A0 l0.length c0, .agg #[.string a1_0, .string a1_1]] w fun e w' => ∃ v0_ : Value, e = .returned (v0_) ∧ Kd.R k80 80 w' w.heap.size (fun _ => True) v0_ r ∧ Below w.heap.size w w' := by
 unfold impl_withFile.f at h
 by_cases hc : l0.length < 2199023255552 ∧ qci l0
 ·
  rw [if_pos hc] at h
  have HQ := am (Option.some.inj h)
  have hu := Try.underlying80
  have HR := am hr0
  have HF := am (fun W1 h => impl_copyFiles.calls A0 c0 l0 l0 W1 h hc0 (qcr l0 (by omega)))
  have HM := am (risesF_mono hc.2 a1_0)
  have hln : l0.length < 2199023255552 := hc.1
  clear hr0 h hc hc0
  go_enter Try.func99, Try.ntmps99
  go_wp2_with fail
  refine (HF.out _ ?h1).mono ?_
  case h1 => exact Kd.C_alloc HR.out _
  rintro e w1 ⟨v0, rfl, ho1, hb1⟩
  obtain ⟨A1, c1, rfl, hl1, hC1⟩ := Kd.R_reads ho1
  have HO := am (Kd.R_lower ho1 (by simp : w.heap.size ≤ (w.alloc (.cells #[.string a1_0, .string a1_1] 80)).heap.size))
  have HC := am hC1
  have HB1 : Aside0 (Below w.heap.size w w1) := ⟨qad (qaq (Below.refl _ _) _) hb1⟩
  have BX : Aside0 (w1.heap[w.heap.size]? = some (.cells #[.string a1_0, .string a1_1] 80 (0, 0))) := ⟨qab (qcj w _) hb1⟩
  have hx0 : w1.cell? ⟨w.heap.size, 0, none⟩ = some (.string a1_0) := (qak BX.out 0).trans rfl
  clear ho1 hC1 hb1
  go_wp2_with fail
  refine (lib_bs_File 119 #[] (.string a1_0) (qbe a1_0) (enters_of Try.func119 (by kernel_rfl) rfl) A1 c1 l0 _ HC.out (by omega) ?h2 HM.out).mono ?_
  case h2 =>
   intro x hx W hW
   exact impl_withFile.lit a1_0 x W
  rintro e w2 ⟨rfl, hb2⟩
  have HB2 : Aside0 (Below w.heap.size w w2) := ⟨qad HB1.out hb2⟩
  have BX2 := am (qab BX.out hb2)
  have HO2 := am (Kd.R_below HO.out hb2)
  have hx0 : w2.cell? ⟨w.heap.size, 0, none⟩ = some (.string a1_0) := (qak BX2.out 0).trans rfl
  have hx1 : w2.cell? ⟨w.heap.size, 1, none⟩ = some (.string a1_1) := (qak BX2.out 1).trans rfl
  clear hb2 HO BX HB1
  have hcl : cntLt (qbe a1_0) l0 ≤ l0.length := cntLt_le _ _
  have hq := HQ.out
  unfold putF at hq
  clear HQ
  have hhl : hitAt z80 (qbe a1_0) l0 = true → cntLt (qbe a1_0) l0 < l0.length := fun hh => by
   unfold hitAt at hh
   rw [Bool.and_eq_true, decide_eq_true_eq] at hh
   exact hh.1
  generalize cntLt (qbe a1_0) l0 = cn at *
  cases hh : hitAt z80 (qbe a1_0) l0 with
  | true =>
   have hlt : cn < l0.length := hhl hh
   rw [hh, if_pos rfl] at hq
   have HQ := am hq
   clear hq hhl
   obtain ⟨g, cap, cur, hv, hbg, hg, _⟩ := qdq (qck HO2.out) (by omega)
   injection hv with hv1 hv2 hv3
   subst hv1
   subst hv3
   clear hv2
   obtain ⟨c, hcl', hM, hcc, hfz⟩ := Kd.R_elem HO2.out z80 (cn : Int) (by omega) (by omega)
   obtain rfl := qcp hM
   have hc0 : w2.cell? ⟨g, cn * 2, none⟩ = some (.string (qai l0 cn).f0) := hcc 0 _ rfl
   have hc1 : w2.cell? ⟨g, cn * 2 + 1, none⟩ = some (.string (qai l0 cn).f1) := hcc 1 _ rfl
   have hf0 : w2.frozen? ⟨g, cn * 2, none⟩ = false := hfz 0
   have hf1 : w2.frozen? ⟨g, cn * 2 + 1, none⟩ = false := hfz 1
   have hseg := (Kd.R_seg HO2.out (cn : Int) (by omega) (by omega) (c := [.string (qai l0 cn).f0, .string (qai l0 cn).f1]) (seg := [.string a1_0, .string a1_1]) (j := 0) rfl hcc (Nat.le_refl _) (x' := ⟨a1_0, a1_1⟩) (okp := fun k => True ∧ k ≠ g) (qcs w2 _ _ ⟨a1_0, a1_1⟩) (fun k hk => hk)).1
   have HS : Aside0 (Kd.R k80 80 ((w2.setCell ⟨g, cn * 2, none⟩ (.string a1_0)).setCell ⟨g, cn * 2 + 1, none⟩ (.string a1_1)) w.heap.size (fun _ => True) (.slice (some ⟨g, 0, none⟩) l0.length _) (l0.set cn ⟨a1_0, a1_1⟩)) := ⟨hseg⟩
   have HG : Aside0 (w.heap.size ≤ g) := ⟨hbg⟩
   clear hcc hfz hM hcl' hseg hbg hg hh HM
   have hlt' : (cn : Int) < (l0.length : Int) := by omega
   go_wp2
   go_ret
   exact ⟨_, rfl, by rw [← HQ.out]; exact HS.out, qar (qar HB2.out HG.out) HG.out⟩
  | false =>
   rw [hh, if_neg (by simp)] at hq
   have HQ := am hq
   clear hq hhl hh
   go_wp2_with fail
   refine (lib_ins_File w.heap.size (.slice A1 l0.length c1) l0.length cn (l0.flatMap qcn) [.string a1_0, .string a1_1] w2.heap.size _ ?o (qek qdb _) hcl ?vb rfl ?one ?ne ?base (by omega)).mono ?_
   case o => exact (qck HO2.out).alloc _
   case vb => exact qcj w2 _
   case one => exact qdb ⟨a1_0, a1_1⟩
   case ne =>
    intro he
    have := own_lt (qck HO2.out) _ he
    omega
   case base =>
    have := HB2.out.size
    simp
    omega
   rintro e w3 ⟨v', rfl, ho3, hg3, hat⟩
   have HO3 := am ho3
   have HB3 : Aside0 (Below w.heap.size w w3) := ⟨qcl (qaq HB2.out _) _ (by have := HB2.out.size; simp; omega) hg3 (fun k hk => qcd (qck HO2.out) k hk)⟩
   clear ho3 hg3 hat
   go_wp2
   go_ret
   refine ⟨_, rfl, ?_, HB3.out⟩
   rw [← HQ.out]
   refine qea ?_ (fun _ _ => trivial)
   have := HO3.out
   rw [qdr qbt, qds qbt] at this
   simpa [List.flatMap_append, qcn, Nat.min_eq_left hcl, show cn + (l0.length - cn + 1) = l0.length + 1 by omega] using this
 ·
  rw [if_neg hc] at h
  cases h

end

section
set_option maxHeartbeats 4000000 in
theorem lib_idx_File (g : Nat) (lb : Array Value) (p : S80 → Bool) (eg : ∀ args w, (callFunc g args).run Try.prog w = .ok (.enter g args) w)
 (A : Option Addr) (c : Nat) (xs : List S80) (w : World) (hr : Kd.C k80 w A xs.length xs) (hp : PredBy g lb (fun x => Value.agg #[.string x.f0, .string x.f1]) p w.heap.size w xs) :
 Calls Try.prog 93 #[.slice A xs.length c, .func (.func g) #[] lb] w fun e w' => e = .returned (.int .i64 (idxP p xs)) ∧ Below w.heap.size w w' := by
 have HR := Aside0.mk hr
 have HP := Aside0.mk hp
 have hlen : xs.length ≤ 9223372036854775807 := Kd.C_max hr
 have hu := Try.underlying80
 clear hr hp
 go_enter Try.func93, Try.ntmps93
 go_wp2
 go_loopg [5, 8] xs.length (fun gg _ s8 wr => ∃ i : Int, s8 = .int .i64 i ∧ Aside0 (0 ≤ i ∧ i ≤ xs.length ∧ xs.length - i.toNat ≤ gg) ∧ Aside0 (Below w.heap.size w wr) ∧ Aside0 (∀ j : Nat, j < i.toNat → p (xs.getD j z80) = false))
 case atStart => exact ⟨0, rfl, ⟨by omega, by omega, by simp⟩, ⟨Below.refl _ _⟩, ⟨fun j hj => by simp at hj⟩⟩
 case round =>
  obtain ⟨i, rfl, HI, HB, HN⟩ := hrel
  have h0 := HI.out.1
  have h1 := HI.out.2.1
  have h2 := HI.out.2.2
  by_cases hlt : i < (xs.length : Int)
  ·
   obtain ⟨ad, e1, hx_0, hx_1⟩ := qax HR.out i h0 hlt
   cases e1
   replace hx_0 := qac HB.out hx_0; replace hx_1 := qac HB.out hx_1
   have hcall := HP.out _ (qdw z80 xs i h0 hlt)
   change ∀ W, Below w.heap.size w W → Calls Try.prog g (#[(fun (x : S80) => Value.agg #[.string x.f0, .string x.f1]) (qai xs i)] ++ lb) W fun e W' => e = .returned (.bool (p (qai xs i))) ∧ Below W.heap.size W W' at hcall
   have HC := Aside0.mk hcall
   clear hcall
   have hd0 : decide (i < (xs.length : Int)) = true := decide_eq_true hlt
   have w0 : IntKind.i64.wrap (i + 1) = i + 1 := IntWalk.i64_in _ (by omega)
   cases hq : p (qai xs i) with
   | true =>
    rw [hq] at HC
    have HQ := Aside0.mk hq
    clear hq
    have h0' := eq_true h0
    have hlt' := eq_true hlt
    go_wp2_with (go_at_fn g; refine (HC.out _ ?hb).mono ?_; (case hb => exact HB.out); rintro e w' ⟨rfl, hb⟩)
    go_ret
    refine ⟨?_, qad HB.out hb⟩
    rw [idxG_hit z80 p xs i h0 hlt HQ.out HN.out]
    rfl
   | false =>
    rw [hq] at HC
    have HQ := Aside0.mk hq
    clear hq
    have h0' := eq_true h0
    have hlt' := eq_true hlt
    go_wp2_with (go_at_fn g; refine (HC.out _ ?hb).mono ?_; (case hb => exact HB.out); rintro e w' ⟨rfl, hb⟩)
    go_roundg (xs.length - (i + 1).toNat)
    case measure => omega
    case rel => exact ⟨i + 1, by go_num, ⟨by omega, by omega, by omega⟩, ⟨qad HB.out hb⟩, ⟨missG_step z80 p xs i h0 HQ.out HN.out⟩⟩
  ·
   have hd0 : decide (i < (xs.length : Int)) = false := decide_eq_false hlt
   go_wp2
   go_ret
   exact ⟨by rw [idxG_miss z80 p xs i (by omega) HN.out]; rfl, HB.out⟩

end

section
def qau (n : ByteArray) (x : S80) : Bool := x.f0.toList == n.toList
def impl_fileOf.f (l0 : List S80) (a1 : ByteArray) : Option Int := some (idxP (qau a1) l0)
set_option maxHeartbeats 4000000 in
theorem impl_fileOf.lit (g : Nat) (n : ByteArray) (x : S80) (W : World) (hb : W.cell? ⟨g, 0, none⟩ = some (.string n)) (hg : g < W.heap.size) :
 Calls Try.prog 94 #[.agg #[.string x.f0, .string x.f1], .pointer (some ⟨g, 0, none⟩)] W fun e W' => e = .returned (.bool (qau n x)) ∧ Below W.heap.size W W' := by
 have hu := Try.underlying80
 go_enter Try.func94, Try.ntmps94
 go_wp2
 go_ret
 exact ⟨rfl, (by repeat (first | exact Below.refl _ _ | apply qaq | apply qaw | apply qcw))⟩
set_option maxHeartbeats 8000000 in
set_option maxRecDepth 100000 in
theorem impl_fileOf.calls (A0 : Option Addr) (c0 : Nat) (l0 : List (S80)) (a1 : ByteArray) (r : Int) (w : World) (hr0 : Kd.C k80 w A0 l0.length l0) (hc0 : l0.length ≤ c0) (h : impl_fileOf.f l0 a1 = some r) :
 Calls Try.prog 53 #[.slice A0 l0.length c0, .string a1] w fun e w' => e = .returned (.int .i64 r) ∧ Below w.heap.size w w' := by
 obtain rfl : idxP (qau a1) l0 = r := Option.some.inj h
 have HR := am hr0
 clear hr0 h
 go_enter Try.func53, Try.ntmps53
 go_wp2_with fail
 refine (lib_idx_File 94 #[.pointer (some ⟨w.heap.size, 0, none⟩)] (qau a1) (enters_of Try.func94 (by kernel_rfl) rfl) A0 c0 l0 _ ?h1 ?h2).mono ?_
 case h1 => exact Kd.C_alloc HR.out _
 case h2 =>
  intro x hx W hW
  refine impl_fileOf.lit w.heap.size a1 x W ?_ ?_
  ·
   refine qac hW ?_
   go_simp
  ·
   have := hW.size
   simp at this
   omega
 rintro e w' ⟨rfl, hb⟩
 have HB : Aside0 (Below w.heap.size w w') := ⟨qad (by repeat (first | exact Below.refl _ _ | apply qaq)) hb⟩
 clear hb
 go_wp2
 go_ret
 exact ⟨rfl, HB.out⟩

end

section
set_option maxHeartbeats 4000000 in
set_option maxRecDepth 100000 in
theorem lib_delAt_File (base g c i j n : Nat) (cur : Array Value) (cs : List Value) (w : World) (hg : w.heap[g]? = some (.cells cur 80 (0, 0))) (hbg : base ≤ g) (hcap : cur.size = c * 2) (hnc : n ≤ c) (hc63 : c ≤ maxLen) (hij : i < j) (hji : j ≤ i + 1) (hjn : j ≤ n)
 (hcl : cs.length = n * 2) (hcs : cur.toList.take (n * 2) = cs) (h1c : ∀ u ∈ cs, u.oneCell' = true) :
 Calls Try.prog 100 #[.slice (some ⟨g, 0, none⟩) n c, .int .i64 i, .int .i64 j] w fun e w' => e = .returned (.slice (some ⟨g, 0, none⟩) (n - 1) c) ∧ w'.ownsRow base 80 2 (.slice (some ⟨g, 0, none⟩) (n - 1) c) (n - 1) (cs.take (i * 2) ++ cs.drop (j * 2)) ∧ w.grownBy w' (some g) := by
 have hu := Try.underlying28
 obtain ⟨i0, hi0, hz0, hzs, hzb⟩ := info_parts qch
 have hlen : cur.toList.length = c * 2 := by rw [Array.length_toList]; exact hcap
 have hcell : ∀ q u, cs[q]? = some u → w.cell? ⟨g, q, none⟩ = some u := fun q u hj => by
  rw [qak hg]
  rw [← hcs, List.getElem?_take] at hj
  split at hj
  · simpa using hj
  · cases hj
 obtain ⟨news, hnews⟩ : ∃ news, news = cs.drop (j * 2) := ⟨_, rfl⟩
 have hdl : news.length = (n - j) * 2 := by rw [hnews, List.length_drop]; omega
 obtain ⟨A, hA, hsrc⟩ : ∃ A : Addr, (if c = j then some (⟨g, 0, none⟩ : Addr) else some ⟨g, j * 2, none⟩) = some A ∧ Aside0 (∀ t u, news[t]? = some u → w.drew.cell? (A.add t) = some u) := by
  by_cases h : c = j
  ·
   refine ⟨⟨g, 0, none⟩, by simp [h], ⟨fun t u hu => ?_⟩⟩
   have h0 : news.length = 0 := by rw [hdl]; omega
   rw [List.length_eq_zero_iff.1 h0] at hu
   simp at hu
  ·
   refine ⟨⟨g, j * 2, none⟩, by simp [h], ⟨fun t u hu => ?_⟩⟩
   rw [hnews, List.getElem?_drop] at hu
   rw [Addr.add_lit]
   exact hcell _ _ hu
 obtain ⟨R1, hR1⟩ : ∃ R1, R1 = (cur.toList.take (i * 2) ++ news ++ cur.toList.drop (i * 2 + news.length)).toArray := ⟨_, rfl⟩
 have h1n : ∀ u ∈ news, u.oneCell' = true := fun u hu => h1c u (List.mem_of_mem_drop (by rw [← hnews]; exact hu))
 have hset : w.drew.setCells g (0 + i * 2) news = w.drew.setRow g R1 := by
  rw [Nat.zero_add, hR1]
  exact setCells_row Try.prog w.drew g (i * 2) 80 news cur hg (by rw [hdl, hcap]; omega) h1n
 have hR1l : R1.size = c * 2 := by
  rw [hR1]
  simp only [List.size_toArray, List.length_append, List.length_take, List.length_drop, hlen, hdl]
  omega
 have hg1 : (w.drew.setRow g R1).heap[g]? = some (.cells R1 80 (0, 0)) := setRow_heap _ g cur R1 _ _ hg
 have hz1 : ∀ m, ∀ v ∈ (Builtin.zeroCells (Value.cells (.agg #[(.string ⟨#[]⟩), (.string ⟨#[]⟩)])) m).toList, v.oneCell' = true := fun m v hv => by
  simp only [Builtin.zeroCells, Array.toList_map, List.mem_map] at hv
  obtain ⟨q, _, rfl⟩ := hv
  have : q % (Value.cells (.agg #[(.string ⟨#[]⟩), (.string ⟨#[]⟩)])).size < 2 := Nat.mod_lt _ (by decide)
  generalize q % (Value.cells (.agg #[(.string ⟨#[]⟩), (.string ⟨#[]⟩)])).size = r at this
  match r, this with
  | 0, _ => rfl
  | 1, _ => rfl
 obtain ⟨R2, hR2⟩ : ∃ R2, R2 = (R1.toList.take ((i + (n - j)) * 2) ++ (Builtin.zeroCells (Value.cells (.agg #[(.string ⟨#[]⟩), (.string ⟨#[]⟩)])) (n - (i + (n - j)))).toList ++ R1.toList.drop ((i + (n - j)) * 2 + (n - (i + (n - j))) * 2)).toArray := ⟨_, rfl⟩
 have hcl2 : ∀ ty, (Builtin.clear_ #[28] ty #[.slice (some ⟨g, (i + (n - j)) * 2, none⟩) (n - (i + (n - j))) (c - (i + (n - j)))]).run Try.prog (w.drew.setRow g R1) = .ok (.tuple #[]) ((w.drew.setRow g R1).setRow g R2) := fun ty => by
  rw [hR2]
  have h9 := run_clear_row_k (w.drew.setRow g R1) 28 80 ty (.agg #[(.string ⟨#[]⟩), (.string ⟨#[]⟩)]) hu Try.zeroValue80 g ((i + (n - j)) * 2) (n - (i + (n - j))) (c - (i + (n - j))) (by omega) R1 80 hg1 (by have hz9 : (Value.cells (.agg #[(.string ⟨#[]⟩), (.string ⟨#[]⟩)])).size = 2 := rfl; rw [hR1l, hz9]; omega) (hz1 _)
  simpa only [show (Value.cells (.agg #[(.string ⟨#[]⟩), (.string ⟨#[]⟩)])).size = 2 from rfl, Nat.mul_one] using h9
 have hzl : (Builtin.zeroCells (Value.cells (.agg #[(.string ⟨#[]⟩), (.string ⟨#[]⟩)])) (n - (i + (n - j)))).toList.length = (n - (i + (n - j))) * 2 := by rw [Array.length_toList, qde, show (Value.cells (.agg #[(.string ⟨#[]⟩), (.string ⟨#[]⟩)])).size = 2 from rfl] <;> omega
 have hR2l : R2.size = c * 2 := by
  rw [hR2]
  simp only [List.size_toArray, List.length_append, List.length_take, List.length_drop, Array.length_toList, hR1l] at hzl ⊢
  rw [hzl]
  omega
 have hfin : R2.toList.take ((n - 1) * 2) = cs.take (i * 2) ++ cs.drop (j * 2) := by
  have := del_shift cur.toList cs (Builtin.zeroCells (Value.cells (.agg #[(.string ⟨#[]⟩), (.string ⟨#[]⟩)])) (n - (i + (n - j)))).toList (i * 2) (j * 2) ((n - 1) * 2) (by omega) (by rw [hcl]; omega) (by rw [hcl]; exact hcs) (by rw [hcl, hlen]; omega) (by rw [hcl]; omega)
  rw [hR2, hR1, hnews]
  rw [hzl] at this
  simpa only [show i + (n - j) = n - 1 by omega] using this
 have FIN : Aside0 (((w.drew.setRow g R1).setRow g R2).ownsRow base 80 2 (.slice (some ⟨g, 0, none⟩) (n - 1) c) (n - 1) (cs.take (i * 2) ++ cs.drop (j * 2))) :=
  ⟨own_mk hbg (setRow_heap _ g R1 R2 _ _ hg1) (by omega) hc63 (by omega) (by simpa using hfin) (by rw [← hfin, List.length_take, Array.length_toList, hR2l]; omega)⟩
 have GR : Aside0 (w.grownBy ((w.drew.setRow g R1).setRow g R2) (some g)) := ⟨qca (qca (qdp w _) (qbo _ g R1 _ (.inl rfl))) (qbo _ g R2 _ (.inl rfl))⟩
 have s1 := Aside0.mk hdl
 have s2 := Aside0.mk h1n
 have s3 : Aside0 (∀ t, t < news.length → (w.drew.cell? ⟨g, 0 + i * 2 + t, none⟩).isSome = true ∧ w.drew.frozen? ⟨g, 0 + i * 2 + t, none⟩ = false) := ⟨fun t ht => by
  rw [hdl] at ht
  refine ⟨?_, qaa hg _⟩
  show (w.cell? _).isSome = true
  rw [qak hg, Array.getElem?_eq_getElem (by omega)]
  rfl⟩
 have hS := Aside0.mk hset
 have hcm : c ≤ 9223372036854775807 := by unfold maxLen at hc63; omega
 have hic : i ≤ c := by omega
 have hjc : j ≤ c := by omega
 have hne : ¬ ((i : Int) = (j : Int)) := by omega
 clear hset hcell hnews hR1 hR2 hR1l hR2l hg1 hz1 hzl hfin hlen hcs h1c hcl hdl h1n hg hcap hc63 hz0 hzb
 go_enter Try.func100, Try.ntmps100
 go_wp2_with fail
 go_region_law (refine step_append_room rfl (.tmp 22) (.tmp 25) 28 rfl 80 i0 2 hu hi0 hzs g 0 i c (by simp [Act.eval, Act.put]) A (n - j) (c - j) news (by simp [Act.eval, Act.put]) (by have := s1.out; omega) hsrc.out s2.out (by omega) (by simpa using s3.out) ?_; (try simp only [Nat.mul_one]); rw [hS.out])
 go_wp2
 go_ret
 exact ⟨by rw [show n - 1 = i + (n - j) by omega]; rfl, FIN.out, GR.out⟩
theorem lib_del_File (base : Nat) (v : Value) (n i : Nat) (cs : List Value) (w : World) (ho : w.ownsRow base 80 2 v n cs) (h1c : ∀ u ∈ cs, u.oneCell' = true) (hi : i < n) :
 Calls Try.prog 100 #[v, .int .i64 i, .int .i64 ((i : Int) + 1)] w fun e w' => ∃ v', e = .returned v' ∧ w'.ownsRow base 80 2 v' (n - 1) (cs.take (i * 2) ++ cs.drop ((i + 1) * 2)) ∧ w.grownBy w' v.ownBlock ∧ v'.ownBlock = v.ownBlock := by
 obtain ⟨g, cap, cur, rfl, hbg, hg, hnc, hcm, hcap, hcs⟩ := qdq ho (by omega)
 rw [show (i : Int) + 1 = ((i + 1 : Nat) : Int) by omega]
 refine (lib_delAt_File base g cap i (i + 1) n cur cs w hg hbg (by omega) hnc hcm (by omega) (Nat.le_refl _) (by omega) (by have := ho.1; omega) (by simpa using hcs) h1c).mono ?_
 rintro e w' ⟨rfl, h1, h2⟩
 exact ⟨_, rfl, h1, h2, rfl⟩

end

section
def onF (l : List S80) (k : Int) (n t d : ByteArray) : List S80 × Bool :=
 if k = 1 then (putF l n (if 0 ≤ idxP (qau n) l then (qai l (idxP (qau n) l)).f1 ++ d else d), true)
 else if 0 ≤ idxP (qau n) l then
  if k = 3 then (l.take (idxP (qau n) l).toNat ++ l.drop ((idxP (qau n) l).toNat + 1), true)
  else (putF (l.take (idxP (qau n) l).toNat ++ l.drop ((idxP (qau n) l).toNat + 1)) t (qai l (idxP (qau n) l)).f1, true)
 else (l, false)
theorem idxP_lt {α : Type} (p : α → Bool) (l : List α) : idxP p l < (l.length : Int) := by
 unfold idxP
 cases h : l.findIdx? p with
 | none => simp <;> omega
 | some i =>
  rw [List.findIdx?_eq_some_iff_getElem] at h
  obtain ⟨hi, _⟩ := h
  simpa using hi
theorem idxP_ge {α : Type} (p : α → Bool) (l : List α) : -1 ≤ idxP p l := by
 unfold idxP
 cases h : l.findIdx? p with
 | none => simp
 | some i => simp <;> omega
theorem idxP_at {α : Type} (p : α → Bool) (z : α) (l : List α) (h : 0 ≤ idxP p l) : p (l.getD (idxP p l).toNat z) = true := by
 unfold idxP at h ⊢
 cases hf : l.findIdx? p with
 | none => rw [hf] at h; simp at h
 | some i =>
  rw [List.findIdx?_eq_some_iff_getElem] at hf
  obtain ⟨hi, hp, _⟩ := hf
  simp only [Int.toNat_natCast]
  rw [List.getD_eq_getElem?_getD, List.getElem?_eq_getElem hi]
  exact hp
theorem qeb (l : List S80) (n d : ByteArray) (h : l.length < 2199023255552) (hr : qci l) : impl_withFile.f l n d = some (putF l n d) := by
 unfold impl_withFile.f
 rw [if_pos ⟨h, hr⟩]
theorem risesF_cut {l : List S80} (h : qci l) (i : Nat) : qci (l.take i ++ l.drop (i + 1)) := by
 refine List.Pairwise.sublist ?_ h
 conv => rhs; rw [← List.take_append_drop i l]
 refine List.Sublist.append (List.Sublist.refl _) ?_
 rw [← List.drop_drop]
 exact List.drop_sublist _ _
set_option maxHeartbeats 4000000 in
set_option maxRecDepth 100000 in
theorem on_run (k : Int) (n t d : ByteArray) (A : Option Addr) (c : Nat) (l : List S80) (w : World) (hr : Kd.C k80 w A l.length l) (hc : l.length ≤ c) (hlen : l.length < 1099511627776) (hris : qci l) (hsz : ∀ x ∈ l, x.f1.size + d.size ≤ 9223372036854775807) (hd : d.size ≤ 9223372036854775807) :
 Calls Try.prog 61 #[.agg #[.int .i64 k, .string n, .string t, .string d], .slice A l.length c] w fun e w' => ∃ v, e = .returned (.tuple #[v, .bool (onF l k n t d).2]) ∧ ((onF l k n t d).2 = true → Kd.R k80 80 w' w.heap.size (fun _ => True) v (onF l k n t d).1) ∧ ((onF l k n t d).2 = false → v = .slice A l.length c ∧ (onF l k n t d).1 = l) ∧ Below w.heap.size w w' := by
 have hu := Try.underlying80
 have hu' := Try.underlying73
 have HR := Aside0.mk hr
 have HC := Aside0.mk hc
 have HI := Aside0.mk (fun W1 h => impl_fileOf.calls A c l n _ W1 h hc rfl)
 have hj0 := idxP_ge (qau n) l
 have hj1 := idxP_lt (qau n) l
 have hja : 0 ≤ idxP (qau n) l → (qai l (idxP (qau n) l)).f0 = n := fun h => bs_inj.1 (beq_iff_eq.1 (idxP_at (qau n) z80 l h))
 have HQ : Aside0 (∃ q, q = onF l k n t d) := ⟨⟨_, rfl⟩⟩
 obtain ⟨q, hq⟩ := HQ.out
 rw [← hq]
 unfold onF at hq
 clear HQ hr hc
 generalize idxP (qau n) l = j at *
 by_cases hk : k = 1
 ·
  subst hk
  rw [if_pos rfl] at hq
  by_cases hi : 0 ≤ j
  ·
   rw [if_pos hi] at hq
   obtain ⟨i, rfl⟩ : ∃ i : Nat, j = i := ⟨j.toNat, by omega⟩
   have hil : i < l.length := by omega
   have hszi := hsz _ (qdw z80 l (i : Int) (by omega) (by omega))
   change (qai l i).f1.size + d.size ≤ _ at hszi
   have HW := Aside0.mk (fun W1 h => impl_withFile.calls A c l n ((qai l i).f1 ++ d) _ W1 h HC.out (qeb l _ _ (by omega) hris))
   obtain ⟨ad, e1, hx_0, hx_1⟩ := qax HR.out (i : Int) (by omega) (by omega)
   cases e1
   rw [hja hi] at hx_0
   rw [Int.toNat_natCast] at hx_0 hx_1
   generalize (qai l i).f1 = x1 at *
   subst hq
   clear hja hsz hris hj0
   go_enter Try.func61, Try.ntmps61
   go_wp2_with fail
   refine (HI.out _ ?q1).mono ?_
   case q1 => exact Kd.C_alloc HR.out _
   rintro e w1 ⟨rfl, hb1⟩
   have HB1 : Aside0 (Below w.heap.size w w1) := ⟨qad (qaq (Below.refl _ _) _) hb1⟩
   have BX : Aside0 (w1.heap[w.heap.size]? = some (.cells #[.int .i64 1, .string n, .string t, .string d] 73 (0, 0))) := ⟨qab (qcj w _) hb1⟩
   have b0 : w1.cell? ⟨w.heap.size, 0, none⟩ = some (.int .i64 1) := (qak BX.out 0).trans rfl
   have b1 : w1.cell? ⟨w.heap.size, 1, none⟩ = some (.string n) := (qak BX.out 1).trans rfl
   have b3 : w1.cell? ⟨w.heap.size, 3, none⟩ = some (.string d) := (qak BX.out 3).trans rfl
   have hz : w.heap.size < w1.heap.size := qan BX.out
   replace hx_0 := qac HB1.out hx_0
   replace hx_1 := qac HB1.out hx_1
   have hy_0 := fun o => qac (qaq (Below.refl w1.heap.size w1) o) hx_0
   have hy_1 := fun o => qac (qaq (Below.refl w1.heap.size w1) o) hx_1
   clear hb1
   go_wp2_with fail
   refine (HW.out _ ?q2).mono ?_
   case q2 => exact Kd.C_alloc (Kd.C_below HR.out HB1.out) _
   rintro e w2 ⟨v, rfl, ho, hb2⟩
   have HO := Aside0.mk ho
   have HB2 : Aside0 (Below w.heap.size w w2) := ⟨qad (qaq HB1.out _) hb2⟩
   have HL : Aside0 (w.heap.size ≤ w1.heap.size + 1) := ⟨by omega⟩
   clear ho hb2
   go_wp2
   go_ret2
   exact ⟨_, rfl, fun _ => Kd.R_lower HO.out (by simpa using HL.out), (fun h => by cases h), HB2.out⟩
  ·
   rw [if_neg hi] at hq
   have he : (⟨#[]⟩ : ByteArray) ++ d = d := ByteArray.ext (by simp [ByteArray.data_append])
   have HW := Aside0.mk (fun W1 h => impl_withFile.calls A c l n ((⟨#[]⟩ : ByteArray) ++ d) _ W1 h HC.out (qeb l _ _ (by omega) hris))
   rw [he] at HW
   have HE := Aside0.mk he
   have hd0 : (⟨#[]⟩ : ByteArray).size + d.size ≤ 9223372036854775807 := by
    show 0 + d.size ≤ _
    omega
   subst hq
   clear hja hsz hris hj0 he
   go_enter Try.func61, Try.ntmps61
   go_wp2_with fail
   refine (HI.out _ ?q3).mono ?_
   case q3 => exact Kd.C_alloc HR.out _
   rintro e w1 ⟨rfl, hb1⟩
   have HB1 : Aside0 (Below w.heap.size w w1) := ⟨qad (qaq (Below.refl _ _) _) hb1⟩
   have BX : Aside0 (w1.heap[w.heap.size]? = some (.cells #[.int .i64 1, .string n, .string t, .string d] 73 (0, 0))) := ⟨qab (qcj w _) hb1⟩
   have b0 : w1.cell? ⟨w.heap.size, 0, none⟩ = some (.int .i64 1) := (qak BX.out 0).trans rfl
   have b1 : w1.cell? ⟨w.heap.size, 1, none⟩ = some (.string n) := (qak BX.out 1).trans rfl
   have b3 : w1.cell? ⟨w.heap.size, 3, none⟩ = some (.string d) := (qak BX.out 3).trans rfl
   have hz : w.heap.size < w1.heap.size := qan BX.out
   clear hb1
   go_wp2_with fail
   refine (HW.out _ ?q4).mono ?_
   case q4 => exact Kd.C_alloc (Kd.C_below HR.out HB1.out) _
   rintro e w2 ⟨v, rfl, ho, hb2⟩
   have HO := Aside0.mk ho
   have HB2 : Aside0 (Below w.heap.size w w2) := ⟨qad (qaq HB1.out _) hb2⟩
   have HL : Aside0 (w.heap.size ≤ w1.heap.size + 1) := ⟨by omega⟩
   clear ho hb2
   go_wp2
   go_ret2
   exact ⟨_, rfl, fun _ => Kd.R_lower HO.out (by simpa using HL.out), (fun h => by cases h), HB2.out⟩
 ·
  rw [if_neg hk] at hq
  have hkb : (k == 1) = false := beq_eq_false_iff_ne.2 hk
  by_cases hi : 0 ≤ j
  ·
   rw [if_pos hi] at hq
   obtain ⟨i, rfl⟩ : ∃ i : Nat, j = i := ⟨j.toNat, by omega⟩
   rw [Int.toNat_natCast] at hq
   have hil : i < l.length := by omega
   have HF := Aside0.mk (fun W1 h => impl_copyFiles.calls A c l l W1 h HC.out (qcr l (by omega)))
   have hcut : (l.take i ++ l.drop (i + 1)).length = l.length - 1 := by rw [List.length_append, List.length_take, List.length_drop]; omega
   have HCUT := Aside0.mk hcut
   have HRC := Aside0.mk (risesF_cut hris i)
   clear hcut
   by_cases hk3 : k = 3
   ·
    subst hk3
    rw [if_pos rfl] at hq
    subst hq
    clear hja hsz hris hj0 hk
    go_enter Try.func61, Try.ntmps61
    go_wp2_with fail
    refine (HI.out _ ?q5).mono ?_
    case q5 => exact Kd.C_alloc HR.out _
    rintro e w1 ⟨rfl, hb1⟩
    have HB1 : Aside0 (Below w.heap.size w w1) := ⟨qad (qaq (Below.refl _ _) _) hb1⟩
    have BX : Aside0 (w1.heap[w.heap.size]? = some (.cells #[.int .i64 3, .string n, .string t, .string d] 73 (0, 0))) := ⟨qab (qcj w _) hb1⟩
    have b0 : w1.cell? ⟨w.heap.size, 0, none⟩ = some (.int .i64 3) := (qak BX.out 0).trans rfl
    clear hb1
    go_wp2_with fail
    refine (HF.out _ ?q6).mono ?_
    case q6 => exact Kd.C_below HR.out HB1.out
    rintro e w2 ⟨v, rfl, ho, hb2⟩
    have HO := Aside0.mk (qck ho)
    have HB2 : Aside0 (Below w.heap.size w w2) := ⟨qad HB1.out hb2⟩
    have BX2 := Aside0.mk (qab BX.out hb2)
    have c0 : w2.cell? ⟨w.heap.size, 0, none⟩ = some (.int .i64 3) := (qak BX2.out 0).trans rfl
    have HL : Aside0 (w.heap.size < w1.heap.size) := ⟨qan BX.out⟩
    clear ho hb2
    go_wp2_with fail
    refine (lib_del_File w1.heap.size v l.length i (l.flatMap qcn) _ HO.out (qek qdb _) hil).mono ?_
    rintro e w3 ⟨v', rfl, ho3, hg3, hat⟩
    have HO3 := Aside0.mk ho3
    have HB3 : Aside0 (Below w.heap.size w w3) := ⟨qcl HB2.out _ (Nat.le_of_lt (qan BX2.out)) hg3 (fun k hk => by have := qcd HO.out k hk; have := HL.out; omega)⟩
    have BX3 := Aside0.mk (qbb BX2.out hg3 (fun he => by have := qcd HO.out _ he.symm; have := HL.out; omega))
    have d0 : w3.cell? ⟨w.heap.size, 0, none⟩ = some (.int .i64 3) := (qak BX3.out 0).trans rfl
    clear ho3 hg3 hat
    go_wp2
    go_ret2
    refine ⟨_, rfl, fun _ => qea (qeo ?_ (Nat.le_of_lt HL.out)) (fun _ _ => trivial), (fun h => by cases h), HB3.out⟩
    have := HO3.out
    rw [qdr qbt, qds qbt, ← List.flatMap_append] at this
    rw [HCUT.out]
    exact this
   ·
    rw [if_neg hk3] at hq
    have hkb3 : (k == 3) = false := beq_eq_false_iff_ne.2 hk3
    have HW := Aside0.mk (fun W1 A1 c1 h hc1 => impl_withFile.calls A1 c1 (l.take i ++ l.drop (i + 1)) t (qai l i).f1 _ W1 h hc1 (qeb _ _ _ (by rw [HCUT.out]; omega) HRC.out))
    obtain ⟨ad, e1, hx_0, hx_1⟩ := qax HR.out (i : Int) (by omega) (by omega)
    cases e1
    rw [Int.toNat_natCast] at hx_0 hx_1
    generalize (qai l i).f1 = x1 at *
    subst hq
    clear hja hsz hris hj0 hk hk3
    go_enter Try.func61, Try.ntmps61
    go_wp2_with fail
    refine (HI.out _ ?q7).mono ?_
    case q7 => exact Kd.C_alloc HR.out _
    rintro e w1 ⟨rfl, hb1⟩
    have HB1 : Aside0 (Below w.heap.size w w1) := ⟨qad (qaq (Below.refl _ _) _) hb1⟩
    have BX : Aside0 (w1.heap[w.heap.size]? = some (.cells #[.int .i64 k, .string n, .string t, .string d] 73 (0, 0))) := ⟨qab (qcj w _) hb1⟩
    have b0 : w1.cell? ⟨w.heap.size, 0, none⟩ = some (.int .i64 k) := (qak BX.out 0).trans rfl
    clear hb1
    go_wp2_with fail
    refine (HF.out _ ?q8).mono ?_
    case q8 => exact Kd.C_below HR.out HB1.out
    rintro e w2 ⟨v, rfl, ho, hb2⟩
    have HO := Aside0.mk (qck ho)
    have HB2 : Aside0 (Below w.heap.size w w2) := ⟨qad HB1.out hb2⟩
    have BX2 := Aside0.mk (qab BX.out hb2)
    have HL : Aside0 (w.heap.size < w1.heap.size) := ⟨qan BX.out⟩
    clear ho hb2 b0
    go_wp2_with fail
    refine (lib_del_File w1.heap.size v l.length i (l.flatMap qcn) _ HO.out (qek qdb _) hil).mono ?_
    rintro e w3 ⟨v', rfl, ho3, hg3, hat⟩
    have hR3 : Kd.R k80 80 w3 w.heap.size (fun _ => True) v' (l.take i ++ l.drop (i + 1)) := by
     refine qea (qeo ?_ (Nat.le_of_lt HL.out)) (fun _ _ => trivial)
     rw [qdr qbt, qds qbt, ← List.flatMap_append] at ho3
     rw [HCUT.out]
     exact ho3
    obtain ⟨A3, c3, rfl, hc3, hC3⟩ := Kd.R_reads hR3
    have HC3 := Aside0.mk hC3
    have HL3 := Aside0.mk hc3
    have HB3 : Aside0 (Below w.heap.size w w3) := ⟨qcl HB2.out _ (Nat.le_of_lt (qan BX2.out)) hg3 (fun k hk => by have := qcd HO.out k hk; have := HL.out; omega)⟩
    have BX3 := Aside0.mk (qbb BX2.out hg3 (fun he => by have := qcd HO.out _ he.symm; have := HL.out; omega))
    have d0 : w3.cell? ⟨w.heap.size, 0, none⟩ = some (.int .i64 k) := (qak BX3.out 0).trans rfl
    have d2 : w3.cell? ⟨w.heap.size, 2, none⟩ = some (.string t) := (qak BX3.out 2).trans rfl
    replace hx_0 := qac HB3.out hx_0
    replace hx_1 := qac HB3.out hx_1
    have hil' := eq_true (show (i : Int) < (l.length : Int) by omega)
    have HL4 : Aside0 (w.heap.size ≤ w3.heap.size) := ⟨HB3.out.size⟩
    clear ho3 hg3 hat hR3 hC3 hc3
    rw [HCUT.out] at *
    go_wp2
    go_region_with (go_at_call 99; (with_reducible refine (HW.out _ A3 c3 ?q9 ?q10).mono ?_); (case q9 => repeat (first | exact HC3.out | (with_reducible refine Kd.C_drewN ?_ _) | (with_reducible refine Kd.C_drew ?_))); (case q10 => exact HL3.out); rintro e w4 ⟨v4, rfl, ho4, hb4⟩; have HO4 := Aside0.mk ho4; have HB4 : Aside0 (Below w.heap.size w w4) := ⟨qad (qcw HB3.out) hb4⟩; clear ho4 hb4)
    all_goals
     go_wp2
     go_ret2
     exact ⟨_, rfl, fun _ => Kd.R_lower HO4.out (by simpa using HL4.out), (fun h => by cases h), HB4.out⟩
  ·
   rw [if_neg hi] at hq
   subst hq
   clear hja hsz hris hj0 hk
   go_enter Try.func61, Try.ntmps61
   go_wp2_with fail
   refine (HI.out _ ?q7).mono ?_
   case q7 => exact Kd.C_alloc HR.out _
   rintro e w1 ⟨rfl, hb1⟩
   have HB1 : Aside0 (Below w.heap.size w w1) := ⟨qad (qaq (Below.refl _ _) _) hb1⟩
   have BX : Aside0 (w1.heap[w.heap.size]? = some (.cells #[.int .i64 k, .string n, .string t, .string d] 73 (0, 0))) := ⟨qab (qcj w _) hb1⟩
   have b0 : w1.cell? ⟨w.heap.size, 0, none⟩ = some (.int .i64 k) := (qak BX.out 0).trans rfl
   clear hb1
   go_wp2
   go_ret2
   exact ⟨_, rfl, (fun h => by cases h), fun _ => (by first | exact ⟨rfl, rfl⟩ | exact ⟨rfl, trivial⟩), HB1.out⟩

end

section
def impl_DOp_on.f (a0_0 : Int) (a0_1 a0_2 a0_3 : ByteArray) (l1 : List S80) : Option (List S80 × Bool) :=
 if l1.length < 1099511627776 ∧ qci l1 ∧ l1.all (fun x => decide (x.f1.size + a0_3.size ≤ 9223372036854775807)) = true ∧ a0_3.size ≤ 9223372036854775807 then some (onF l1 a0_0 a0_1 a0_2 a0_3) else none
set_option maxHeartbeats 8000000 in
set_option maxRecDepth 100000 in
theorem impl_DOp_on.calls (a0_0 : Int) (a0_1 : ByteArray) (a0_2 : ByteArray) (a0_3 : ByteArray) (P1_ : Nat → Prop) (A1 : Option Addr) (c1 : Nat) (l1 : List (S80)) (r1 : List (S80)) (r2 : Bool) (w : World) (hs1 : Kd.V k80 80 w w.heap.size (fun k_ => P1_ k_) (.slice A1 l1.length c1) l1) (h : impl_DOp_on.f a0_0 a0_1 a0_2 a0_3 l1 = some (r1, r2)) :
 Calls Try.prog 61 #[.agg #[.int .i64 a0_0, .string a0_1, .string a0_2, .string a0_3], .slice A1 l1.length c1] w fun e w' => ∃ v0_ : Value, e = .returned (.tuple #[v0_, .bool r2]) ∧ Kd.V k80 80 w' w.heap.size (fun k_ => (P1_ k_ ∨ w.heap.size ≤ k_)) v0_ r1 ∧ Below w.heap.size w w' := by
 unfold impl_DOp_on.f at h
 by_cases hc : l1.length < 1099511627776 ∧ qci l1 ∧ l1.all (fun x => decide (x.f1.size + a0_3.size ≤ 9223372036854775807)) = true ∧ a0_3.size ≤ 9223372036854775807
 ·
  rw [if_pos hc] at h
  have hq := Option.some.inj h
  have hr := Kd.V_reads' hs1
  refine (on_run a0_0 a0_1 a0_2 a0_3 A1 c1 l1 w hr.2.2 hr.2.1 hc.1 hc.2.1 (fun x hx => of_decide_eq_true (List.all_eq_true.1 hc.2.2.1 x hx)) hc.2.2.2).mono ?_
  rintro e w' ⟨v, rfl, h1, h2, hb⟩
  rw [hq] at h1 h2 ⊢
  refine ⟨v, rfl, ?_, hb⟩
  cases r2 with
  | true => exact Kd.R_V (Kd.R_mono (Kd.R_bound (h1 rfl)) (fun _ hk => .inr hk.2.1))
  | false =>
   obtain ⟨rfl, hl⟩ := h2 rfl
   simp only at hl
   subst hl
   exact Kd.V_mono (Kd.V_below hs1 hb) (fun _ hk => .inl hk)
 ·
  rw [if_neg hc] at h
  cases h

end

section
attribute [local go_sem] str_geq str_leq str_gtr
def impl_areFiles.l0 : Nat → List (S80) → Int → List (S80) → Int → Int → Option (Bool)
 | 0, _, _, _, _, _ => none
 | k + 1, x0, x3, x6, x7, x8 => if x8 < x7 then (if 0 ≤ x8 then (if x8 < (x6.length : Int) then ((impl_isFileName.f ((qai x6 x8).f0)).bind fun t103 => (if t103 = true then (if (wrap64 (x3 + (((qai x6 x8).f1).size : Int))) > 200000 then (some false) else (if x8 > 0 then (if 0 ≤ (wrap64 (x8 - 1)) then (if (wrap64 (x8 - 1)) < (x0.length : Int) then (if ((Op.bytesLess (((qai x0 (wrap64 (x8 - 1))).f0).toList) (((qai x6 x8).f0).toList)) = true) then (impl_areFiles.l0 k x0 (wrap64 (x3 + (((qai x6 x8).f1).size : Int))) x6 x7 (wrap64 (x8 + 1))) else (some false)) else (none)) else (none)) else (impl_areFiles.l0 k x0 (wrap64 (x3 + (((qai x6 x8).f1).size : Int))) x6 x7 (wrap64 (x8 + 1))))) else (some false))) else (none)) else (none)) else (some (decide ((x0.length : Int) ≤ 60)))
def impl_areFiles.f (k : Nat) (l0 : List (S80)) : Option (Bool) := impl_areFiles.l0 k l0 0 l0 (l0.length : Int) 0
theorem impl_areFiles.mono_l : ∀ k, (∀ y0 y1 y2 y3 y4, LeO (impl_areFiles.l0 k y0 y1 y2 y3 y4) (impl_areFiles.l0 (k + 1) y0 y1 y2 y3 y4))
 | 0 => fun _ _ _ _ _ r h => by simp [impl_areFiles.l0] at h
 | k + 1 => by
  have ih0 := impl_areFiles.mono_l k
  ·
   intro y0 y1 y2 y3 y4
   unfold impl_areFiles.l0
   repeat' first
   | (with_reducible exact ih0 _ _ _ _ _)
   | (with_reducible exact LeO.refl _)
   | (with_reducible exact LeO.none _)
   | (with_reducible refine LeO.ite ?_ ?_)
   | (with_reducible refine LeO.bind ?_ (fun _ => ?_))
   | exact ih0 _ _ _ _ _
   | exact LeO.none _
   | refine LeO.ite ?_ ?_
   | refine LeO.bind ?_ (fun _ => ?_)
theorem impl_areFiles.mono : ∀ a0 k, LeO (impl_areFiles.f k a0) (impl_areFiles.f (k + 1) a0) := by
 intro a0 k
 have ih0 := impl_areFiles.mono_l k
 unfold impl_areFiles.f
 repeat' first
  | (with_reducible exact ih0 _ _ _ _ _)
  | (with_reducible exact LeO.refl _)
  | (with_reducible exact LeO.none _)
  | (with_reducible refine LeO.ite ?_ ?_)
  | (with_reducible refine LeO.bind ?_ (fun _ => ?_))
  | exact ih0 _ _ _ _ _
  | exact LeO.none _
  | refine LeO.ite ?_ ?_
  | refine LeO.bind ?_ (fun _ => ?_)
set_option maxHeartbeats 8000000 in
set_option maxRecDepth 100000 in
theorem impl_areFiles.calls (k : Nat) (A0 : Option Addr) (c0 : Nat) (l0 : List (S80)) (r : Bool) (w : World) (hr0 : Kd.C k80 w A0 l0.length l0) (hc0 : l0.length ≤ c0) (h : impl_areFiles.f k l0 = some r) :
 Calls Try.prog 62 #[.slice A0 l0.length c0] w fun e w' => e = .returned (.bool r) ∧ Below w.heap.size w w' := by
 have hu80 := Try.underlying80
 have HR0 := am hr0
 have HC0 := am hc0
 clear hr0 hc0
 have HB := am (Below.refl w.heap.size w)
 have H : (impl_areFiles.l0 k l0 0 l0 (l0.length : Int) 0) = some r := h
 clear h
 have H' := am H
 clear H
 go_enter Try.func62, Try.ntmps62
 go_wp2
 repeat (go_quiet (fail); try go_wp2)
 go_loopg [3, 8] k (fun kq v3 v8 w' => ∃ (x3_1 : Int) (x8_1 : Int), v3 = .int .i64 x3_1 ∧ v8 = .int .i64 x8_1 ∧ Aside0 (impl_areFiles.l0 kq l0 x3_1 l0 (l0.length : Int) x8_1 = some r) ∧ Aside0 (kq ≤ k) ∧ Aside0 (Below w.heap.size w w'))
 case atStart => exact ⟨(0), (0), au10, au10, H', ⟨Nat.le_refl _⟩, ⟨(au3 HB.out)⟩⟩
 case round =>
  clear H'
  obtain ⟨x3_1, x8_1, rfl, rfl, HA, HK1, HB⟩ := hrel
  cases gk with
  | zero => exact absurd HA.out (by simp [impl_areFiles.l0])
  | succ k1 =>
   have H := HA.out
   clear HA
   simp only [impl_areFiles.l0] at H
   by_cases c2 : x8_1 < (l0.length : Int)
   ·
    rw [if_pos c2] at H
    have c2b0 : decide (x8_1 < (l0.length : Int)) = true := decide_eq_true c2
    clear c2
    by_cases c3 : 0 ≤ x8_1
    ·
     rw [if_pos c3] at H
     have c3b0 : decide (0 ≤ x8_1) = true := decide_eq_true c3
     clear c3
     by_cases c4 : x8_1 < (l0.length : Int)
     ·
      rw [if_pos c4] at H
      have c4b0 : decide (x8_1 < (l0.length : Int)) = true := decide_eq_true c4
      clear c4
      replace H := Option.bind_eq_some_iff.mp H
      obtain ⟨t103, A50, H⟩ := H
      replace H : (if t103 = true then (if (wrap64 (x3_1 + (((qai l0 x8_1).f1).size : Int))) > 200000 then (some false) else (if x8_1 > 0 then (if 0 ≤ (wrap64 (x8_1 - 1)) then (if (wrap64 (x8_1 - 1)) < (l0.length : Int) then (if ((Op.bytesLess (((qai l0 (wrap64 (x8_1 - 1))).f0).toList) (((qai l0 x8_1).f0).toList)) = true) then (impl_areFiles.l0 k1 l0 (wrap64 (x3_1 + (((qai l0 x8_1).f1).size : Int))) l0 (l0.length : Int) (wrap64 (x8_1 + 1))) else (some false)) else (none)) else (none)) else (impl_areFiles.l0 k1 l0 (wrap64 (x3_1 + (((qai l0 x8_1).f1).size : Int))) l0 (l0.length : Int) (wrap64 (x8_1 + 1))))) else (some false)) = some r := H
      have A5 := am A50
      clear A50
      by_cases c6 : t103 = true
      ·
       subst c6
       have H1 : (if (wrap64 (x3_1 + (((qai l0 x8_1).f1).size : Int))) > 200000 then (some false) else (if x8_1 > 0 then (if 0 ≤ (wrap64 (x8_1 - 1)) then (if (wrap64 (x8_1 - 1)) < (l0.length : Int) then (if ((Op.bytesLess (((qai l0 (wrap64 (x8_1 - 1))).f0).toList) (((qai l0 x8_1).f0).toList)) = true) then (impl_areFiles.l0 k1 l0 (wrap64 (x3_1 + (((qai l0 x8_1).f1).size : Int))) l0 (l0.length : Int) (wrap64 (x8_1 + 1))) else (some false)) else (none)) else (none)) else (impl_areFiles.l0 k1 l0 (wrap64 (x3_1 + (((qai l0 x8_1).f1).size : Int))) l0 (l0.length : Int) (wrap64 (x8_1 + 1))))) = some r := by rw [if_pos rfl] at H; exact H
       clear H
       have H := H1
       clear H1
       by_cases c7 : (wrap64 (x3_1 + (((qai l0 x8_1).f1).size : Int))) > 200000
       ·
        rw [if_pos c7] at H
        have c7b0 : decide (200000 < (wrap64 (x3_1 + (((qai l0 x8_1).f1).size : Int)))) = true := decide_eq_true c7
        clear c7
        obtain rfl := Option.some.inj H
        have p101 : 0 ≤ (x8_1 : Int) := of_decide_eq_true au9
        have q101 : x8_1 < (l0.length : Int) := of_decide_eq_true au9
        obtain ⟨ad101, e101, hx101_0, hx101_1⟩ := qax HR0.out x8_1 p101 q101
        cases e101
        replace hx101_0 := qac HB.out hx101_0
        replace hx101_1 := qac HB.out hx101_1
        replace p101 := eq_true p101
        replace q101 := eq_true q101
        go_wp2_with (first | ((with_reducible refine qal (N := 5) rfl ?_); refine bxE (N := 5) (cs := #[.string (⟨#[]⟩ : ByteArray), .string (⟨#[]⟩ : ByteArray)]) (t := 80) ?_; intro gb102 hg w8 hbox hb; have BK102 := am (hbox); have GW102 := am (sgE hg (au3 HB.out) : w.heap.size ≤ gb102); have GE102 := GW102; replace HB := am (qad (au3 HB.out) hb); clear hb hbox hg; have hcz9_0 : _ = some (Value.string (⟨#[]⟩ : ByteArray)) := bcE BK102.out 0; have hcz9_1 : _ = some (Value.string (⟨#[]⟩ : ByteArray)) := bcE BK102.out 1; have hfz9_0 := qaa BK102.out 0; have hfz9_1 := qaa BK102.out 1) | (go_at_call 101; (with_reducible refine (impl_isFileName.calls ((qai l0 x8_1).f0) true _ A5.out).mono ?_); rintro e w' ⟨rfl, ⟨nd, rfl⟩⟩; (try first | exact ⟨rfl, _, World.drewN_drewN _ _ _⟩ | exact ⟨rfl, _, Eq.trans (World.drewN_drewN _ _ _) (congrArg (World.drewN _) (Nat.add_assoc _ _ _))⟩)))
        repeat (go_quiet (first | ((with_reducible refine qal (N := 5) rfl ?_); refine bxE (N := 5) (cs := #[.string (⟨#[]⟩ : ByteArray), .string (⟨#[]⟩ : ByteArray)]) (t := 80) ?_; intro gb102 hg w8 hbox hb; have BK102 := am (hbox); have GW102 := am (sgE hg (au3 HB.out) : w.heap.size ≤ gb102); have GE102 := GW102; replace HB := am (qad (au3 HB.out) hb); clear hb hbox hg; have hcz9_0 : _ = some (Value.string (⟨#[]⟩ : ByteArray)) := bcE BK102.out 0; have hcz9_1 : _ = some (Value.string (⟨#[]⟩ : ByteArray)) := bcE BK102.out 1; have hfz9_0 := qaa BK102.out 0; have hfz9_1 := qaa BK102.out 1) | (go_at_call 101; (with_reducible refine (impl_isFileName.calls ((qai l0 x8_1).f0) true _ A5.out).mono ?_); rintro e w' ⟨rfl, ⟨nd, rfl⟩⟩; (try first | exact ⟨rfl, _, World.drewN_drewN _ _ _⟩ | exact ⟨rfl, _, Eq.trans (World.drewN_drewN _ _ _) (congrArg (World.drewN _) (Nat.add_assoc _ _ _))⟩))); try go_wp2_with (first | ((with_reducible refine qal (N := 5) rfl ?_); refine bxE (N := 5) (cs := #[.string (⟨#[]⟩ : ByteArray), .string (⟨#[]⟩ : ByteArray)]) (t := 80) ?_; intro gb102 hg w8 hbox hb; have BK102 := am (hbox); have GW102 := am (sgE hg (au3 HB.out) : w.heap.size ≤ gb102); have GE102 := GW102; replace HB := am (qad (au3 HB.out) hb); clear hb hbox hg; have hcz9_0 : _ = some (Value.string (⟨#[]⟩ : ByteArray)) := bcE BK102.out 0; have hcz9_1 : _ = some (Value.string (⟨#[]⟩ : ByteArray)) := bcE BK102.out 1; have hfz9_0 := qaa BK102.out 0; have hfz9_1 := qaa BK102.out 1) | (go_at_call 101; (with_reducible refine (impl_isFileName.calls ((qai l0 x8_1).f0) true _ A5.out).mono ?_); rintro e w' ⟨rfl, ⟨nd, rfl⟩⟩; (try first | exact ⟨rfl, _, World.drewN_drewN _ _ _⟩ | exact ⟨rfl, _, Eq.trans (World.drewN_drewN _ _ _) (congrArg (World.drewN _) (Nat.add_assoc _ _ _))⟩))))
        go_ret
        exact ⟨by first | rfl | (simp [qag, qah] <;> rfl) | (simp [*, qag, qah] <;> rfl), (au7 HB.out GE102.out)⟩
       ·
        rw [if_neg c7] at H
        have c7b0 : decide (200000 < (wrap64 (x3_1 + (((qai l0 x8_1).f1).size : Int)))) = false := decide_eq_false c7
        clear c7
        by_cases c10 : x8_1 > 0
        ·
         rw [if_pos c10] at H
         have c10b0 : decide (0 < x8_1) = true := decide_eq_true c10
         clear c10
         obtain ⟨ji11, hji11⟩ : ∃ j_ : Int, (wrap64 (x8_1 - 1)) = j_ := ⟨_, rfl⟩
         replace H : (if 0 ≤ (ji11) then (if (ji11) < (l0.length : Int) then (if ((Op.bytesLess (((qai l0 (ji11)).f0).toList) (((qai l0 x8_1).f0).toList)) = true) then (impl_areFiles.l0 k1 l0 (wrap64 (x3_1 + (((qai l0 x8_1).f1).size : Int))) l0 (l0.length : Int) (wrap64 (x8_1 + 1))) else (some false)) else (none)) else (none)) = some r := by first | (rw [hji11] at H; exact H) | (simp only [hji11] at H ⊢; exact H)
         (try rw [hji11] at A5)
         have hji11w : (IntKind.i64.wrap (x8_1 - 1)) = ji11 := (i64_w _).trans hji11
         by_cases c12 : 0 ≤ (ji11)
         ·
          rw [if_pos c12] at H
          have c12b0 : decide (0 ≤ (ji11)) = true := decide_eq_true c12
          clear c12
          by_cases c13 : (ji11) < (l0.length : Int)
          ·
           rw [if_pos c13] at H
           have c13b0 : decide ((ji11) < (l0.length : Int)) = true := decide_eq_true c13
           clear c13
           by_cases c14 : ((Op.bytesLess (((qai l0 (ji11)).f0).toList) (((qai l0 x8_1).f0).toList)) = true)
           ·
            rw [if_pos c14] at H
            have c14b0 : (Op.bytesLess (((qai l0 (ji11)).f0).toList) (((qai l0 x8_1).f0).toList)) = true := c14
            clear c14
            have H' := am H
            clear H
            have p101 : 0 ≤ (x8_1 : Int) := of_decide_eq_true au9
            have q101 : x8_1 < (l0.length : Int) := of_decide_eq_true au9
            obtain ⟨ad101, e101, hx101_0, hx101_1⟩ := qax HR0.out x8_1 p101 q101
            cases e101
            replace hx101_0 := qac HB.out hx101_0
            replace hx101_1 := qac HB.out hx101_1
            replace p101 := eq_true p101
            replace q101 := eq_true q101
            go_wp2_with (first | ((with_reducible refine qal (N := 5) rfl ?_); refine bxE (N := 5) (cs := #[.string (⟨#[]⟩ : ByteArray), .string (⟨#[]⟩ : ByteArray)]) (t := 80) ?_; intro gb102 hg w15 hbox hb; have BK102 := am (hbox); have GW102 := am (sgE hg (au3 HB.out) : w.heap.size ≤ gb102); have GE102 := GW102; replace HB := am (qad (au3 HB.out) hb); clear hb hbox hg; have hcz16_0 : _ = some (Value.string (⟨#[]⟩ : ByteArray)) := bcE BK102.out 0; have hcz16_1 : _ = some (Value.string (⟨#[]⟩ : ByteArray)) := bcE BK102.out 1; have hfz16_0 := qaa BK102.out 0; have hfz16_1 := qaa BK102.out 1) | (go_at_call 101; (with_reducible refine (impl_isFileName.calls ((qai l0 x8_1).f0) true _ A5.out).mono ?_); rintro e w' ⟨rfl, ⟨nd, rfl⟩⟩; (try first | exact ⟨rfl, _, World.drewN_drewN _ _ _⟩ | exact ⟨rfl, _, Eq.trans (World.drewN_drewN _ _ _) (congrArg (World.drewN _) (Nat.add_assoc _ _ _))⟩); have p104 : 0 ≤ ((ji11) : Int) := of_decide_eq_true au9; have q104 : (ji11) < (l0.length : Int) := of_decide_eq_true au9; obtain ⟨ad104, e104, hx104_0, hx104_1⟩ := qax HR0.out (ji11) p104 q104; obtain rfl : ad101 = ad104 := (by injection e104); have hn104_0 : ad101.block ≠ gb102 := Nat.ne_of_lt (Nat.lt_of_lt_of_le (by have := World.block_lt_of_cell? _ _ hx104_0; first | rwa [qao] at this | exact this) GW102.out); have hn104_1 : ad101.block ≠ gb102 := Nat.ne_of_lt (Nat.lt_of_lt_of_le (by have := World.block_lt_of_cell? _ _ hx104_0; first | rwa [qao] at this | exact this) GW102.out); replace hx104_0 := qac HB.out hx104_0; replace hx104_1 := qac HB.out hx104_1; replace hx104_0 := (qav (p := ⟨gb102, 0, none⟩) (by first | (rw [qao]; exact hn104_0) | (show (Addr.add _ _).block ≠ _; rw [qao]; exact hn104_0) | exact hn104_0) (.string ((qai l0 x8_1).f0))).trans hx104_0; replace hx104_1 := (qav (p := ⟨gb102, 0, none⟩) (by first | (rw [qao]; exact hn104_0) | (show (Addr.add _ _).block ≠ _; rw [qao]; exact hn104_0) | exact hn104_0) (.string ((qai l0 x8_1).f0))).trans hx104_1; replace hx104_0 := (qav (p := ⟨gb102, 1, none⟩) (by first | (rw [qao]; exact hn104_1) | (show (Addr.add _ _).block ≠ _; rw [qao]; exact hn104_1) | exact hn104_1) (.string ((qai l0 x8_1).f1))).trans hx104_0; replace hx104_1 := (qav (p := ⟨gb102, 1, none⟩) (by first | (rw [qao]; exact hn104_1) | (show (Addr.add _ _).block ≠ _; rw [qao]; exact hn104_1) | exact hn104_1) (.string ((qai l0 x8_1).f1))).trans hx104_1; (try have hy104_0 := fun (n_ : Nat) => (show ((((w15.drewN n_).setCell ⟨gb102, 0, none⟩ (.string ((qai l0 x8_1).f0))).setCell ⟨gb102, 1, none⟩ (.string ((qai l0 x8_1).f1)))).cell? _ = some _ from hx104_0)); (try have hy104_1 := fun (n_ : Nat) => (show ((((w15.drewN n_).setCell ⟨gb102, 0, none⟩ (.string ((qai l0 x8_1).f0))).setCell ⟨gb102, 1, none⟩ (.string ((qai l0 x8_1).f1)))).cell? _ = some _ from hx104_1)); clear hn104_0; clear hn104_1; replace p104 := eq_true p104; replace q104 := eq_true q104))
            (try (have p104 : 0 ≤ ((ji11) : Int) := of_decide_eq_true au9; have q104 : (ji11) < (l0.length : Int) := of_decide_eq_true au9; obtain ⟨ad104, e104, hx104_0, hx104_1⟩ := qax HR0.out (ji11) p104 q104; obtain rfl : ad101 = ad104 := (by injection e104); have hn104_0 : ad101.block ≠ gb102 := Nat.ne_of_lt (Nat.lt_of_lt_of_le (by have := World.block_lt_of_cell? _ _ hx104_0; first | rwa [qao] at this | exact this) GW102.out); have hn104_1 : ad101.block ≠ gb102 := Nat.ne_of_lt (Nat.lt_of_lt_of_le (by have := World.block_lt_of_cell? _ _ hx104_0; first | rwa [qao] at this | exact this) GW102.out); replace hx104_0 := qac HB.out hx104_0; replace hx104_1 := qac HB.out hx104_1; replace hx104_0 := (qav (p := ⟨gb102, 0, none⟩) (by first | (rw [qao]; exact hn104_0) | (show (Addr.add _ _).block ≠ _; rw [qao]; exact hn104_0) | exact hn104_0) (.string ((qai l0 x8_1).f0))).trans hx104_0; replace hx104_1 := (qav (p := ⟨gb102, 0, none⟩) (by first | (rw [qao]; exact hn104_0) | (show (Addr.add _ _).block ≠ _; rw [qao]; exact hn104_0) | exact hn104_0) (.string ((qai l0 x8_1).f0))).trans hx104_1; replace hx104_0 := (qav (p := ⟨gb102, 1, none⟩) (by first | (rw [qao]; exact hn104_1) | (show (Addr.add _ _).block ≠ _; rw [qao]; exact hn104_1) | exact hn104_1) (.string ((qai l0 x8_1).f1))).trans hx104_0; replace hx104_1 := (qav (p := ⟨gb102, 1, none⟩) (by first | (rw [qao]; exact hn104_1) | (show (Addr.add _ _).block ≠ _; rw [qao]; exact hn104_1) | exact hn104_1) (.string ((qai l0 x8_1).f1))).trans hx104_1; (try have hy104_0 := fun (n_ : Nat) => (show ((((w15.drewN n_).setCell ⟨gb102, 0, none⟩ (.string ((qai l0 x8_1).f0))).setCell ⟨gb102, 1, none⟩ (.string ((qai l0 x8_1).f1)))).cell? _ = some _ from hx104_0)); (try have hy104_1 := fun (n_ : Nat) => (show ((((w15.drewN n_).setCell ⟨gb102, 0, none⟩ (.string ((qai l0 x8_1).f0))).setCell ⟨gb102, 1, none⟩ (.string ((qai l0 x8_1).f1)))).cell? _ = some _ from hx104_1)); clear hn104_0; clear hn104_1; replace p104 := eq_true p104; replace q104 := eq_true q104))
            repeat (go_quiet (first | ((with_reducible refine qal (N := 5) rfl ?_); refine bxE (N := 5) (cs := #[.string (⟨#[]⟩ : ByteArray), .string (⟨#[]⟩ : ByteArray)]) (t := 80) ?_; intro gb102 hg w15 hbox hb; have BK102 := am (hbox); have GW102 := am (sgE hg (au3 HB.out) : w.heap.size ≤ gb102); have GE102 := GW102; replace HB := am (qad (au3 HB.out) hb); clear hb hbox hg; have hcz16_0 : _ = some (Value.string (⟨#[]⟩ : ByteArray)) := bcE BK102.out 0; have hcz16_1 : _ = some (Value.string (⟨#[]⟩ : ByteArray)) := bcE BK102.out 1; have hfz16_0 := qaa BK102.out 0; have hfz16_1 := qaa BK102.out 1) | (go_at_call 101; (with_reducible refine (impl_isFileName.calls ((qai l0 x8_1).f0) true _ A5.out).mono ?_); rintro e w' ⟨rfl, ⟨nd, rfl⟩⟩; (try first | exact ⟨rfl, _, World.drewN_drewN _ _ _⟩ | exact ⟨rfl, _, Eq.trans (World.drewN_drewN _ _ _) (congrArg (World.drewN _) (Nat.add_assoc _ _ _))⟩))); try go_wp2_with (first | ((with_reducible refine qal (N := 5) rfl ?_); refine bxE (N := 5) (cs := #[.string (⟨#[]⟩ : ByteArray), .string (⟨#[]⟩ : ByteArray)]) (t := 80) ?_; intro gb102 hg w15 hbox hb; have BK102 := am (hbox); have GW102 := am (sgE hg (au3 HB.out) : w.heap.size ≤ gb102); have GE102 := GW102; replace HB := am (qad (au3 HB.out) hb); clear hb hbox hg; have hcz16_0 : _ = some (Value.string (⟨#[]⟩ : ByteArray)) := bcE BK102.out 0; have hcz16_1 : _ = some (Value.string (⟨#[]⟩ : ByteArray)) := bcE BK102.out 1; have hfz16_0 := qaa BK102.out 0; have hfz16_1 := qaa BK102.out 1) | (go_at_call 101; (with_reducible refine (impl_isFileName.calls ((qai l0 x8_1).f0) true _ A5.out).mono ?_); rintro e w' ⟨rfl, ⟨nd, rfl⟩⟩; (try first | exact ⟨rfl, _, World.drewN_drewN _ _ _⟩ | exact ⟨rfl, _, Eq.trans (World.drewN_drewN _ _ _) (congrArg (World.drewN _) (Nat.add_assoc _ _ _))⟩); have p104 : 0 ≤ ((ji11) : Int) := of_decide_eq_true au9; have q104 : (ji11) < (l0.length : Int) := of_decide_eq_true au9; obtain ⟨ad104, e104, hx104_0, hx104_1⟩ := qax HR0.out (ji11) p104 q104; obtain rfl : ad101 = ad104 := (by injection e104); have hn104_0 : ad101.block ≠ gb102 := Nat.ne_of_lt (Nat.lt_of_lt_of_le (by have := World.block_lt_of_cell? _ _ hx104_0; first | rwa [qao] at this | exact this) GW102.out); have hn104_1 : ad101.block ≠ gb102 := Nat.ne_of_lt (Nat.lt_of_lt_of_le (by have := World.block_lt_of_cell? _ _ hx104_0; first | rwa [qao] at this | exact this) GW102.out); replace hx104_0 := qac HB.out hx104_0; replace hx104_1 := qac HB.out hx104_1; replace hx104_0 := (qav (p := ⟨gb102, 0, none⟩) (by first | (rw [qao]; exact hn104_0) | (show (Addr.add _ _).block ≠ _; rw [qao]; exact hn104_0) | exact hn104_0) (.string ((qai l0 x8_1).f0))).trans hx104_0; replace hx104_1 := (qav (p := ⟨gb102, 0, none⟩) (by first | (rw [qao]; exact hn104_0) | (show (Addr.add _ _).block ≠ _; rw [qao]; exact hn104_0) | exact hn104_0) (.string ((qai l0 x8_1).f0))).trans hx104_1; replace hx104_0 := (qav (p := ⟨gb102, 1, none⟩) (by first | (rw [qao]; exact hn104_1) | (show (Addr.add _ _).block ≠ _; rw [qao]; exact hn104_1) | exact hn104_1) (.string ((qai l0 x8_1).f1))).trans hx104_0; replace hx104_1 := (qav (p := ⟨gb102, 1, none⟩) (by first | (rw [qao]; exact hn104_1) | (show (Addr.add _ _).block ≠ _; rw [qao]; exact hn104_1) | exact hn104_1) (.string ((qai l0 x8_1).f1))).trans hx104_1; (try have hy104_0 := fun (n_ : Nat) => (show ((((w15.drewN n_).setCell ⟨gb102, 0, none⟩ (.string ((qai l0 x8_1).f0))).setCell ⟨gb102, 1, none⟩ (.string ((qai l0 x8_1).f1)))).cell? _ = some _ from hx104_0)); (try have hy104_1 := fun (n_ : Nat) => (show ((((w15.drewN n_).setCell ⟨gb102, 0, none⟩ (.string ((qai l0 x8_1).f0))).setCell ⟨gb102, 1, none⟩ (.string ((qai l0 x8_1).f1)))).cell? _ = some _ from hx104_1)); clear hn104_0; clear hn104_1; replace p104 := eq_true p104; replace q104 := eq_true q104)))
            go_roundg k1
            case measure => have := HK1.out; omega
            case rel => exact ⟨(wrap64 (x3_1 + (((qai l0 x8_1).f1).size : Int))), (wrap64 (x8_1 + 1)), au10, au10, H', ⟨by have := HK1.out; omega⟩, ⟨(au7 HB.out GE102.out)⟩⟩
           ·
            rw [if_neg c14] at H
            have c14b0 : (Op.bytesLess (((qai l0 (ji11)).f0).toList) (((qai l0 x8_1).f0).toList)) = false := by simpa using c14
            clear c14
            obtain rfl := Option.some.inj H
            have p101 : 0 ≤ (x8_1 : Int) := of_decide_eq_true au9
            have q101 : x8_1 < (l0.length : Int) := of_decide_eq_true au9
            obtain ⟨ad101, e101, hx101_0, hx101_1⟩ := qax HR0.out x8_1 p101 q101
            cases e101
            replace hx101_0 := qac HB.out hx101_0
            replace hx101_1 := qac HB.out hx101_1
            replace p101 := eq_true p101
            replace q101 := eq_true q101
            go_wp2_with (first | ((with_reducible refine qal (N := 5) rfl ?_); refine bxE (N := 5) (cs := #[.string (⟨#[]⟩ : ByteArray), .string (⟨#[]⟩ : ByteArray)]) (t := 80) ?_; intro gb102 hg w17 hbox hb; have BK102 := am (hbox); have GW102 := am (sgE hg (au3 HB.out) : w.heap.size ≤ gb102); have GE102 := GW102; replace HB := am (qad (au3 HB.out) hb); clear hb hbox hg; have hcz18_0 : _ = some (Value.string (⟨#[]⟩ : ByteArray)) := bcE BK102.out 0; have hcz18_1 : _ = some (Value.string (⟨#[]⟩ : ByteArray)) := bcE BK102.out 1; have hfz18_0 := qaa BK102.out 0; have hfz18_1 := qaa BK102.out 1) | (go_at_call 101; (with_reducible refine (impl_isFileName.calls ((qai l0 x8_1).f0) true _ A5.out).mono ?_); rintro e w' ⟨rfl, ⟨nd, rfl⟩⟩; (try first | exact ⟨rfl, _, World.drewN_drewN _ _ _⟩ | exact ⟨rfl, _, Eq.trans (World.drewN_drewN _ _ _) (congrArg (World.drewN _) (Nat.add_assoc _ _ _))⟩); have p104 : 0 ≤ ((ji11) : Int) := of_decide_eq_true au9; have q104 : (ji11) < (l0.length : Int) := of_decide_eq_true au9; obtain ⟨ad104, e104, hx104_0, hx104_1⟩ := qax HR0.out (ji11) p104 q104; obtain rfl : ad101 = ad104 := (by injection e104); have hn104_0 : ad101.block ≠ gb102 := Nat.ne_of_lt (Nat.lt_of_lt_of_le (by have := World.block_lt_of_cell? _ _ hx104_0; first | rwa [qao] at this | exact this) GW102.out); have hn104_1 : ad101.block ≠ gb102 := Nat.ne_of_lt (Nat.lt_of_lt_of_le (by have := World.block_lt_of_cell? _ _ hx104_0; first | rwa [qao] at this | exact this) GW102.out); replace hx104_0 := qac HB.out hx104_0; replace hx104_1 := qac HB.out hx104_1; replace hx104_0 := (qav (p := ⟨gb102, 0, none⟩) (by first | (rw [qao]; exact hn104_0) | (show (Addr.add _ _).block ≠ _; rw [qao]; exact hn104_0) | exact hn104_0) (.string ((qai l0 x8_1).f0))).trans hx104_0; replace hx104_1 := (qav (p := ⟨gb102, 0, none⟩) (by first | (rw [qao]; exact hn104_0) | (show (Addr.add _ _).block ≠ _; rw [qao]; exact hn104_0) | exact hn104_0) (.string ((qai l0 x8_1).f0))).trans hx104_1; replace hx104_0 := (qav (p := ⟨gb102, 1, none⟩) (by first | (rw [qao]; exact hn104_1) | (show (Addr.add _ _).block ≠ _; rw [qao]; exact hn104_1) | exact hn104_1) (.string ((qai l0 x8_1).f1))).trans hx104_0; replace hx104_1 := (qav (p := ⟨gb102, 1, none⟩) (by first | (rw [qao]; exact hn104_1) | (show (Addr.add _ _).block ≠ _; rw [qao]; exact hn104_1) | exact hn104_1) (.string ((qai l0 x8_1).f1))).trans hx104_1; (try have hy104_0 := fun (n_ : Nat) => (show ((((w17.drewN n_).setCell ⟨gb102, 0, none⟩ (.string ((qai l0 x8_1).f0))).setCell ⟨gb102, 1, none⟩ (.string ((qai l0 x8_1).f1)))).cell? _ = some _ from hx104_0)); (try have hy104_1 := fun (n_ : Nat) => (show ((((w17.drewN n_).setCell ⟨gb102, 0, none⟩ (.string ((qai l0 x8_1).f0))).setCell ⟨gb102, 1, none⟩ (.string ((qai l0 x8_1).f1)))).cell? _ = some _ from hx104_1)); clear hn104_0; clear hn104_1; replace p104 := eq_true p104; replace q104 := eq_true q104))
            (try (have p104 : 0 ≤ ((ji11) : Int) := of_decide_eq_true au9; have q104 : (ji11) < (l0.length : Int) := of_decide_eq_true au9; obtain ⟨ad104, e104, hx104_0, hx104_1⟩ := qax HR0.out (ji11) p104 q104; obtain rfl : ad101 = ad104 := (by injection e104); have hn104_0 : ad101.block ≠ gb102 := Nat.ne_of_lt (Nat.lt_of_lt_of_le (by have := World.block_lt_of_cell? _ _ hx104_0; first | rwa [qao] at this | exact this) GW102.out); have hn104_1 : ad101.block ≠ gb102 := Nat.ne_of_lt (Nat.lt_of_lt_of_le (by have := World.block_lt_of_cell? _ _ hx104_0; first | rwa [qao] at this | exact this) GW102.out); replace hx104_0 := qac HB.out hx104_0; replace hx104_1 := qac HB.out hx104_1; replace hx104_0 := (qav (p := ⟨gb102, 0, none⟩) (by first | (rw [qao]; exact hn104_0) | (show (Addr.add _ _).block ≠ _; rw [qao]; exact hn104_0) | exact hn104_0) (.string ((qai l0 x8_1).f0))).trans hx104_0; replace hx104_1 := (qav (p := ⟨gb102, 0, none⟩) (by first | (rw [qao]; exact hn104_0) | (show (Addr.add _ _).block ≠ _; rw [qao]; exact hn104_0) | exact hn104_0) (.string ((qai l0 x8_1).f0))).trans hx104_1; replace hx104_0 := (qav (p := ⟨gb102, 1, none⟩) (by first | (rw [qao]; exact hn104_1) | (show (Addr.add _ _).block ≠ _; rw [qao]; exact hn104_1) | exact hn104_1) (.string ((qai l0 x8_1).f1))).trans hx104_0; replace hx104_1 := (qav (p := ⟨gb102, 1, none⟩) (by first | (rw [qao]; exact hn104_1) | (show (Addr.add _ _).block ≠ _; rw [qao]; exact hn104_1) | exact hn104_1) (.string ((qai l0 x8_1).f1))).trans hx104_1; (try have hy104_0 := fun (n_ : Nat) => (show ((((w17.drewN n_).setCell ⟨gb102, 0, none⟩ (.string ((qai l0 x8_1).f0))).setCell ⟨gb102, 1, none⟩ (.string ((qai l0 x8_1).f1)))).cell? _ = some _ from hx104_0)); (try have hy104_1 := fun (n_ : Nat) => (show ((((w17.drewN n_).setCell ⟨gb102, 0, none⟩ (.string ((qai l0 x8_1).f0))).setCell ⟨gb102, 1, none⟩ (.string ((qai l0 x8_1).f1)))).cell? _ = some _ from hx104_1)); clear hn104_0; clear hn104_1; replace p104 := eq_true p104; replace q104 := eq_true q104))
            repeat (go_quiet (first | ((with_reducible refine qal (N := 5) rfl ?_); refine bxE (N := 5) (cs := #[.string (⟨#[]⟩ : ByteArray), .string (⟨#[]⟩ : ByteArray)]) (t := 80) ?_; intro gb102 hg w17 hbox hb; have BK102 := am (hbox); have GW102 := am (sgE hg (au3 HB.out) : w.heap.size ≤ gb102); have GE102 := GW102; replace HB := am (qad (au3 HB.out) hb); clear hb hbox hg; have hcz18_0 : _ = some (Value.string (⟨#[]⟩ : ByteArray)) := bcE BK102.out 0; have hcz18_1 : _ = some (Value.string (⟨#[]⟩ : ByteArray)) := bcE BK102.out 1; have hfz18_0 := qaa BK102.out 0; have hfz18_1 := qaa BK102.out 1) | (go_at_call 101; (with_reducible refine (impl_isFileName.calls ((qai l0 x8_1).f0) true _ A5.out).mono ?_); rintro e w' ⟨rfl, ⟨nd, rfl⟩⟩; (try first | exact ⟨rfl, _, World.drewN_drewN _ _ _⟩ | exact ⟨rfl, _, Eq.trans (World.drewN_drewN _ _ _) (congrArg (World.drewN _) (Nat.add_assoc _ _ _))⟩))); try go_wp2_with (first | ((with_reducible refine qal (N := 5) rfl ?_); refine bxE (N := 5) (cs := #[.string (⟨#[]⟩ : ByteArray), .string (⟨#[]⟩ : ByteArray)]) (t := 80) ?_; intro gb102 hg w17 hbox hb; have BK102 := am (hbox); have GW102 := am (sgE hg (au3 HB.out) : w.heap.size ≤ gb102); have GE102 := GW102; replace HB := am (qad (au3 HB.out) hb); clear hb hbox hg; have hcz18_0 : _ = some (Value.string (⟨#[]⟩ : ByteArray)) := bcE BK102.out 0; have hcz18_1 : _ = some (Value.string (⟨#[]⟩ : ByteArray)) := bcE BK102.out 1; have hfz18_0 := qaa BK102.out 0; have hfz18_1 := qaa BK102.out 1) | (go_at_call 101; (with_reducible refine (impl_isFileName.calls ((qai l0 x8_1).f0) true _ A5.out).mono ?_); rintro e w' ⟨rfl, ⟨nd, rfl⟩⟩; (try first | exact ⟨rfl, _, World.drewN_drewN _ _ _⟩ | exact ⟨rfl, _, Eq.trans (World.drewN_drewN _ _ _) (congrArg (World.drewN _) (Nat.add_assoc _ _ _))⟩); have p104 : 0 ≤ ((ji11) : Int) := of_decide_eq_true au9; have q104 : (ji11) < (l0.length : Int) := of_decide_eq_true au9; obtain ⟨ad104, e104, hx104_0, hx104_1⟩ := qax HR0.out (ji11) p104 q104; obtain rfl : ad101 = ad104 := (by injection e104); have hn104_0 : ad101.block ≠ gb102 := Nat.ne_of_lt (Nat.lt_of_lt_of_le (by have := World.block_lt_of_cell? _ _ hx104_0; first | rwa [qao] at this | exact this) GW102.out); have hn104_1 : ad101.block ≠ gb102 := Nat.ne_of_lt (Nat.lt_of_lt_of_le (by have := World.block_lt_of_cell? _ _ hx104_0; first | rwa [qao] at this | exact this) GW102.out); replace hx104_0 := qac HB.out hx104_0; replace hx104_1 := qac HB.out hx104_1; replace hx104_0 := (qav (p := ⟨gb102, 0, none⟩) (by first | (rw [qao]; exact hn104_0) | (show (Addr.add _ _).block ≠ _; rw [qao]; exact hn104_0) | exact hn104_0) (.string ((qai l0 x8_1).f0))).trans hx104_0; replace hx104_1 := (qav (p := ⟨gb102, 0, none⟩) (by first | (rw [qao]; exact hn104_0) | (show (Addr.add _ _).block ≠ _; rw [qao]; exact hn104_0) | exact hn104_0) (.string ((qai l0 x8_1).f0))).trans hx104_1; replace hx104_0 := (qav (p := ⟨gb102, 1, none⟩) (by first | (rw [qao]; exact hn104_1) | (show (Addr.add _ _).block ≠ _; rw [qao]; exact hn104_1) | exact hn104_1) (.string ((qai l0 x8_1).f1))).trans hx104_0; replace hx104_1 := (qav (p := ⟨gb102, 1, none⟩) (by first | (rw [qao]; exact hn104_1) | (show (Addr.add _ _).block ≠ _; rw [qao]; exact hn104_1) | exact hn104_1) (.string ((qai l0 x8_1).f1))).trans hx104_1; (try have hy104_0 := fun (n_ : Nat) => (show ((((w17.drewN n_).setCell ⟨gb102, 0, none⟩ (.string ((qai l0 x8_1).f0))).setCell ⟨gb102, 1, none⟩ (.string ((qai l0 x8_1).f1)))).cell? _ = some _ from hx104_0)); (try have hy104_1 := fun (n_ : Nat) => (show ((((w17.drewN n_).setCell ⟨gb102, 0, none⟩ (.string ((qai l0 x8_1).f0))).setCell ⟨gb102, 1, none⟩ (.string ((qai l0 x8_1).f1)))).cell? _ = some _ from hx104_1)); clear hn104_0; clear hn104_1; replace p104 := eq_true p104; replace q104 := eq_true q104)))
            go_ret
            exact ⟨by first | rfl | (simp [qag, qah] <;> rfl) | (simp only [← hji11]; first | rfl | (simp [qag, qah] <;> rfl)) | (simp [*, qag, qah] <;> rfl), (au7 HB.out GE102.out)⟩
          ·
           rw [if_neg c13] at H
           exact absurd H (by simp)
         ·
          rw [if_neg c12] at H
          exact absurd H (by simp)
        ·
         rw [if_neg c10] at H
         have c10b0 : decide (0 < x8_1) = false := decide_eq_false c10
         clear c10
         have H' := am H
         clear H
         have p101 : 0 ≤ (x8_1 : Int) := of_decide_eq_true au9
         have q101 : x8_1 < (l0.length : Int) := of_decide_eq_true au9
         obtain ⟨ad101, e101, hx101_0, hx101_1⟩ := qax HR0.out x8_1 p101 q101
         cases e101
         replace hx101_0 := qac HB.out hx101_0
         replace hx101_1 := qac HB.out hx101_1
         replace p101 := eq_true p101
         replace q101 := eq_true q101
         go_wp2_with (first | ((with_reducible refine qal (N := 5) rfl ?_); refine bxE (N := 5) (cs := #[.string (⟨#[]⟩ : ByteArray), .string (⟨#[]⟩ : ByteArray)]) (t := 80) ?_; intro gb102 hg w19 hbox hb; have BK102 := am (hbox); have GW102 := am (sgE hg (au3 HB.out) : w.heap.size ≤ gb102); have GE102 := GW102; replace HB := am (qad (au3 HB.out) hb); clear hb hbox hg; have hcz20_0 : _ = some (Value.string (⟨#[]⟩ : ByteArray)) := bcE BK102.out 0; have hcz20_1 : _ = some (Value.string (⟨#[]⟩ : ByteArray)) := bcE BK102.out 1; have hfz20_0 := qaa BK102.out 0; have hfz20_1 := qaa BK102.out 1) | (go_at_call 101; (with_reducible refine (impl_isFileName.calls ((qai l0 x8_1).f0) true _ A5.out).mono ?_); rintro e w' ⟨rfl, ⟨nd, rfl⟩⟩; (try first | exact ⟨rfl, _, World.drewN_drewN _ _ _⟩ | exact ⟨rfl, _, Eq.trans (World.drewN_drewN _ _ _) (congrArg (World.drewN _) (Nat.add_assoc _ _ _))⟩)))
         repeat (go_quiet (first | ((with_reducible refine qal (N := 5) rfl ?_); refine bxE (N := 5) (cs := #[.string (⟨#[]⟩ : ByteArray), .string (⟨#[]⟩ : ByteArray)]) (t := 80) ?_; intro gb102 hg w19 hbox hb; have BK102 := am (hbox); have GW102 := am (sgE hg (au3 HB.out) : w.heap.size ≤ gb102); have GE102 := GW102; replace HB := am (qad (au3 HB.out) hb); clear hb hbox hg; have hcz20_0 : _ = some (Value.string (⟨#[]⟩ : ByteArray)) := bcE BK102.out 0; have hcz20_1 : _ = some (Value.string (⟨#[]⟩ : ByteArray)) := bcE BK102.out 1; have hfz20_0 := qaa BK102.out 0; have hfz20_1 := qaa BK102.out 1) | (go_at_call 101; (with_reducible refine (impl_isFileName.calls ((qai l0 x8_1).f0) true _ A5.out).mono ?_); rintro e w' ⟨rfl, ⟨nd, rfl⟩⟩; (try first | exact ⟨rfl, _, World.drewN_drewN _ _ _⟩ | exact ⟨rfl, _, Eq.trans (World.drewN_drewN _ _ _) (congrArg (World.drewN _) (Nat.add_assoc _ _ _))⟩))); try go_wp2_with (first | ((with_reducible refine qal (N := 5) rfl ?_); refine bxE (N := 5) (cs := #[.string (⟨#[]⟩ : ByteArray), .string (⟨#[]⟩ : ByteArray)]) (t := 80) ?_; intro gb102 hg w19 hbox hb; have BK102 := am (hbox); have GW102 := am (sgE hg (au3 HB.out) : w.heap.size ≤ gb102); have GE102 := GW102; replace HB := am (qad (au3 HB.out) hb); clear hb hbox hg; have hcz20_0 : _ = some (Value.string (⟨#[]⟩ : ByteArray)) := bcE BK102.out 0; have hcz20_1 : _ = some (Value.string (⟨#[]⟩ : ByteArray)) := bcE BK102.out 1; have hfz20_0 := qaa BK102.out 0; have hfz20_1 := qaa BK102.out 1) | (go_at_call 101; (with_reducible refine (impl_isFileName.calls ((qai l0 x8_1).f0) true _ A5.out).mono ?_); rintro e w' ⟨rfl, ⟨nd, rfl⟩⟩; (try first | exact ⟨rfl, _, World.drewN_drewN _ _ _⟩ | exact ⟨rfl, _, Eq.trans (World.drewN_drewN _ _ _) (congrArg (World.drewN _) (Nat.add_assoc _ _ _))⟩))))
         go_roundg k1
         case measure => have := HK1.out; omega
         case rel => exact ⟨(wrap64 (x3_1 + (((qai l0 x8_1).f1).size : Int))), (wrap64 (x8_1 + 1)), au10, au10, H', ⟨by have := HK1.out; omega⟩, ⟨(au7 HB.out GE102.out)⟩⟩
      ·
       replace c6 := Bool.eq_false_iff.mpr c6
       subst c6
       have H1 : (some false) = some r := by rw [if_neg (show ¬ (false = true) by decide)] at H; exact H
       clear H
       have H := H1
       clear H1
       obtain rfl := Option.some.inj H
       have p101 : 0 ≤ (x8_1 : Int) := of_decide_eq_true au9
       have q101 : x8_1 < (l0.length : Int) := of_decide_eq_true au9
       obtain ⟨ad101, e101, hx101_0, hx101_1⟩ := qax HR0.out x8_1 p101 q101
       cases e101
       replace hx101_0 := qac HB.out hx101_0
       replace hx101_1 := qac HB.out hx101_1
       replace p101 := eq_true p101
       replace q101 := eq_true q101
       go_wp2_with (first | ((with_reducible refine qal (N := 5) rfl ?_); refine bxE (N := 5) (cs := #[.string (⟨#[]⟩ : ByteArray), .string (⟨#[]⟩ : ByteArray)]) (t := 80) ?_; intro gb102 hg w21 hbox hb; have BK102 := am (hbox); have GW102 := am (sgE hg (au3 HB.out) : w.heap.size ≤ gb102); have GE102 := GW102; replace HB := am (qad (au3 HB.out) hb); clear hb hbox hg; have hcz22_0 : _ = some (Value.string (⟨#[]⟩ : ByteArray)) := bcE BK102.out 0; have hcz22_1 : _ = some (Value.string (⟨#[]⟩ : ByteArray)) := bcE BK102.out 1; have hfz22_0 := qaa BK102.out 0; have hfz22_1 := qaa BK102.out 1) | (go_at_call 101; (with_reducible refine (impl_isFileName.calls ((qai l0 x8_1).f0) false _ A5.out).mono ?_); rintro e w' ⟨rfl, ⟨nd, rfl⟩⟩; (try first | exact ⟨rfl, _, World.drewN_drewN _ _ _⟩ | exact ⟨rfl, _, Eq.trans (World.drewN_drewN _ _ _) (congrArg (World.drewN _) (Nat.add_assoc _ _ _))⟩)))
       repeat (go_quiet (first | ((with_reducible refine qal (N := 5) rfl ?_); refine bxE (N := 5) (cs := #[.string (⟨#[]⟩ : ByteArray), .string (⟨#[]⟩ : ByteArray)]) (t := 80) ?_; intro gb102 hg w21 hbox hb; have BK102 := am (hbox); have GW102 := am (sgE hg (au3 HB.out) : w.heap.size ≤ gb102); have GE102 := GW102; replace HB := am (qad (au3 HB.out) hb); clear hb hbox hg; have hcz22_0 : _ = some (Value.string (⟨#[]⟩ : ByteArray)) := bcE BK102.out 0; have hcz22_1 : _ = some (Value.string (⟨#[]⟩ : ByteArray)) := bcE BK102.out 1; have hfz22_0 := qaa BK102.out 0; have hfz22_1 := qaa BK102.out 1) | (go_at_call 101; (with_reducible refine (impl_isFileName.calls ((qai l0 x8_1).f0) false _ A5.out).mono ?_); rintro e w' ⟨rfl, ⟨nd, rfl⟩⟩; (try first | exact ⟨rfl, _, World.drewN_drewN _ _ _⟩ | exact ⟨rfl, _, Eq.trans (World.drewN_drewN _ _ _) (congrArg (World.drewN _) (Nat.add_assoc _ _ _))⟩))); try go_wp2_with (first | ((with_reducible refine qal (N := 5) rfl ?_); refine bxE (N := 5) (cs := #[.string (⟨#[]⟩ : ByteArray), .string (⟨#[]⟩ : ByteArray)]) (t := 80) ?_; intro gb102 hg w21 hbox hb; have BK102 := am (hbox); have GW102 := am (sgE hg (au3 HB.out) : w.heap.size ≤ gb102); have GE102 := GW102; replace HB := am (qad (au3 HB.out) hb); clear hb hbox hg; have hcz22_0 : _ = some (Value.string (⟨#[]⟩ : ByteArray)) := bcE BK102.out 0; have hcz22_1 : _ = some (Value.string (⟨#[]⟩ : ByteArray)) := bcE BK102.out 1; have hfz22_0 := qaa BK102.out 0; have hfz22_1 := qaa BK102.out 1) | (go_at_call 101; (with_reducible refine (impl_isFileName.calls ((qai l0 x8_1).f0) false _ A5.out).mono ?_); rintro e w' ⟨rfl, ⟨nd, rfl⟩⟩; (try first | exact ⟨rfl, _, World.drewN_drewN _ _ _⟩ | exact ⟨rfl, _, Eq.trans (World.drewN_drewN _ _ _) (congrArg (World.drewN _) (Nat.add_assoc _ _ _))⟩))))
       go_ret
       exact ⟨by first | rfl | (simp [qag, qah] <;> rfl) | (simp [*, qag, qah] <;> rfl), (au7 HB.out GE102.out)⟩
     ·
      rw [if_neg c4] at H
      exact absurd H (by simp)
    ·
     rw [if_neg c3] at H
     exact absurd H (by simp)
   ·
    rw [if_neg c2] at H
    have c2b0 : decide (x8_1 < (l0.length : Int)) = false := decide_eq_false c2
    clear c2
    obtain rfl := Option.some.inj H
    go_wp2
    repeat (go_quiet (fail); try go_wp2)
    go_ret
    exact ⟨by first | rfl | (simp [qag, qah] <;> rfl) | (simp [*, qag, qah] <;> rfl), (au3 HB.out)⟩

end

section
def impl_doRight.j0 : Nat → List (S80) → Bool → List (S80) → List (S80) → List (S73) → Int → ByteArray → ByteArray → ByteArray → Option ((List (S80)) × (List (S80)) × (List (S73)) × Int)
 | 0, _, _, _, _, _, _, _, _, _ => none
 | k + 1, x6, x26, x102000, x102001, x102002, x103000, x103001, x103002, x103003 => if x26 = true then ((impl_copyDisk.f x102000 x102001 x102002).bind fun bt119 => (some (bt119.1, bt119.2.1, bt119.2.2, 4))) else ((impl_copyDisk.f x102000 x102001 x102002).bind fun bt128 => ((impl_copyFiles.f x6).bind fun t138 => (if bt128.2.2.length < 2513169434916 then (some (t138, bt128.2.1, (bt128.2.2 ++ [(⟨x103000, x103001, x103002, x103003⟩ : S73)]), 0)) else (none))))
def impl_doRight.f (k : Nat) (l0_0 : List (S80)) (l0_1 : List (S80)) (l0_2 : List (S73)) (a1_0 : Int) (a1_1 : ByteArray) (a1_2 : ByteArray) (a1_3 : ByteArray) : Option ((List (S80)) × (List (S80)) × (List (S73)) × Int) := (impl_DOp_isFormed.f a1_0 a1_1 a1_2 a1_3).bind fun t104 => (if t104 = true then ((impl_DOp_on.f a1_0 a1_1 a1_2 a1_3 l0_0).bind fun bt114 => (if bt114.2 = true then (if (l0_2.length : Int) = 200 then (impl_doRight.j0 k bt114.1 true l0_0 l0_1 l0_2 a1_0 a1_1 a1_2 a1_3) else ((impl_areFiles.f k bt114.1).bind fun t118 => (impl_doRight.j0 k bt114.1 (!t118) l0_0 l0_1 l0_2 a1_0 a1_1 a1_2 a1_3))) else ((impl_copyDisk.f l0_0 l0_1 l0_2).bind fun bt144 => (some (bt144.1, bt144.2.1, bt144.2.2, 3))))) else ((impl_copyDisk.f l0_0 l0_1 l0_2).bind fun bt105 => (some (bt105.1, bt105.2.1, bt105.2.2, 2))))
theorem impl_doRight.mono_l : ∀ k, (∀ y0 y1 y2 y3 y4 y5 y6 y7 y8, LeO (impl_doRight.j0 k y0 y1 y2 y3 y4 y5 y6 y7 y8) (impl_doRight.j0 (k + 1) y0 y1 y2 y3 y4 y5 y6 y7 y8))
 | 0 => fun _ _ _ _ _ _ _ _ _ r h => by simp [impl_doRight.j0] at h
 | k + 1 => by
  have ih0 := impl_doRight.mono_l k
  ·
   intro y0 y1 y2 y3 y4 y5 y6 y7 y8
   unfold impl_doRight.j0
   repeat' first
   | (with_reducible exact ih0 _ _ _ _ _ _ _ _ _)
   | (with_reducible exact impl_areFiles.mono _ _)
   | (with_reducible exact LeO.refl _)
   | (with_reducible exact LeO.none _)
   | (with_reducible refine LeO.ite ?_ ?_)
   | (with_reducible refine LeO.bind ?_ (fun _ => ?_))
   | exact ih0 _ _ _ _ _ _ _ _ _
   | exact impl_areFiles.mono _ _
   | exact LeO.none _
   | refine LeO.ite ?_ ?_
   | refine LeO.bind ?_ (fun _ => ?_)
theorem impl_doRight.mono : ∀ a0 a1 a2 a3 a4 a5 a6 k, LeO (impl_doRight.f k a0 a1 a2 a3 a4 a5 a6) (impl_doRight.f (k + 1) a0 a1 a2 a3 a4 a5 a6) := by
 intro a0 a1 a2 a3 a4 a5 a6 k
 have ih0 := impl_doRight.mono_l k
 unfold impl_doRight.f
 repeat' first
  | (with_reducible exact ih0 _ _ _ _ _ _ _ _ _)
  | (with_reducible exact impl_areFiles.mono _ _)
  | (with_reducible exact LeO.refl _)
  | (with_reducible exact LeO.none _)
  | (with_reducible refine LeO.ite ?_ ?_)
  | (with_reducible refine LeO.bind ?_ (fun _ => ?_))
  | exact ih0 _ _ _ _ _ _ _ _ _
  | exact impl_areFiles.mono _ _
  | exact LeO.none _
  | refine LeO.ite ?_ ?_
  | refine LeO.bind ?_ (fun _ => ?_)
set_option maxHeartbeats 8000000 in
set_option maxRecDepth 100000 in
theorem impl_doRight.calls (k : Nat) (A0_0 : Option Addr) (c0_0 : Nat) (l0_0 : List (S80)) (A0_1 : Option Addr) (c0_1 : Nat) (l0_1 : List (S80)) (A0_2 : Option Addr) (c0_2 : Nat) (l0_2 : List (S73)) (a1_0 : Int) (a1_1 : ByteArray) (a1_2 : ByteArray) (a1_3 : ByteArray) (r1 : List (S80)) (r2 : List (S80)) (r3 : List (S73)) (r4 : Int) (w : World) (hr0_0 : Kd.C k80 w A0_0 l0_0.length l0_0) (hc0_0 : l0_0.length ≤ c0_0) (hr0_1 : Kd.C k80 w A0_1 l0_1.length l0_1) (hc0_1 : l0_1.length ≤ c0_1) (hr0_2 : Kd.C k73 w A0_2 l0_2.length l0_2) (hc0_2 : l0_2.length ≤ c0_2) (h : impl_doRight.f k l0_0 l0_1 l0_2 a1_0 a1_1 a1_2 a1_3 = some (r1, r2, r3, r4)) :
 Calls Try.prog 104 #[.agg #[.slice A0_0 l0_0.length c0_0, .slice A0_1 l0_1.length c0_1, .slice A0_2 l0_2.length c0_2], .agg #[.int .i64 a1_0, .string a1_1, .string a1_2, .string a1_3]] w fun e w' => ∃ v0_ v1_ v2_ : Value, e = .returned (.tuple #[.agg #[v0_, v1_, v2_], .int .i64 r4]) ∧ Kd.R k80 80 w' w.heap.size (fun k_ => some k_ ≠ (v1_ : Value).ownBlock) v0_ r1 ∧ Kd.R k80 80 w' w.heap.size (fun k_ => some k_ ≠ (v0_ : Value).ownBlock) v1_ r2 ∧ Kd.R k73 73 w' w.heap.size (fun _ => True) v2_ r3 ∧ Below w.heap.size w w' := by
 have hu31 := Try.underlying31
 have hu73 := Try.underlying73
 have HR0_0 := am hr0_0
 have HC0_0 := am hc0_0
 clear hr0_0 hc0_0
 have HR0_1 := am hr0_1
 have HC0_1 := am hc0_1
 clear hr0_1 hc0_1
 have HR0_2 := am hr0_2
 have HC0_2 := am hc0_2
 clear hr0_2 hc0_2
 have HB := am (Below.refl w.heap.size w)
 have H : ((impl_DOp_isFormed.f a1_0 a1_1 a1_2 a1_3).bind fun t104 => (if t104 = true then ((impl_DOp_on.f a1_0 a1_1 a1_2 a1_3 l0_0).bind fun bt114 => (if bt114.2 = true then (if (l0_2.length : Int) = 200 then (impl_doRight.j0 k bt114.1 true l0_0 l0_1 l0_2 a1_0 a1_1 a1_2 a1_3) else ((impl_areFiles.f k bt114.1).bind fun t118 => (impl_doRight.j0 k bt114.1 (!t118) l0_0 l0_1 l0_2 a1_0 a1_1 a1_2 a1_3))) else ((impl_copyDisk.f l0_0 l0_1 l0_2).bind fun bt144 => (some (bt144.1, bt144.2.1, bt144.2.2, 3))))) else ((impl_copyDisk.f l0_0 l0_1 l0_2).bind fun bt105 => (some (bt105.1, bt105.2.1, bt105.2.2, 2))))) = some (r1, r2, r3, r4) := h
 clear h
 replace H := Option.bind_eq_some_iff.mp H
 obtain ⟨t104, A30, H⟩ := H
 replace H : (if t104 = true then ((impl_DOp_on.f a1_0 a1_1 a1_2 a1_3 l0_0).bind fun bt114 => (if bt114.2 = true then (if (l0_2.length : Int) = 200 then (impl_doRight.j0 k bt114.1 true l0_0 l0_1 l0_2 a1_0 a1_1 a1_2 a1_3) else ((impl_areFiles.f k bt114.1).bind fun t118 => (impl_doRight.j0 k bt114.1 (!t118) l0_0 l0_1 l0_2 a1_0 a1_1 a1_2 a1_3))) else ((impl_copyDisk.f l0_0 l0_1 l0_2).bind fun bt144 => (some (bt144.1, bt144.2.1, bt144.2.2, 3))))) else ((impl_copyDisk.f l0_0 l0_1 l0_2).bind fun bt105 => (some (bt105.1, bt105.2.1, bt105.2.2, 2)))) = some (r1, r2, r3, r4) := H
 have A3 := am A30
 clear A30
 by_cases c4 : t104 = true
 ·
  subst c4
  have H1 : ((impl_DOp_on.f a1_0 a1_1 a1_2 a1_3 l0_0).bind fun bt114 => (if bt114.2 = true then (if (l0_2.length : Int) = 200 then (impl_doRight.j0 k bt114.1 true l0_0 l0_1 l0_2 a1_0 a1_1 a1_2 a1_3) else ((impl_areFiles.f k bt114.1).bind fun t118 => (impl_doRight.j0 k bt114.1 (!t118) l0_0 l0_1 l0_2 a1_0 a1_1 a1_2 a1_3))) else ((impl_copyDisk.f l0_0 l0_1 l0_2).bind fun bt144 => (some (bt144.1, bt144.2.1, bt144.2.2, 3))))) = some (r1, r2, r3, r4) := by rw [if_pos rfl] at H; exact H
  clear H
  have H := H1
  clear H1
  replace H := Option.bind_eq_some_iff.mp H
  obtain ⟨⟨t114, t117⟩, A50, H⟩ := H
  replace H : (if t117 = true then (if (l0_2.length : Int) = 200 then (impl_doRight.j0 k t114 true l0_0 l0_1 l0_2 a1_0 a1_1 a1_2 a1_3) else ((impl_areFiles.f k t114).bind fun t118 => (impl_doRight.j0 k t114 (!t118) l0_0 l0_1 l0_2 a1_0 a1_1 a1_2 a1_3))) else ((impl_copyDisk.f l0_0 l0_1 l0_2).bind fun bt144 => (some (bt144.1, bt144.2.1, bt144.2.2, 3)))) = some (r1, r2, r3, r4) := H
  have A5 := am A50
  clear A50
  by_cases c6 : t117 = true
  ·
   subst c6
   have H1 : (if (l0_2.length : Int) = 200 then (impl_doRight.j0 k t114 true l0_0 l0_1 l0_2 a1_0 a1_1 a1_2 a1_3) else ((impl_areFiles.f k t114).bind fun t118 => (impl_doRight.j0 k t114 (!t118) l0_0 l0_1 l0_2 a1_0 a1_1 a1_2 a1_3))) = some (r1, r2, r3, r4) := by rw [if_pos rfl] at H; exact H
   clear H
   have H := H1
   clear H1
   have HC7 := am H
   clear H
   go_enter Try.func104, Try.ntmps104
   go_upto_region 6 with (first | ((with_reducible refine qal (N := 2) rfl ?_); refine bxE (N := 2) (cs := #[.slice A0_0 l0_0.length c0_0, .slice A0_1 l0_1.length c0_1, .slice A0_2 l0_2.length c0_2]) (t := 31) ?_; intro gb101 hg w8 hbox hb; have BK101 := am (hbox); have GW101 := am (sgE hg (au3 HB.out) : w.heap.size ≤ gb101); have GE101 := GW101; replace HB := am (qad (au3 HB.out) hb); clear hb hbox hg) | ((with_reducible refine qal (N := 3) rfl ?_); refine bxE (N := 3) (cs := #[.int .i64 a1_0, .string a1_1, .string a1_2, .string a1_3]) (t := 73) ?_; intro gb102 hg w9 hbox hb; have BK102 := am (hbox); have GW102 := am (sgE hg (au7 HB.out GE101.out) : w.heap.size ≤ gb102); have GE102 := GW102; replace HB := am (qad (au7 HB.out GE101.out) hb); have NB101_102 := am ((sltE hg (qan (au1 BK101.out)))); have NB102_101 := am ((sgtE hg (qan (au1 BK101.out)))); replace BK101 := am (qab (au1 BK101.out) hb); clear hb hbox hg) | ((with_reducible refine qal (N := 4) rfl ?_); refine bxE (N := 4) (cs := #[.slice none 0 0, .slice none 0 0, .slice none 0 0]) (t := 31) ?_; intro gb103 hg w10 hbox hb; have BK103 := am (hbox); have GW103 := am (sgE hg (au4 HB.out GE101.out GE102.out) : w.heap.size ≤ gb103); have GE103 := GW103; replace HB := am (qad (au4 HB.out GE101.out GE102.out) hb); have NB101_103 := am ((sltE hg (qan (au1 BK101.out)))); have NB103_101 := am ((sgtE hg (qan (au1 BK101.out)))); replace BK101 := am (qab (au1 BK101.out) hb); have NB102_103 := am ((sltE hg (qan (au1 BK102.out)))); have NB103_102 := am ((sgtE hg (qan (au1 BK102.out)))); replace BK102 := am (qab (au1 BK102.out) hb); clear hb hbox hg; have hnb11 := NB102_101.out; have hnc11 := NB101_102.out; have hnb12 := NB102_103.out; have hnc12 := NB103_102.out; have hcz13_0 : _ = some (Value.int .i64 a1_0) := bcE BK102.out 0; have hcz13_1 : _ = some (Value.string a1_1) := bcE BK102.out 1; have hcz13_2 : _ = some (Value.string a1_2) := bcE BK102.out 2; have hcz13_3 : _ = some (Value.string a1_3) := bcE BK102.out 3; have hfz13_0 := qaa BK102.out 0; have hfz13_1 := qaa BK102.out 1; have hfz13_2 := qaa BK102.out 2; have hfz13_3 := qaa BK102.out 3) | ((with_reducible refine qaj (f := 89) rfl ?_); refine qap (some 10) rfl rfl Try.func89 (by kernel_rfl) rfl #[.agg #[.int .i64 a1_0, .string a1_1, .string a1_2, .string a1_3]] rfl au6 ?_; (with_reducible refine (impl_DOp_isFormed.calls a1_0 a1_1 a1_2 a1_3 true _ A3.out).mono ?_); rintro e w14 ⟨rfl, hb⟩; refine ⟨_, rfl, ?_⟩; replace BK101 := am (qab (au1 BK101.out) hb); replace BK102 := am (qab (au1 BK102.out) hb); replace BK103 := am (qab (au1 BK103.out) hb); replace HB := am (qad (au11 HB.out GE101.out GE102.out GE103.out) hb); (try clear hb); (try clear hb2); (try clear hk); (try clear hi); have hcz15_0 : _ = some (Value.int .i64 a1_0) := bcE BK102.out 0; have hcz15_1 : _ = some (Value.string a1_1) := bcE BK102.out 1; have hcz15_2 : _ = some (Value.string a1_2) := bcE BK102.out 2; have hcz15_3 : _ = some (Value.string a1_3) := bcE BK102.out 3; have hfz15_0 := qaa BK102.out 0; have hfz15_1 := qaa BK102.out 1; have hfz15_2 := qaa BK102.out 2; have hfz15_3 := qaa BK102.out 3; have hnb16 := NB101_103.out; have hnc16 := NB103_101.out; have hcz17_0 : _ = some (Value.slice A0_0 l0_0.length c0_0) := bcE BK101.out 0; have hcz17_1 : _ = some (Value.slice A0_1 l0_1.length c0_1) := bcE BK101.out 1; have hcz17_2 : _ = some (Value.slice A0_2 l0_2.length c0_2) := bcE BK101.out 2; have hfz17_0 := qaa BK101.out 0; have hfz17_1 := qaa BK101.out 1; have hfz17_2 := qaa BK101.out 2) | ((with_reducible refine qaj (f := 61) rfl ?_); refine qap (some 18) rfl rfl Try.func61 (by kernel_rfl) rfl #[.agg #[.int .i64 a1_0, .string a1_1, .string a1_2, .string a1_3], .slice A0_0 l0_0.length c0_0] rfl au6 ?_; (with_reducible refine (impl_DOp_on.calls a1_0 a1_1 a1_2 a1_3 (fun k_ => k_ < w.heap.size) _ _ l0_0 t114 true _ ?side1 A5.out).mono ?_); (case side1 => exact Kd.V_mk HC0_0.out (Kd.F_below (Kd.C_F k80_heap HR0_0.out) (au11 HB.out GE101.out GE102.out GE103.out))); rintro e w18 ⟨v115, rfl, ho0, hb⟩; refine ⟨_, rfl, ?_⟩; have HO116 := am (Kd.V_lower (Kd.V_mono (ok' := fun k_ => k_ ≠ gb101 ∧ k_ ≠ gb102 ∧ k_ ≠ gb103) ho0 (fun k_ hk_ => ⟨Or.elim hk_ (fun hs_ => fun e_ => Nat.not_le.2 hs_ (by rw [e_]; exact GW101.out)) (fun hn_ => (Kd.freshB (g := gb101) (o := .cells #[.slice A0_0 l0_0.length c0_0, .slice A0_1 l0_1.length c0_1, .slice A0_2 l0_2.length c0_2] 31 (0, 0)) (au1 BK101.out) k_ hn_)), Or.elim hk_ (fun hs_ => fun e_ => Nat.not_le.2 hs_ (by rw [e_]; exact GW102.out)) (fun hn_ => (Kd.freshB (g := gb102) (o := .cells #[.int .i64 a1_0, .string a1_1, .string a1_2, .string a1_3] 73 (0, 0)) (au1 BK102.out) k_ hn_)), Or.elim hk_ (fun hs_ => fun e_ => Nat.not_le.2 hs_ (by rw [e_]; exact GW103.out)) (fun hn_ => (Kd.freshB (g := gb103) (o := .cells #[.slice none 0 0, .slice none 0 0, .slice none 0 0] 31 (0, 0)) (au1 BK103.out) k_ hn_))⟩)) (qaf (au11 HB.out GE101.out GE102.out GE103.out))); replace BK101 := am (qab (au1 BK101.out) hb); replace BK102 := am (qab (au1 BK102.out) hb); replace BK103 := am (qab (au1 BK103.out) hb); replace HB := am (qad (au11 HB.out GE101.out GE102.out GE103.out) hb); (try clear hb); (try clear hb2); (try clear hk); (try clear hi); (try clear ho0)))
   (try simp only [Act.put, qsA, qsZ, qsS])
   go_cut [26] (fun v26 wc => ∃ (kq : Nat) (x26_6 : Bool), v26 = .bool x26_6 ∧ Aside0 (impl_doRight.j0 kq t114 x26_6 l0_0 l0_1 l0_2 a1_0 a1_1 a1_2 a1_3 = some (r1, r2, r3, r4)) ∧ Aside0 (kq ≤ k) ∧ Aside0 (Kd.V k80 80 wc w.heap.size (fun k_ => k_ ≠ gb101 ∧ k_ ≠ gb102 ∧ k_ ≠ gb103) v115 t114) ∧ Aside0 (wc.heap[gb101]? = some (.cells #[(.slice A0_0 l0_0.length c0_0), (.slice A0_1 l0_1.length c0_1), (.slice A0_2 l0_2.length c0_2)] 31 (0, 0))) ∧ Aside0 (wc.heap[gb102]? = some (.cells #[.int .i64 a1_0, .string a1_1, .string a1_2, .string a1_3] 73 (0, 0))) ∧ Aside0 (wc.heap[gb103]? = some (.cells #[(.slice none 0 0), (.slice none 0 0), (.slice none 0 0)] 31 (0, 0))) ∧ Aside0 (Below w.heap.size w wc))
   case first =>
    have H := HC7.out
    clear HC7
    by_cases c19 : (l0_2.length : Int) = 200
    ·
     rw [if_pos c19] at H
     have c19b0 : ((l0_2.length : Int) == 200) = true := beq_iff_eq.mpr c19
     have c19b1 : ((l0_2.length : Int) != 200) = false := bne_eq_false_iff_eq.mpr c19
     clear c19
     (first | rw [c19b0] | (simp only [i64_w, i32_w]; rw [c19b0]) | skip)
     have H' := am H
     clear H
     have hnb20 := NB101_102.out
     have hnc20 := NB102_101.out
     have hnb21 := NB101_103.out
     have hnc21 := NB103_101.out
     have hcz22_0 : _ = some (Value.slice A0_0 l0_0.length c0_0) := bcE BK101.out 0
     have hcz22_1 : _ = some (Value.slice A0_1 l0_1.length c0_1) := bcE BK101.out 1
     have hcz22_2 : _ = some (Value.slice A0_2 l0_2.length c0_2) := bcE BK101.out 2
     have hfz22_0 := qaa BK101.out 0
     have hfz22_1 := qaa BK101.out 1
     have hfz22_2 := qaa BK101.out 2
     go_wp2
     go_meet
     case rel => exact ⟨_, (true), au10, H', ⟨by first | omega | exact Nat.le_refl _⟩, ⟨au2 HO116.out⟩, ⟨au1 BK101.out⟩, ⟨au1 BK102.out⟩, ⟨au1 BK103.out⟩, ⟨(au11 HB.out GE101.out GE102.out GE103.out)⟩⟩
    ·
     rw [if_neg c19] at H
     have c19b0 : ((l0_2.length : Int) == 200) = false := beq_eq_false_iff_ne.mpr c19
     have c19b1 : ((l0_2.length : Int) != 200) = true := bne_iff_ne.mpr c19
     (first | rw [c19b0] | (simp only [i64_w, i32_w]; rw [c19b0]) | skip)
     replace H := Option.bind_eq_some_iff.mp H
     obtain ⟨t118, A230, H⟩ := H
     replace H : (impl_doRight.j0 k t114 (!t118) l0_0 l0_1 l0_2 a1_0 a1_1 a1_2 a1_3) = some (r1, r2, r3, r4) := H
     have A23 := am A230
     clear A230
     have H' := am H
     clear H
     have hnb24 := NB101_102.out
     have hnc24 := NB102_101.out
     have hnb25 := NB101_103.out
     have hnc25 := NB103_101.out
     have hcz26_0 : _ = some (Value.slice A0_0 l0_0.length c0_0) := bcE BK101.out 0
     have hcz26_1 : _ = some (Value.slice A0_1 l0_1.length c0_1) := bcE BK101.out 1
     have hcz26_2 : _ = some (Value.slice A0_2 l0_2.length c0_2) := bcE BK101.out 2
     have hfz26_0 := qaa BK101.out 0
     have hfz26_1 := qaa BK101.out 1
     have hfz26_2 := qaa BK101.out 2
     obtain ⟨Ao27, co27, eo27⟩ := Kd.V_slice HO116.out
     subst eo27
     go_wp2_with (first | (go_at_call 62; (with_reducible refine (impl_areFiles.calls k _ _ t114 t118 _ ?side1 ?side2 A23.out).mono ?_); (case side1 => repeat (first | exact (Kd.V_reads' HO116.out).2.2 | (with_reducible refine Kd.C_alloc ?_ _) | (with_reducible refine Kd.C_drewN ?_ _) | (with_reducible refine Kd.C_drew ?_))); (case side2 => exact (Kd.V_reads' HO116.out).2.1); rintro e w28 ⟨rfl, hb⟩; have n0_ := am (Kd.V_below (au2 HO116.out) hb); have n1_ := am (qab (au1 BK101.out) hb); have n2_ := am (qab (au1 BK102.out) hb); have n3_ := am (qab (au1 BK103.out) hb); have n4_ := am (qad (au11 HB.out GE101.out GE102.out GE103.out) hb); clear HO116; clear BK101; clear BK102; clear BK103; clear HB; have HO116 := n0_; have BK101 := n1_; have BK102 := n2_; have BK103 := n3_; have HB := n4_; clear n0_ n1_ n2_ n3_ n4_; (try clear hb); (try clear hb2); (try clear hk); (try clear hi)))
     go_meet
     case rel => exact ⟨_, (!t118), au10, H', ⟨by first | omega | exact Nat.le_refl _⟩, ⟨au2 HO116.out⟩, ⟨au1 BK101.out⟩, ⟨au1 BK102.out⟩, ⟨au1 BK103.out⟩, ⟨(au11 HB.out GE101.out GE102.out GE103.out)⟩⟩
   case rest =>
    clear HC7
    obtain ⟨kq, x26_6, rfl, HA, HJ6, HO_6, BK101, BK102, BK103, HB⟩ := hcut
    cases kq with
    | zero => exact absurd HA.out (by simp [impl_doRight.j0])
    | succ kj6 =>
     have H := HA.out
     clear HA
     simp only [impl_doRight.j0] at H
     by_cases c29 : x26_6 = true
     ·
      subst c29
      have H1 : ((impl_copyDisk.f l0_0 l0_1 l0_2).bind fun bt119 => (some (bt119.1, bt119.2.1, bt119.2.2, 4))) = some (r1, r2, r3, r4) := by rw [if_pos rfl] at H; exact H
      clear H
      have H := H1
      clear H1
      replace H := Option.bind_eq_some_iff.mp H
      obtain ⟨⟨t119, t122, t125⟩, A300, H⟩ := H
      replace H : (some (t119, t122, t125, 4)) = some (r1, r2, r3, r4) := H
      have A30 := am A300
      clear A300
      simp only [Option.some.injEq, Prod.mk.injEq] at H
      obtain ⟨rfl, rfl, rfl, rfl⟩ := H
      have hnb31 := NB101_102.out
      have hnc31 := NB102_101.out
      have hnb32 := NB101_103.out
      have hnc32 := NB103_101.out
      have hcz33_0 : _ = some (Value.slice A0_0 l0_0.length c0_0) := bcE BK101.out 0
      have hcz33_1 : _ = some (Value.slice A0_1 l0_1.length c0_1) := bcE BK101.out 1
      have hcz33_2 : _ = some (Value.slice A0_2 l0_2.length c0_2) := bcE BK101.out 2
      have hfz33_0 := qaa BK101.out 0
      have hfz33_1 := qaa BK101.out 1
      have hfz33_2 := qaa BK101.out 2
      go_wp2_with (first | ((with_reducible refine qaj (f := 79) rfl ?_); refine qap (some 37) rfl rfl Try.func79 (by kernel_rfl) rfl #[.agg #[.slice A0_0 l0_0.length c0_0, .slice A0_1 l0_1.length c0_1, .slice A0_2 l0_2.length c0_2]] rfl au6 ?_; (with_reducible refine (impl_copyDisk.calls _ _ l0_0 _ _ l0_1 _ _ l0_2 t119 t122 t125 _ ?side1 ?side2 ?side3 ?side4 ?side5 ?side6 A30.out).mono ?_); (case side1 => exact scE (Kd.C_below HR0_0.out HB.out)); (case side2 => exact HC0_0.out); (case side3 => exact scE (Kd.C_below HR0_1.out HB.out)); (case side4 => exact HC0_1.out); (case side5 => exact scE (Kd.C_below HR0_2.out HB.out)); (case side6 => exact HC0_2.out); rintro e w34 ⟨v120, v123, v126, rfl, ho0, ho1, ho2, hb⟩; refine ⟨_, rfl, ?_⟩; replace HO_6 := am (Kd.V_mono (Kd.V_told (Kd.V_told (Kd.V_told (Kd.V_old (au2 HO_6.out) hb) (Kd.R_base ho0)) (Kd.R_base ho1)) (Kd.R_base ho2)) k1E); have HO121 := am (Kd.R_lower ho0 (qaf (au11 HB.out GE101.out GE102.out GE103.out))); have HO124 := am (Kd.R_lower ho1 (qaf (au11 HB.out GE101.out GE102.out GE103.out))); have HO127 := am (Kd.R_lower (Kd.R_newB ho2 (g := gb102) (o := .cells #[.int .i64 a1_0, .string a1_1, .string a1_2, .string a1_3] 73 (0, 0)) (au1 BK102.out)) (qaf (au11 HB.out GE101.out GE102.out GE103.out))); replace BK101 := am (qab (au1 BK101.out) hb); replace BK102 := am (qab (au1 BK102.out) hb); replace BK103 := am (qab (au1 BK103.out) hb); replace HB := am (qad (au11 HB.out GE101.out GE102.out GE103.out) hb); (try clear hb); (try clear hb2); (try clear hk); (try clear hi); (try clear ho0); (try clear ho1); (try clear ho2); obtain ⟨Ao35, co35, eo35⟩ := Kd.R_slice HO121.out; subst eo35; have hnb36 := NB103_102.out; have hnc36 := NB102_103.out; have hcz37_0 : _ = some (Value.slice none 0 0) := bcE BK103.out 0; have hcz37_1 : _ = some (Value.slice none 0 0) := bcE BK103.out 1; have hcz37_2 : _ = some (Value.slice none 0 0) := bcE BK103.out 2; have hfz37_0 := qaa BK103.out 0; have hfz37_1 := qaa BK103.out 1; have hfz37_2 := qaa BK103.out 2; obtain ⟨Ao38, co38, eo38⟩ := Kd.R_slice HO124.out; subst eo38; obtain ⟨Ao39, co39, eo39⟩ := Kd.R_slice HO127.out; subst eo39))
      refine bodyPost_ret (qbd rfl _ _ gb103 31 #[.slice Ao35 t119.length co35, .slice Ao38 t122.length co38, .slice Ao39 t125.length co39] (0, 0) _ rfl (by refine au1 ?_; refine qam (cs := #[.slice Ao35 t119.length co35, .slice Ao38 t122.length co38, .slice none 0 0]) ?_ 2 _ rfl; refine au1 ?_; refine qam (cs := #[.slice Ao35 t119.length co35, .slice none 0 0, .slice none 0 0]) ?_ 1 _ rfl; refine au1 ?_; refine qam (cs := #[.slice none 0 0, .slice none 0 0, .slice none 0 0]) ?_ 0 _ rfl; refine au1 ?_; exact BK103.out) Try.underlying31 rfl (by kernel_rfl)) rfl ?_
      exact ⟨_, _, _, by first | rfl | (simp [qag, qah] <;> rfl) | (simp [*, qag, qah] <;> rfl), by refine au0 ?_; exact Kd.R_mono (Kd.R_far (p := ⟨gb103, 2, none⟩) (Kd.R_far (p := ⟨gb103, 1, none⟩) (Kd.R_far (p := ⟨gb103, 0, none⟩) (Kd.R_types HO121.out BK103.out (by decide)) k2E (.slice Ao35 t119.length co35)) k2E (.slice Ao38 t122.length co38)) k2E (.slice Ao39 t125.length co39)) (fun _ hk => hk.1), by refine au0 ?_; exact Kd.R_mono (Kd.R_far (p := ⟨gb103, 2, none⟩) (Kd.R_far (p := ⟨gb103, 1, none⟩) (Kd.R_far (p := ⟨gb103, 0, none⟩) (Kd.R_types HO124.out BK103.out (by decide)) k2E (.slice Ao35 t119.length co35)) k2E (.slice Ao38 t122.length co38)) k2E (.slice Ao39 t125.length co39)) (fun _ hk => hk.1), by refine au0 ?_; exact Kd.R_mono (Kd.R_far (p := ⟨gb103, 2, none⟩) (Kd.R_far (p := ⟨gb103, 1, none⟩) (Kd.R_far (p := ⟨gb103, 0, none⟩) (Kd.R_types HO127.out BK103.out (by decide)) k2E (.slice Ao35 t119.length co35)) k2E (.slice Ao38 t122.length co38)) k2E (.slice Ao39 t125.length co39)) (fun _ hk => trivial), (au11 HB.out GE101.out GE102.out GE103.out)⟩
     ·
      replace c29 := Bool.eq_false_iff.mpr c29
      subst c29
      have H1 : ((impl_copyDisk.f l0_0 l0_1 l0_2).bind fun bt128 => ((impl_copyFiles.f t114).bind fun t138 => (if bt128.2.2.length < 2513169434916 then (some (t138, bt128.2.1, (bt128.2.2 ++ [(⟨a1_0, a1_1, a1_2, a1_3⟩ : S73)]), 0)) else (none)))) = some (r1, r2, r3, r4) := by rw [if_neg (show ¬ (false = true) by decide)] at H; exact H
      clear H
      have H := H1
      clear H1
      replace H := Option.bind_eq_some_iff.mp H
      obtain ⟨⟨t128, t131, t134⟩, A400, H⟩ := H
      replace H : ((impl_copyFiles.f t114).bind fun t138 => (if t134.length < 2513169434916 then (some (t138, t131, (t134 ++ [(⟨a1_0, a1_1, a1_2, a1_3⟩ : S73)]), 0)) else (none))) = some (r1, r2, r3, r4) := H
      have A40 := am A400
      clear A400
      replace H := Option.bind_eq_some_iff.mp H
      obtain ⟨t138, A410, H⟩ := H
      replace H : (if t134.length < 2513169434916 then (some (t138, t131, (t134 ++ [(⟨a1_0, a1_1, a1_2, a1_3⟩ : S73)]), 0)) else (none)) = some (r1, r2, r3, r4) := H
      have A41 := am A410
      clear A410
      by_cases c42 : t134.length < 2513169434916
      ·
       rw [if_pos c42] at H
       have LMc42 := am c42
       clear c42
       obtain ⟨y141, hy141⟩ : ∃ y_ : List (S73), y_ = (t134 ++ [(⟨a1_0, a1_1, a1_2, a1_3⟩ : S73)]) := ⟨_, rfl⟩
       replace H : (some (t138, t131, y141, 0)) = some (r1, r2, r3, r4) := by first | (rw [hy141]; with_reducible exact H) | (have H2_ := (Option.bind_some _ _).symm.trans H; rw [hy141]; with_reducible exact H2_) | (have H2_ := (Option.bind_some _ _).symm.trans H; with_reducible exact H2_) | with_reducible exact H | (rw [hy141]; exact H) | exact H
       have Ny141 := am hy141
       clear hy141
       simp only [Option.some.injEq, Prod.mk.injEq] at H
       obtain ⟨rfl, rfl, rfl, rfl⟩ := H
       have hnb43 := NB101_102.out
       have hnc43 := NB102_101.out
       have hnb44 := NB101_103.out
       have hnc44 := NB103_101.out
       have hcz45_0 : _ = some (Value.slice A0_0 l0_0.length c0_0) := bcE BK101.out 0
       have hcz45_1 : _ = some (Value.slice A0_1 l0_1.length c0_1) := bcE BK101.out 1
       have hcz45_2 : _ = some (Value.slice A0_2 l0_2.length c0_2) := bcE BK101.out 2
       have hfz45_0 := qaa BK101.out 0
       have hfz45_1 := qaa BK101.out 1
       have hfz45_2 := qaa BK101.out 2
       go_wp2_with (first | ((with_reducible refine qaj (f := 79) rfl ?_); refine qap (some 39) rfl rfl Try.func79 (by kernel_rfl) rfl #[.agg #[.slice A0_0 l0_0.length c0_0, .slice A0_1 l0_1.length c0_1, .slice A0_2 l0_2.length c0_2]] rfl au6 ?_; (with_reducible refine (impl_copyDisk.calls _ _ l0_0 _ _ l0_1 _ _ l0_2 t128 t131 t134 _ ?side1 ?side2 ?side3 ?side4 ?side5 ?side6 A40.out).mono ?_); (case side1 => exact scE (Kd.C_below HR0_0.out HB.out)); (case side2 => exact HC0_0.out); (case side3 => exact scE (Kd.C_below HR0_1.out HB.out)); (case side4 => exact HC0_1.out); (case side5 => exact scE (Kd.C_below HR0_2.out HB.out)); (case side6 => exact HC0_2.out); rintro e w46 ⟨v129, v132, v135, rfl, ho0, ho1, ho2, hb⟩; refine ⟨_, rfl, ?_⟩; replace HO_6 := am (Kd.V_mono (Kd.V_told (Kd.V_told (Kd.V_told (Kd.V_old (au2 HO_6.out) hb) (Kd.R_base ho0)) (Kd.R_base ho1)) (Kd.R_base ho2)) k1E); have HO130 := am (Kd.R_lower ho0 (qaf (au11 HB.out GE101.out GE102.out GE103.out))); have HO133 := am (Kd.R_lower ho1 (qaf (au11 HB.out GE101.out GE102.out GE103.out))); have HO136 := am (Kd.R_lower (Kd.R_newB ho2 (g := gb102) (o := .cells #[.int .i64 a1_0, .string a1_1, .string a1_2, .string a1_3] 73 (0, 0)) (au1 BK102.out)) (qaf (au11 HB.out GE101.out GE102.out GE103.out))); replace BK101 := am (qab (au1 BK101.out) hb); replace BK102 := am (qab (au1 BK102.out) hb); replace BK103 := am (qab (au1 BK103.out) hb); replace HB := am (qad (au11 HB.out GE101.out GE102.out GE103.out) hb); (try clear hb); (try clear hb2); (try clear hk); (try clear hi); (try clear ho0); (try clear ho1); (try clear ho2)) | ((with_reducible refine qal (N := 8) rfl ?_); refine bxE (N := 8) (cs := #[.slice none 0 0, .slice none 0 0, .slice none 0 0]) (t := 31) ?_; intro gb137 hg w47 hbox hb; replace HO_6 := am (Kd.V_below (Kd.V_elderB (au2 HO_6.out) gb137 (Nat.le_of_eq hg.symm)) hb); replace HO130 := am (Kd.R_below (au0 HO130.out) hb); replace HO133 := am (Kd.R_below (au0 HO133.out) hb); replace HO136 := am (Kd.R_below (au0 HO136.out) hb); have BK137 := am (hbox); have GW137 := am (sgE hg (au11 HB.out GE101.out GE102.out GE103.out) : w.heap.size ≤ gb137); have GE137 := GW137; replace HB := am (qad (au11 HB.out GE101.out GE102.out GE103.out) hb); have NB101_137 := am ((sltE hg (qan (au1 BK101.out)))); have NB137_101 := am ((sgtE hg (qan (au1 BK101.out)))); replace BK101 := am (qab (au1 BK101.out) hb); have NB102_137 := am ((sltE hg (qan (au1 BK102.out)))); have NB137_102 := am ((sgtE hg (qan (au1 BK102.out)))); replace BK102 := am (qab (au1 BK102.out) hb); have NB103_137 := am ((sltE hg (qan (au1 BK103.out)))); have NB137_103 := am ((sgtE hg (qan (au1 BK103.out)))); replace BK103 := am (qab (au1 BK103.out) hb); clear hb hbox hg; obtain ⟨Ao48, co48, eo48⟩ := Kd.R_slice HO130.out; subst eo48; have hnb49 := NB137_101.out; have hnc49 := NB101_137.out; have hnb50 := NB137_102.out; have hnc50 := NB102_137.out; have hnb51 := NB137_103.out; have hnc51 := NB103_137.out; have hcz52_0 : _ = some (Value.slice none 0 0) := bcE BK137.out 0; have hcz52_1 : _ = some (Value.slice none 0 0) := bcE BK137.out 1; have hcz52_2 : _ = some (Value.slice none 0 0) := bcE BK137.out 2; have hfz52_0 := qaa BK137.out 0; have hfz52_1 := qaa BK137.out 1; have hfz52_2 := qaa BK137.out 2; obtain ⟨Ao53, co53, eo53⟩ := Kd.R_slice HO133.out; subst eo53; obtain ⟨Ao54, co54, eo54⟩ := Kd.R_slice HO136.out; subst eo54; obtain ⟨Ao55, co55, eo55⟩ := Kd.V_slice HO_6.out; subst eo55) | ((with_reducible refine qaj (f := 59) rfl ?_); refine qap (some 41) rfl rfl Try.func59 (by kernel_rfl) rfl #[.slice Ao55 t114.length co55] rfl au6 ?_; (with_reducible refine (impl_copyFiles.calls _ _ t114 t138 _ ?side1 ?side2 A41.out).mono ?_); (case side1 => refine (Kd.V_reads' (e := 80) (base := w.heap.size) (ok := fun k_ => (((((k_ ≠ gb101 ∧ (k_ ≠ gb102 ∧ k_ ≠ gb103)) ∧ some k_ ≠ (.slice Ao48 t128.length co48 : Value).ownBlock) ∧ some k_ ≠ (.slice Ao53 t131.length co53 : Value).ownBlock) ∧ some k_ ≠ (.slice Ao54 t134.length co54 : Value).ownBlock) ∧ k_ ≠ gb137)) (n := t114.length) (c := co55) ?_).2.2; exact (by refine au2 ?_; exact (Kd.V_mono (Kd.V_far (p := ⟨gb137, 2, none⟩) (Kd.V_far (p := ⟨gb137, 1, none⟩) (Kd.V_far (p := ⟨gb137, 0, none⟩) (Kd.V_mono HO_6.out (fun k_ hk => (⟨hk, hk.2⟩ : _ ∧ k_ ≠ gb137))) k2E (.slice Ao48 t128.length co48)) k2E (.slice Ao53 t131.length co53)) k2E (.slice Ao54 t134.length co54)) k1E))); (case side2 => exact (Kd.V_reads' HO_6.out).2.1); rintro e w56 ⟨v139, rfl, ho0, hb⟩; refine ⟨_, rfl, ?_⟩; replace HO_6 := am (Kd.V_elder' (by refine au2 ?_; exact (Kd.V_mono (Kd.V_far (p := ⟨gb137, 2, none⟩) (Kd.V_far (p := ⟨gb137, 1, none⟩) (Kd.V_far (p := ⟨gb137, 0, none⟩) (Kd.V_mono HO_6.out (fun k_ hk => (⟨hk, hk.2⟩ : _ ∧ k_ ≠ gb137))) k2E (.slice Ao48 t128.length co48)) k2E (.slice Ao53 t131.length co53)) k2E (.slice Ao54 t134.length co54)) k1E)) (Kd.R_base ho0) hb); replace HO136 := am (Kd.R_below (by refine au0 ?_; exact (Kd.R_mono (Kd.R_far (p := ⟨gb137, 2, none⟩) (Kd.R_far (p := ⟨gb137, 1, none⟩) (Kd.R_far (p := ⟨gb137, 0, none⟩) (Kd.R_types HO136.out BK137.out (by decide)) k2E (.slice Ao48 t128.length co48)) k2E (.slice Ao53 t131.length co53)) k2E (.slice Ao54 t134.length co54)) k1E)) hb); have HO140 := am (Kd.R_lower (Kd.R_new' (Kd.R_new' ho0 (Kd.R_lt (by refine au0 ?_; exact (Kd.R_mono (Kd.R_far (p := ⟨gb137, 2, none⟩) (Kd.R_far (p := ⟨gb137, 1, none⟩) (Kd.R_far (p := ⟨gb137, 0, none⟩) (Kd.R_types HO130.out BK137.out (by decide)) k2E (.slice Ao48 t128.length co48)) k2E (.slice Ao53 t131.length co53)) k2E (.slice Ao54 t134.length co54)) k1E)))) (Kd.R_lt (by refine au0 ?_; exact (Kd.R_mono (Kd.R_far (p := ⟨gb137, 2, none⟩) (Kd.R_far (p := ⟨gb137, 1, none⟩) (Kd.R_far (p := ⟨gb137, 0, none⟩) (Kd.R_types HO133.out BK137.out (by decide)) k2E (.slice Ao48 t128.length co48)) k2E (.slice Ao53 t131.length co53)) k2E (.slice Ao54 t134.length co54)) k1E)))) (qaf (au12 HB.out GE101.out GE102.out GE103.out GE137.out))); replace HO130 := am (Kd.R_elder' (by refine au0 ?_; exact (Kd.R_mono (Kd.R_far (p := ⟨gb137, 2, none⟩) (Kd.R_far (p := ⟨gb137, 1, none⟩) (Kd.R_far (p := ⟨gb137, 0, none⟩) (Kd.R_types HO130.out BK137.out (by decide)) k2E (.slice Ao48 t128.length co48)) k2E (.slice Ao53 t131.length co53)) k2E (.slice Ao54 t134.length co54)) k1E)) (Kd.R_base ho0) hb); replace HO133 := am (Kd.R_elder' (by refine au0 ?_; exact (Kd.R_mono (Kd.R_far (p := ⟨gb137, 2, none⟩) (Kd.R_far (p := ⟨gb137, 1, none⟩) (Kd.R_far (p := ⟨gb137, 0, none⟩) (Kd.R_types HO133.out BK137.out (by decide)) k2E (.slice Ao48 t128.length co48)) k2E (.slice Ao53 t131.length co53)) k2E (.slice Ao54 t134.length co54)) k1E)) (Kd.R_base ho0) hb); replace BK101 := am (qab (g := gb101) (o := .cells #[.slice A0_0 l0_0.length c0_0, .slice A0_1 l0_1.length c0_1, .slice A0_2 l0_2.length c0_2] 31 (0, 0)) (au14 NB101_137.out BK101.out) hb); replace BK102 := am (qab (g := gb102) (o := .cells #[.int .i64 a1_0, .string a1_1, .string a1_2, .string a1_3] 73 (0, 0)) (au14 NB102_137.out BK102.out) hb); replace BK103 := am (qab (g := gb103) (o := .cells #[.slice none 0 0, .slice none 0 0, .slice none 0 0] 31 (0, 0)) (au14 NB103_137.out BK103.out) hb); replace BK137 := am (qab (g := gb137) (o := .cells #[.slice Ao48 t128.length co48, .slice Ao53 t131.length co53, .slice Ao54 t134.length co54] 31 (0, 0)) (by refine au1 ?_; refine qam (cs := #[.slice Ao48 t128.length co48, .slice Ao53 t131.length co53, .slice none 0 0]) ?_ 2 _ rfl; refine au1 ?_; refine qam (cs := #[.slice Ao48 t128.length co48, .slice none 0 0, .slice none 0 0]) ?_ 1 _ rfl; refine au1 ?_; refine qam (cs := #[.slice none 0 0, .slice none 0 0, .slice none 0 0]) ?_ 0 _ rfl; refine au1 ?_; exact BK137.out) hb); replace HB := am (qad (au12 HB.out GE101.out GE102.out GE103.out GE137.out) hb); (try clear hb); (try clear hb2); (try clear hk); (try clear hi); (try clear ho0); obtain ⟨Ao57, co57, eo57⟩ := Kd.R_slice HO140.out; subst eo57; have hcz58_0 : _ = some (Value.slice Ao48 t128.length co48) := bcE BK137.out 0; have hcz58_1 : _ = some (Value.slice Ao53 t131.length co53) := bcE BK137.out 1; have hcz58_2 : _ = some (Value.slice Ao54 t134.length co54) := bcE BK137.out 2; have hfz58_0 := qaa BK137.out 0; have hfz58_1 := qaa BK137.out 1; have hfz58_2 := qaa BK137.out 2; have hnb59 := NB102_103.out; have hnc59 := NB103_102.out; have hcz60_0 : _ = some (Value.int .i64 a1_0) := bcE BK102.out 0; have hcz60_1 : _ = some (Value.string a1_1) := bcE BK102.out 1; have hcz60_2 : _ = some (Value.string a1_2) := bcE BK102.out 2; have hcz60_3 : _ = some (Value.string a1_3) := bcE BK102.out 3; have hfz60_0 := qaa BK102.out 0; have hfz60_1 := qaa BK102.out 1; have hfz60_2 := qaa BK102.out 2; have hfz60_3 := qaa BK102.out 3) | ((with_reducible refine qbf (b := .append) (xs := #[.tmp 44, .tmp 46]) rfl ?_); at_builtin; refine Kd.R_append k73 (w0 := w) w.heap.size rfl (.tmp 44) (.tmp 46) 29 73 (.agg #[(.int .i64 0), (.string ⟨#[]⟩), (.string ⟨#[]⟩), (.string ⟨#[]⟩)]) 56 rfl Try.underlying29 qex rfl (by decide) (by omega) (.slice Ao54 t134.length co54) t134 (⟨a1_0, a1_1, a1_2, a1_3⟩ : S73) [.int .i64 a1_0, .string a1_1, .string a1_2, .string a1_3] (fun k_ => k_ ≠ gb102) (fun _ => False) rfl (by first | (go_simp; done) | (go_simp; rfl)) ?aP (fun _ hk => hk.elim) ?aF ?aO ?aB ?aS ?aL ?_; (case aP => exact qct _ _ _ (⟨a1_0, a1_1, a1_2, a1_3⟩ : S73)); (case aB => exact (au12 HB.out GE101.out GE102.out GE103.out GE137.out)); (case aF => exact (fun k_ hk => Kd.freshB (g := gb102) (o := .cells #[.int .i64 a1_0, .string a1_1, .string a1_2, .string a1_3] 73 (0, 0)) (au13 NB102_137.out BK102.out) k_ hk)); (case aO => exact (by refine au0 ?_; exact Kd.R_mono (Kd.R_far (p := ⟨gb137, 0, none⟩) (Kd.R_types HO136.out BK137.out (by decide)) k2E (.slice Ao57 t138.length co57)) (fun _ hk => hk.1.2))); (case aS => exact (qaf (au12 HB.out GE101.out GE102.out GE103.out GE137.out))); (case aL => have := LMc42.out; omega); intro v142 w61 ho hb hg hat; rw [← Ny141.out] at ho; replace HO_6 := am (Kd.V_afterv (ok := (fun k_ => some k_ ≠ (.slice Ao48 t128.length co48 : Value).ownBlock ∧ some k_ ≠ (.slice Ao53 t131.length co53 : Value).ownBlock ∧ some k_ ≠ (.slice Ao57 t138.length co57 : Value).ownBlock ∧ k_ ≠ gb101 ∧ k_ ≠ gb102 ∧ k_ ≠ gb103 ∧ k_ ≠ gb137)) (by refine au2 ?_; exact Kd.V_mono (Kd.V_far (p := ⟨gb137, 0, none⟩) (Kd.V_mono HO_6.out (fun k_ hk => (⟨hk, hk.1.2⟩ : _ ∧ k_ ≠ gb137))) k2E (.slice Ao57 t138.length co57)) (fun _ hk => ⟨⟨hk.1.1.1.1.1.2, ⟨hk.1.1.1.1.2, ⟨hk.1.2, ⟨hk.1.1.1.1.1.1.1, ⟨hk.1.1.1.1.1.1.2.1, ⟨hk.1.1.1.1.1.1.2.2, hk.1.1.2⟩⟩⟩⟩⟩⟩, hk.1.1.1.2⟩)) hg hat); replace BK101 := am (qbb (g := gb101) (o := .cells #[.slice A0_0 l0_0.length c0_0, .slice A0_1 l0_1.length c0_1, .slice A0_2 l0_2.length c0_2] 31 (0, 0)) (au13 NB101_137.out BK101.out) hg (Kd.R_ne HO136.out BK101.out (by decide))); replace BK102 := am (qbb (g := gb102) (o := .cells #[.int .i64 a1_0, .string a1_1, .string a1_2, .string a1_3] 73 (0, 0)) (au13 NB102_137.out BK102.out) hg (Kd.R_away HO136.out k2E)); replace BK103 := am (qbb (g := gb103) (o := .cells #[.slice none 0 0, .slice none 0 0, .slice none 0 0] 31 (0, 0)) (au13 NB103_137.out BK103.out) hg (Kd.R_ne HO136.out BK103.out (by decide))); replace HO130 := am (Kd.R_over' (by refine au0 ?_; exact (Kd.R_mono (Kd.R_far (p := ⟨gb137, 0, none⟩) (Kd.R_types HO130.out BK137.out (by decide)) k2E (.slice Ao57 t138.length co57)) k1E)) (Kd.R_typed (by refine au0 ?_; exact (Kd.R_mono (Kd.R_far (p := ⟨gb137, 0, none⟩) (Kd.R_types HO136.out BK137.out (by decide)) k2E (.slice Ao57 t138.length co57)) k1E))) (by decide) hg); replace HO133 := am (Kd.R_over' (by refine au0 ?_; exact (Kd.R_mono (Kd.R_far (p := ⟨gb137, 0, none⟩) (Kd.R_types HO133.out BK137.out (by decide)) k2E (.slice Ao57 t138.length co57)) k1E)) (Kd.R_typed (by refine au0 ?_; exact (Kd.R_mono (Kd.R_far (p := ⟨gb137, 0, none⟩) (Kd.R_types HO136.out BK137.out (by decide)) k2E (.slice Ao57 t138.length co57)) k1E))) (by decide) hg); replace HO140 := am (Kd.R_over' (by refine au0 ?_; exact (Kd.R_mono (Kd.R_far (p := ⟨gb137, 0, none⟩) (Kd.R_types HO140.out BK137.out (by decide)) k2E (.slice Ao57 t138.length co57)) k1E)) (Kd.R_typed (by refine au0 ?_; exact (Kd.R_mono (Kd.R_far (p := ⟨gb137, 0, none⟩) (Kd.R_types HO136.out BK137.out (by decide)) k2E (.slice Ao57 t138.length co57)) k1E))) (by decide) hg); replace BK137 := am (qbb (g := gb137) (o := .cells #[.slice Ao57 t138.length co57, .slice Ao53 t131.length co53, .slice Ao54 t134.length co54] 31 (0, 0)) (by refine au1 ?_; refine qam (cs := #[.slice Ao48 t128.length co48, .slice Ao53 t131.length co53, .slice Ao54 t134.length co54]) ?_ 0 _ rfl; refine au1 ?_; exact BK137.out) hg (Kd.R_ne HO136.out BK137.out (by decide))); replace HB := am (hb); have HO143 := am (ho); clear HO136; clear ho hb hg hat; obtain ⟨Ao62, co62, eo62⟩ := Kd.R_slice HO143.out; subst eo62; have hcz63_0 : _ = some (Value.slice Ao57 t138.length co57) := bcE BK137.out 0; have hcz63_1 : _ = some (Value.slice Ao53 t131.length co53) := bcE BK137.out 1; have hcz63_2 : _ = some (Value.slice Ao54 t134.length co54) := bcE BK137.out 2; have hfz63_0 := qaa BK137.out 0; have hfz63_1 := qaa BK137.out 1; have hfz63_2 := qaa BK137.out 2; have hcz64_0 : _ = some (Value.slice none 0 0) := bcE BK103.out 0; have hcz64_1 : _ = some (Value.slice none 0 0) := bcE BK103.out 1; have hcz64_2 : _ = some (Value.slice none 0 0) := bcE BK103.out 2; have hfz64_0 := qaa BK103.out 0; have hfz64_1 := qaa BK103.out 1; have hfz64_2 := qaa BK103.out 2))
       refine bodyPost_ret (qbd rfl _ _ gb103 31 #[.slice Ao57 t138.length co57, .slice Ao53 t131.length co53, .slice Ao62 y141.length co62] (0, 0) _ rfl (by refine au1 ?_; refine qam (cs := #[.slice Ao57 t138.length co57, .slice Ao53 t131.length co53, .slice none 0 0]) ?_ 2 _ rfl; refine au1 ?_; refine qam (cs := #[.slice Ao57 t138.length co57, .slice none 0 0, .slice none 0 0]) ?_ 1 _ rfl; refine au1 ?_; refine qam (cs := #[.slice none 0 0, .slice none 0 0, .slice none 0 0]) ?_ 0 _ rfl; refine au1 ?_; refine qas ?_ NB103_137.out _; refine au1 ?_; exact BK103.out) Try.underlying31 rfl (by kernel_rfl)) rfl ?_
       exact ⟨_, _, _, by first | rfl | (simp [qag, qah] <;> rfl) | (simp [*, qag, qah] <;> rfl), by refine au0 ?_; exact Kd.R_mono (Kd.R_far (p := ⟨gb103, 2, none⟩) (Kd.R_far (p := ⟨gb103, 1, none⟩) (Kd.R_far (p := ⟨gb103, 0, none⟩) (Kd.R_far (p := ⟨gb137, 2, none⟩) (Kd.R_types (Kd.R_types HO140.out BK137.out (by decide)) BK103.out (by decide)) (fun _ hk => hk.1.2) (.slice Ao62 y141.length co62)) k2E (.slice Ao57 t138.length co57)) k2E (.slice Ao53 t131.length co53)) k2E (.slice Ao62 y141.length co62)) (fun _ hk => hk.1.1.2), by refine au0 ?_; exact Kd.R_mono (Kd.R_far (p := ⟨gb103, 2, none⟩) (Kd.R_far (p := ⟨gb103, 1, none⟩) (Kd.R_far (p := ⟨gb103, 0, none⟩) (Kd.R_far (p := ⟨gb137, 2, none⟩) (Kd.R_types (Kd.R_types HO133.out BK137.out (by decide)) BK103.out (by decide)) (fun _ hk => hk.1.2) (.slice Ao62 y141.length co62)) k2E (.slice Ao57 t138.length co57)) k2E (.slice Ao53 t131.length co53)) k2E (.slice Ao62 y141.length co62)) (fun _ hk => hk.1.1.2), by refine au0 ?_; exact Kd.R_mono (Kd.R_far (p := ⟨gb103, 2, none⟩) (Kd.R_far (p := ⟨gb103, 1, none⟩) (Kd.R_far (p := ⟨gb103, 0, none⟩) (Kd.R_far (p := ⟨gb137, 2, none⟩) (Kd.R_types (Kd.R_types HO143.out BK137.out (by decide)) BK103.out (by decide)) (fun _ hk => hk.1.2) (.slice Ao62 y141.length co62)) k2E (.slice Ao57 t138.length co57)) k2E (.slice Ao53 t131.length co53)) k2E (.slice Ao62 y141.length co62)) (fun _ hk => trivial), (au12 HB.out GE101.out GE102.out GE103.out GE137.out)⟩
      ·
       rw [if_neg c42] at H
       exact absurd H (by simp)
  ·
   replace c6 := Bool.eq_false_iff.mpr c6
   subst c6
   have H1 : ((impl_copyDisk.f l0_0 l0_1 l0_2).bind fun bt144 => (some (bt144.1, bt144.2.1, bt144.2.2, 3))) = some (r1, r2, r3, r4) := by rw [if_neg (show ¬ (false = true) by decide)] at H; exact H
   clear H
   have H := H1
   clear H1
   replace H := Option.bind_eq_some_iff.mp H
   obtain ⟨⟨t144, t147, t150⟩, A650, H⟩ := H
   replace H : (some (t144, t147, t150, 3)) = some (r1, r2, r3, r4) := H
   have A65 := am A650
   clear A650
   simp only [Option.some.injEq, Prod.mk.injEq] at H
   obtain ⟨rfl, rfl, rfl, rfl⟩ := H
   go_enter Try.func104, Try.ntmps104
   go_wp2_with (first | ((with_reducible refine qal (N := 2) rfl ?_); refine bxE (N := 2) (cs := #[.slice A0_0 l0_0.length c0_0, .slice A0_1 l0_1.length c0_1, .slice A0_2 l0_2.length c0_2]) (t := 31) ?_; intro gb101 hg w66 hbox hb; have BK101 := am (hbox); have GW101 := am (sgE hg (au3 HB.out) : w.heap.size ≤ gb101); have GE101 := GW101; replace HB := am (qad (au3 HB.out) hb); clear hb hbox hg) | ((with_reducible refine qal (N := 3) rfl ?_); refine bxE (N := 3) (cs := #[.int .i64 a1_0, .string a1_1, .string a1_2, .string a1_3]) (t := 73) ?_; intro gb102 hg w67 hbox hb; have BK102 := am (hbox); have GW102 := am (sgE hg (au7 HB.out GE101.out) : w.heap.size ≤ gb102); have GE102 := GW102; replace HB := am (qad (au7 HB.out GE101.out) hb); have NB101_102 := am ((sltE hg (qan (au1 BK101.out)))); have NB102_101 := am ((sgtE hg (qan (au1 BK101.out)))); replace BK101 := am (qab (au1 BK101.out) hb); clear hb hbox hg) | ((with_reducible refine qal (N := 4) rfl ?_); refine bxE (N := 4) (cs := #[.slice none 0 0, .slice none 0 0, .slice none 0 0]) (t := 31) ?_; intro gb103 hg w68 hbox hb; have BK103 := am (hbox); have GW103 := am (sgE hg (au4 HB.out GE101.out GE102.out) : w.heap.size ≤ gb103); have GE103 := GW103; replace HB := am (qad (au4 HB.out GE101.out GE102.out) hb); have NB101_103 := am ((sltE hg (qan (au1 BK101.out)))); have NB103_101 := am ((sgtE hg (qan (au1 BK101.out)))); replace BK101 := am (qab (au1 BK101.out) hb); have NB102_103 := am ((sltE hg (qan (au1 BK102.out)))); have NB103_102 := am ((sgtE hg (qan (au1 BK102.out)))); replace BK102 := am (qab (au1 BK102.out) hb); clear hb hbox hg; have hnb69 := NB102_101.out; have hnc69 := NB101_102.out; have hnb70 := NB102_103.out; have hnc70 := NB103_102.out; have hcz71_0 : _ = some (Value.int .i64 a1_0) := bcE BK102.out 0; have hcz71_1 : _ = some (Value.string a1_1) := bcE BK102.out 1; have hcz71_2 : _ = some (Value.string a1_2) := bcE BK102.out 2; have hcz71_3 : _ = some (Value.string a1_3) := bcE BK102.out 3; have hfz71_0 := qaa BK102.out 0; have hfz71_1 := qaa BK102.out 1; have hfz71_2 := qaa BK102.out 2; have hfz71_3 := qaa BK102.out 3) | ((with_reducible refine qaj (f := 89) rfl ?_); refine qap (some 10) rfl rfl Try.func89 (by kernel_rfl) rfl #[.agg #[.int .i64 a1_0, .string a1_1, .string a1_2, .string a1_3]] rfl au6 ?_; (with_reducible refine (impl_DOp_isFormed.calls a1_0 a1_1 a1_2 a1_3 true _ A3.out).mono ?_); rintro e w72 ⟨rfl, hb⟩; refine ⟨_, rfl, ?_⟩; replace BK101 := am (qab (au1 BK101.out) hb); replace BK102 := am (qab (au1 BK102.out) hb); replace BK103 := am (qab (au1 BK103.out) hb); replace HB := am (qad (au11 HB.out GE101.out GE102.out GE103.out) hb); (try clear hb); (try clear hb2); (try clear hk); (try clear hi); have hcz73_0 : _ = some (Value.int .i64 a1_0) := bcE BK102.out 0; have hcz73_1 : _ = some (Value.string a1_1) := bcE BK102.out 1; have hcz73_2 : _ = some (Value.string a1_2) := bcE BK102.out 2; have hcz73_3 : _ = some (Value.string a1_3) := bcE BK102.out 3; have hfz73_0 := qaa BK102.out 0; have hfz73_1 := qaa BK102.out 1; have hfz73_2 := qaa BK102.out 2; have hfz73_3 := qaa BK102.out 3; have hnb74 := NB101_103.out; have hnc74 := NB103_101.out; have hcz75_0 : _ = some (Value.slice A0_0 l0_0.length c0_0) := bcE BK101.out 0; have hcz75_1 : _ = some (Value.slice A0_1 l0_1.length c0_1) := bcE BK101.out 1; have hcz75_2 : _ = some (Value.slice A0_2 l0_2.length c0_2) := bcE BK101.out 2; have hfz75_0 := qaa BK101.out 0; have hfz75_1 := qaa BK101.out 1; have hfz75_2 := qaa BK101.out 2) | ((with_reducible refine qaj (f := 61) rfl ?_); refine qap (some 18) rfl rfl Try.func61 (by kernel_rfl) rfl #[.agg #[.int .i64 a1_0, .string a1_1, .string a1_2, .string a1_3], .slice A0_0 l0_0.length c0_0] rfl au6 ?_; (with_reducible refine (impl_DOp_on.calls a1_0 a1_1 a1_2 a1_3 (fun k_ => k_ < w.heap.size) _ _ l0_0 t114 false _ ?side1 A5.out).mono ?_); (case side1 => exact Kd.V_mk HC0_0.out (Kd.F_below (Kd.C_F k80_heap HR0_0.out) (au11 HB.out GE101.out GE102.out GE103.out))); rintro e w76 ⟨v115, rfl, ho0, hb⟩; refine ⟨_, rfl, ?_⟩; have HO116 := am (Kd.V_lower (Kd.V_mono (ok' := fun k_ => k_ ≠ gb101 ∧ k_ ≠ gb102 ∧ k_ ≠ gb103) ho0 (fun k_ hk_ => ⟨Or.elim hk_ (fun hs_ => fun e_ => Nat.not_le.2 hs_ (by rw [e_]; exact GW101.out)) (fun hn_ => (Kd.freshB (g := gb101) (o := .cells #[.slice A0_0 l0_0.length c0_0, .slice A0_1 l0_1.length c0_1, .slice A0_2 l0_2.length c0_2] 31 (0, 0)) (au1 BK101.out) k_ hn_)), Or.elim hk_ (fun hs_ => fun e_ => Nat.not_le.2 hs_ (by rw [e_]; exact GW102.out)) (fun hn_ => (Kd.freshB (g := gb102) (o := .cells #[.int .i64 a1_0, .string a1_1, .string a1_2, .string a1_3] 73 (0, 0)) (au1 BK102.out) k_ hn_)), Or.elim hk_ (fun hs_ => fun e_ => Nat.not_le.2 hs_ (by rw [e_]; exact GW103.out)) (fun hn_ => (Kd.freshB (g := gb103) (o := .cells #[.slice none 0 0, .slice none 0 0, .slice none 0 0] 31 (0, 0)) (au1 BK103.out) k_ hn_))⟩)) (qaf (au11 HB.out GE101.out GE102.out GE103.out))); replace BK101 := am (qab (au1 BK101.out) hb); replace BK102 := am (qab (au1 BK102.out) hb); replace BK103 := am (qab (au1 BK103.out) hb); replace HB := am (qad (au11 HB.out GE101.out GE102.out GE103.out) hb); (try clear hb); (try clear hb2); (try clear hk); (try clear hi); (try clear ho0); have hcz77_0 : _ = some (Value.slice A0_0 l0_0.length c0_0) := bcE BK101.out 0; have hcz77_1 : _ = some (Value.slice A0_1 l0_1.length c0_1) := bcE BK101.out 1; have hcz77_2 : _ = some (Value.slice A0_2 l0_2.length c0_2) := bcE BK101.out 2; have hfz77_0 := qaa BK101.out 0; have hfz77_1 := qaa BK101.out 1; have hfz77_2 := qaa BK101.out 2) | ((with_reducible refine qaj (f := 79) rfl ?_); refine qap (some 25) rfl rfl Try.func79 (by kernel_rfl) rfl #[.agg #[.slice A0_0 l0_0.length c0_0, .slice A0_1 l0_1.length c0_1, .slice A0_2 l0_2.length c0_2]] rfl au6 ?_; (with_reducible refine (impl_copyDisk.calls _ _ l0_0 _ _ l0_1 _ _ l0_2 t144 t147 t150 _ ?side1 ?side2 ?side3 ?side4 ?side5 ?side6 A65.out).mono ?_); (case side1 => exact scE (Kd.C_below HR0_0.out HB.out)); (case side2 => exact HC0_0.out); (case side3 => exact scE (Kd.C_below HR0_1.out HB.out)); (case side4 => exact HC0_1.out); (case side5 => exact scE (Kd.C_below HR0_2.out HB.out)); (case side6 => exact HC0_2.out); rintro e w78 ⟨v145, v148, v151, rfl, ho0, ho1, ho2, hb⟩; refine ⟨_, rfl, ?_⟩; replace HO116 := am (Kd.V_mono (Kd.V_told (Kd.V_told (Kd.V_told (Kd.V_old (au2 HO116.out) hb) (Kd.R_base ho0)) (Kd.R_base ho1)) (Kd.R_base ho2)) k1E); have HO146 := am (Kd.R_lower ho0 (qaf (au11 HB.out GE101.out GE102.out GE103.out))); have HO149 := am (Kd.R_lower ho1 (qaf (au11 HB.out GE101.out GE102.out GE103.out))); have HO152 := am (Kd.R_lower (Kd.R_newB ho2 (g := gb102) (o := .cells #[.int .i64 a1_0, .string a1_1, .string a1_2, .string a1_3] 73 (0, 0)) (au1 BK102.out)) (qaf (au11 HB.out GE101.out GE102.out GE103.out))); replace BK101 := am (qab (au1 BK101.out) hb); replace BK102 := am (qab (au1 BK102.out) hb); replace BK103 := am (qab (au1 BK103.out) hb); replace HB := am (qad (au11 HB.out GE101.out GE102.out GE103.out) hb); (try clear hb); (try clear hb2); (try clear hk); (try clear hi); (try clear ho0); (try clear ho1); (try clear ho2); obtain ⟨Ao79, co79, eo79⟩ := Kd.R_slice HO146.out; subst eo79; have hcz80_0 : _ = some (Value.slice none 0 0) := bcE BK103.out 0; have hcz80_1 : _ = some (Value.slice none 0 0) := bcE BK103.out 1; have hcz80_2 : _ = some (Value.slice none 0 0) := bcE BK103.out 2; have hfz80_0 := qaa BK103.out 0; have hfz80_1 := qaa BK103.out 1; have hfz80_2 := qaa BK103.out 2; obtain ⟨Ao81, co81, eo81⟩ := Kd.R_slice HO149.out; subst eo81; obtain ⟨Ao82, co82, eo82⟩ := Kd.R_slice HO152.out; subst eo82))
   refine bodyPost_ret (qbd rfl _ _ gb103 31 #[.slice Ao79 t144.length co79, .slice Ao81 t147.length co81, .slice Ao82 t150.length co82] (0, 0) _ rfl (by refine au1 ?_; refine qam (cs := #[.slice Ao79 t144.length co79, .slice Ao81 t147.length co81, .slice none 0 0]) ?_ 2 _ rfl; refine au1 ?_; refine qam (cs := #[.slice Ao79 t144.length co79, .slice none 0 0, .slice none 0 0]) ?_ 1 _ rfl; refine au1 ?_; refine qam (cs := #[.slice none 0 0, .slice none 0 0, .slice none 0 0]) ?_ 0 _ rfl; refine au1 ?_; exact BK103.out) Try.underlying31 rfl (by kernel_rfl)) rfl ?_
   exact ⟨_, _, _, by first | rfl | (simp [qag, qah] <;> rfl) | (simp [*, qag, qah] <;> rfl), by refine au0 ?_; exact Kd.R_mono (Kd.R_far (p := ⟨gb103, 2, none⟩) (Kd.R_far (p := ⟨gb103, 1, none⟩) (Kd.R_far (p := ⟨gb103, 0, none⟩) (Kd.R_types HO146.out BK103.out (by decide)) k2E (.slice Ao79 t144.length co79)) k2E (.slice Ao81 t147.length co81)) k2E (.slice Ao82 t150.length co82)) (fun _ hk => hk.1), by refine au0 ?_; exact Kd.R_mono (Kd.R_far (p := ⟨gb103, 2, none⟩) (Kd.R_far (p := ⟨gb103, 1, none⟩) (Kd.R_far (p := ⟨gb103, 0, none⟩) (Kd.R_types HO149.out BK103.out (by decide)) k2E (.slice Ao79 t144.length co79)) k2E (.slice Ao81 t147.length co81)) k2E (.slice Ao82 t150.length co82)) (fun _ hk => hk.1), by refine au0 ?_; exact Kd.R_mono (Kd.R_far (p := ⟨gb103, 2, none⟩) (Kd.R_far (p := ⟨gb103, 1, none⟩) (Kd.R_far (p := ⟨gb103, 0, none⟩) (Kd.R_types HO152.out BK103.out (by decide)) k2E (.slice Ao79 t144.length co79)) k2E (.slice Ao81 t147.length co81)) k2E (.slice Ao82 t150.length co82)) (fun _ hk => trivial), (au11 HB.out GE101.out GE102.out GE103.out)⟩
 ·
  replace c4 := Bool.eq_false_iff.mpr c4
  subst c4
  have H1 : ((impl_copyDisk.f l0_0 l0_1 l0_2).bind fun bt105 => (some (bt105.1, bt105.2.1, bt105.2.2, 2))) = some (r1, r2, r3, r4) := by rw [if_neg (show ¬ (false = true) by decide)] at H; exact H
  clear H
  have H := H1
  clear H1
  replace H := Option.bind_eq_some_iff.mp H
  obtain ⟨⟨t105, t108, t111⟩, A830, H⟩ := H
  replace H : (some (t105, t108, t111, 2)) = some (r1, r2, r3, r4) := H
  have A83 := am A830
  clear A830
  simp only [Option.some.injEq, Prod.mk.injEq] at H
  obtain ⟨rfl, rfl, rfl, rfl⟩ := H
  go_enter Try.func104, Try.ntmps104
  go_wp2_with (first | ((with_reducible refine qal (N := 2) rfl ?_); refine bxE (N := 2) (cs := #[.slice A0_0 l0_0.length c0_0, .slice A0_1 l0_1.length c0_1, .slice A0_2 l0_2.length c0_2]) (t := 31) ?_; intro gb101 hg w84 hbox hb; have BK101 := am (hbox); have GW101 := am (sgE hg (au3 HB.out) : w.heap.size ≤ gb101); have GE101 := GW101; replace HB := am (qad (au3 HB.out) hb); clear hb hbox hg) | ((with_reducible refine qal (N := 3) rfl ?_); refine bxE (N := 3) (cs := #[.int .i64 a1_0, .string a1_1, .string a1_2, .string a1_3]) (t := 73) ?_; intro gb102 hg w85 hbox hb; have BK102 := am (hbox); have GW102 := am (sgE hg (au7 HB.out GE101.out) : w.heap.size ≤ gb102); have GE102 := GW102; replace HB := am (qad (au7 HB.out GE101.out) hb); have NB101_102 := am ((sltE hg (qan (au1 BK101.out)))); have NB102_101 := am ((sgtE hg (qan (au1 BK101.out)))); replace BK101 := am (qab (au1 BK101.out) hb); clear hb hbox hg) | ((with_reducible refine qal (N := 4) rfl ?_); refine bxE (N := 4) (cs := #[.slice none 0 0, .slice none 0 0, .slice none 0 0]) (t := 31) ?_; intro gb103 hg w86 hbox hb; have BK103 := am (hbox); have GW103 := am (sgE hg (au4 HB.out GE101.out GE102.out) : w.heap.size ≤ gb103); have GE103 := GW103; replace HB := am (qad (au4 HB.out GE101.out GE102.out) hb); have NB101_103 := am ((sltE hg (qan (au1 BK101.out)))); have NB103_101 := am ((sgtE hg (qan (au1 BK101.out)))); replace BK101 := am (qab (au1 BK101.out) hb); have NB102_103 := am ((sltE hg (qan (au1 BK102.out)))); have NB103_102 := am ((sgtE hg (qan (au1 BK102.out)))); replace BK102 := am (qab (au1 BK102.out) hb); clear hb hbox hg; have hnb87 := NB102_101.out; have hnc87 := NB101_102.out; have hnb88 := NB102_103.out; have hnc88 := NB103_102.out; have hcz89_0 : _ = some (Value.int .i64 a1_0) := bcE BK102.out 0; have hcz89_1 : _ = some (Value.string a1_1) := bcE BK102.out 1; have hcz89_2 : _ = some (Value.string a1_2) := bcE BK102.out 2; have hcz89_3 : _ = some (Value.string a1_3) := bcE BK102.out 3; have hfz89_0 := qaa BK102.out 0; have hfz89_1 := qaa BK102.out 1; have hfz89_2 := qaa BK102.out 2; have hfz89_3 := qaa BK102.out 3) | ((with_reducible refine qaj (f := 89) rfl ?_); refine qap (some 10) rfl rfl Try.func89 (by kernel_rfl) rfl #[.agg #[.int .i64 a1_0, .string a1_1, .string a1_2, .string a1_3]] rfl au6 ?_; (with_reducible refine (impl_DOp_isFormed.calls a1_0 a1_1 a1_2 a1_3 false _ A3.out).mono ?_); rintro e w90 ⟨rfl, hb⟩; refine ⟨_, rfl, ?_⟩; replace BK101 := am (qab (au1 BK101.out) hb); replace BK102 := am (qab (au1 BK102.out) hb); replace BK103 := am (qab (au1 BK103.out) hb); replace HB := am (qad (au11 HB.out GE101.out GE102.out GE103.out) hb); (try clear hb); (try clear hb2); (try clear hk); (try clear hi); have hnb91 := NB101_103.out; have hnc91 := NB103_101.out; have hcz92_0 : _ = some (Value.slice A0_0 l0_0.length c0_0) := bcE BK101.out 0; have hcz92_1 : _ = some (Value.slice A0_1 l0_1.length c0_1) := bcE BK101.out 1; have hcz92_2 : _ = some (Value.slice A0_2 l0_2.length c0_2) := bcE BK101.out 2; have hfz92_0 := qaa BK101.out 0; have hfz92_1 := qaa BK101.out 1; have hfz92_2 := qaa BK101.out 2) | ((with_reducible refine qaj (f := 79) rfl ?_); refine qap (some 13) rfl rfl Try.func79 (by kernel_rfl) rfl #[.agg #[.slice A0_0 l0_0.length c0_0, .slice A0_1 l0_1.length c0_1, .slice A0_2 l0_2.length c0_2]] rfl au6 ?_; (with_reducible refine (impl_copyDisk.calls _ _ l0_0 _ _ l0_1 _ _ l0_2 t105 t108 t111 _ ?side1 ?side2 ?side3 ?side4 ?side5 ?side6 A83.out).mono ?_); (case side1 => exact scE (Kd.C_below HR0_0.out HB.out)); (case side2 => exact HC0_0.out); (case side3 => exact scE (Kd.C_below HR0_1.out HB.out)); (case side4 => exact HC0_1.out); (case side5 => exact scE (Kd.C_below HR0_2.out HB.out)); (case side6 => exact HC0_2.out); rintro e w93 ⟨v106, v109, v112, rfl, ho0, ho1, ho2, hb⟩; refine ⟨_, rfl, ?_⟩; have HO107 := am (Kd.R_lower ho0 (qaf (au11 HB.out GE101.out GE102.out GE103.out))); have HO110 := am (Kd.R_lower ho1 (qaf (au11 HB.out GE101.out GE102.out GE103.out))); have HO113 := am (Kd.R_lower (Kd.R_newB ho2 (g := gb102) (o := .cells #[.int .i64 a1_0, .string a1_1, .string a1_2, .string a1_3] 73 (0, 0)) (au1 BK102.out)) (qaf (au11 HB.out GE101.out GE102.out GE103.out))); replace BK101 := am (qab (au1 BK101.out) hb); replace BK102 := am (qab (au1 BK102.out) hb); replace BK103 := am (qab (au1 BK103.out) hb); replace HB := am (qad (au11 HB.out GE101.out GE102.out GE103.out) hb); (try clear hb); (try clear hb2); (try clear hk); (try clear hi); (try clear ho0); (try clear ho1); (try clear ho2); obtain ⟨Ao94, co94, eo94⟩ := Kd.R_slice HO107.out; subst eo94; have hcz95_0 : _ = some (Value.slice none 0 0) := bcE BK103.out 0; have hcz95_1 : _ = some (Value.slice none 0 0) := bcE BK103.out 1; have hcz95_2 : _ = some (Value.slice none 0 0) := bcE BK103.out 2; have hfz95_0 := qaa BK103.out 0; have hfz95_1 := qaa BK103.out 1; have hfz95_2 := qaa BK103.out 2; obtain ⟨Ao96, co96, eo96⟩ := Kd.R_slice HO110.out; subst eo96; obtain ⟨Ao97, co97, eo97⟩ := Kd.R_slice HO113.out; subst eo97))
  refine bodyPost_ret (qbd rfl _ _ gb103 31 #[.slice Ao94 t105.length co94, .slice Ao96 t108.length co96, .slice Ao97 t111.length co97] (0, 0) _ rfl (by refine au1 ?_; refine qam (cs := #[.slice Ao94 t105.length co94, .slice Ao96 t108.length co96, .slice none 0 0]) ?_ 2 _ rfl; refine au1 ?_; refine qam (cs := #[.slice Ao94 t105.length co94, .slice none 0 0, .slice none 0 0]) ?_ 1 _ rfl; refine au1 ?_; refine qam (cs := #[.slice none 0 0, .slice none 0 0, .slice none 0 0]) ?_ 0 _ rfl; refine au1 ?_; exact BK103.out) Try.underlying31 rfl (by kernel_rfl)) rfl ?_
  exact ⟨_, _, _, by first | rfl | (simp [qag, qah] <;> rfl) | (simp [*, qag, qah] <;> rfl), by refine au0 ?_; exact Kd.R_mono (Kd.R_far (p := ⟨gb103, 2, none⟩) (Kd.R_far (p := ⟨gb103, 1, none⟩) (Kd.R_far (p := ⟨gb103, 0, none⟩) (Kd.R_types HO107.out BK103.out (by decide)) k2E (.slice Ao94 t105.length co94)) k2E (.slice Ao96 t108.length co96)) k2E (.slice Ao97 t111.length co97)) (fun _ hk => hk.1), by refine au0 ?_; exact Kd.R_mono (Kd.R_far (p := ⟨gb103, 2, none⟩) (Kd.R_far (p := ⟨gb103, 1, none⟩) (Kd.R_far (p := ⟨gb103, 0, none⟩) (Kd.R_types HO110.out BK103.out (by decide)) k2E (.slice Ao94 t105.length co94)) k2E (.slice Ao96 t108.length co96)) k2E (.slice Ao97 t111.length co97)) (fun _ hk => hk.1), by refine au0 ?_; exact Kd.R_mono (Kd.R_far (p := ⟨gb103, 2, none⟩) (Kd.R_far (p := ⟨gb103, 1, none⟩) (Kd.R_far (p := ⟨gb103, 0, none⟩) (Kd.R_types HO113.out BK103.out (by decide)) k2E (.slice Ao94 t105.length co94)) k2E (.slice Ao96 t108.length co96)) k2E (.slice Ao97 t111.length co97)) (fun _ hk => trivial), (au11 HB.out GE101.out GE102.out GE103.out)⟩

end

section
theorem eqA80 (d : Nat) (w : World) (x0 y0 : ByteArray) (x1 y1 : ByteArray) :
 (Op.equalIn (d + 2) 80 (.agg #[.string x0, .string x1]) (.agg #[.string y0, .string y1])).run Try.prog w = .ok (x0.toList == y0.toList && (x1.toList == y1.toList)) w := by
 refine eqA_of Try.underlying80 (by kernel_rfl) ?_
 refine eqf_cons (by rfl) (by go_simp; rfl) (by go_simp; rfl) (by go_simp) ?_
 exact eqf_last (by rfl) (by go_simp; rfl) (by go_simp; rfl) (by go_simp)

end

end Go.Proofs.Ytfjoamlgbegpgaa.Q
