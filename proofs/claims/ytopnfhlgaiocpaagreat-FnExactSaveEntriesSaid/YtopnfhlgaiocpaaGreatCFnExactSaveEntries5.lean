/- Part of the proof of FnExactSaveEntries: no statement of its own. -/
import Derived.ArgAppend
import Derived.Below
import Derived.BigQuiet
import Derived.ChangeArms
import Derived.ChangeOld
import Derived.DataElems
import Derived.DataReads
import Derived.Deep.AppendLies
import Derived.Deep.CutBlock
import Derived.Deep.DeepCutAuto
import Derived.Deep.Draws
import Derived.Deep.LoopGhost
import Derived.Deep.OwnRows
import Derived.Deep.QuietTactic
import Derived.Deep.RegionHeld3
import Derived.Deep.RegionLaw
import Derived.Deep.RegionWith
import Derived.Deep.Slices
import Derived.JoinedTies
import Derived.KernelRfl
import Derived.Laws.BitsLemmas
import Derived.Laws.BytesArg
import Derived.Laws.CopyRow
import Derived.Laws.IdiomCopy
import Derived.Laws.MakeOwn
import Derived.Laws.NewBlocks
import Derived.Laws.OwnMore
import Derived.Laws.Rows
import Derived.Laws.Slices
import Derived.Laws.StructEq
import Derived.Lib.AppendStr
import Derived.Lib.AppendZerosOnto
import Derived.Lib.Bytealg
import Derived.Lib.ConvBytes
import Derived.Lib.Overlaps
import Derived.Lib.Strings
import Derived.Maps.AppendAt
import Derived.OpenShut
import Derived.OrdersHeld
import Derived.OwnWalk
import Derived.ProofKit
import Derived.RowKit
import Derived.RowKit3
import Derived.Shelf.Abstract
import Derived.Shelf.Bin.LEUint32
import Derived.Shelf.Bin.ReadersZ
import Derived.Shelf.Small.Strs
import Derived.Shelf.Spec.SlicesInsert
import Derived.ShutString
import Derived.SizedLaws
import Derived.Tactics
import Derived.Test.YtopnfhlgaiocpaaGreatProg
import Derived.WalkKit
import Derived.WideLaws
import Derived.Test.YtopnfhlgaiocpaaGreatCFnExactSaveEntries4
set_option linter.unusedVariables false
set_option linter.unusedSimpArgs false
namespace Go.Proofs.YtopnfhlgaiocpaaGreat.P
open Go Go.Proofs.YtopnfhlgaiocpaaGreat.PM Go.Proofs.YtopnfhlgaiocpaaGreat.PN Go.Proofs
set_option maxRecDepth 100000
set_option linter.unusedVariables false
theorem f56_ok {k a b c r} (h : f56 k a b c = some r) : FOk 56 [.agg [.sl 3 a [], .sl 3 b [], .sl 4 c []]] [] (f56.o r) :=
 fok [pf55, pf60, pf79, pf80, pf81] (.skip (.both (.skip (.both (.skip (.both (.l (.l (.l (.both (.l (.l (.l (.l (.l (.both (.skip (.skip (.both (.l (.l (.both (.l (.l .all)) (.r (.r .all))))) (.r (.r .all))))) .all)))))) (.r (.r (.r (.r (.r .all))))))))) (.r (.r (.r .all))))) .all)) .all)) f56.st f56.hint (D := f56.D) f56.blk (o := f56.o) Tryz.func56 ((by kernel_rfl : (f56.start k a b c).run (f56.D k) = f56 k a b c).trans h) (D0 := fun x => by cases x <;> kernel_rfl) (DS := fun k x => by cases x <;> kernel_rfl)
def pf56 : Pk Tryz.prog CC0 P0 G := ⟨56, sf56, fun k => sum_auto (@f56_ok k)⟩
end Go.Proofs.YtopnfhlgaiocpaaGreat.P
namespace Go.Proofs.YtopnfhlgaiocpaaGreat.P
open Go Go.Proofs.YtopnfhlgaiocpaaGreat.PM Go.Proofs.YtopnfhlgaiocpaaGreat.PN Go.Proofs
set_option maxRecDepth 100000
set_option linter.unusedVariables false
theorem f58_ok {k a b c r} (h : f58 k a b c = some r) : FOk 58 [.agg [.sl 3 a [], .sl 3 b [], .sl 4 c []]] [] (f58.o r) :=
 fok0 [pf82] .all (k := k) (o := f58.o) Tryz.func58 ((by kernel_rfl : (f58.start k a b c).run Empty.elim = f58 k a b c).trans h)
def pf58 : Pk Tryz.prog CC0 P0 G := ⟨58, sf58, fun k => sum_auto (@f58_ok k)⟩
end Go.Proofs.YtopnfhlgaiocpaaGreat.P
namespace Go.Proofs.YtopnfhlgaiocpaaGreat.P
open Go Go.Proofs.YtopnfhlgaiocpaaGreat.PM Go.Proofs.YtopnfhlgaiocpaaGreat.PN Go.Proofs
set_option maxRecDepth 100000
set_option linter.unusedVariables false
theorem f59_ok {k a b c r} (h : f59 k a b c = some r) : FOk 59 [.agg [.id .i64 0 a, .id .i64 0 b, .sl 5 c []]] [] (f59.o r) :=
 fok [pf83, pf84] (.skip (.both (.l (.l (.skip (.l (.l (.both (.l (.l (.l (.l .all)))) (.r (.r (.r (.r .all)))))))))) (.r (.r (.r (.r .all)))))) f59.st f59.hint (D := f59.D) f59.blk (o := f59.o) Tryz.func59 ((by kernel_rfl : (f59.start k a b c).run (f59.D k) = f59 k a b c).trans h) (D0 := fun x => by cases x <;> kernel_rfl) (DS := fun k x => by cases x <;> kernel_rfl)
def pf59 : Pk Tryz.prog CC0 P0 G := ⟨59, sf59, fun k => sum_auto (@f59_ok k)⟩
end Go.Proofs.YtopnfhlgaiocpaaGreat.P
namespace Go.Proofs.YtopnfhlgaiocpaaGreat.P
open Go Go.Proofs.YtopnfhlgaiocpaaGreat.PM Go.Proofs.YtopnfhlgaiocpaaGreat.PN Go.Proofs
set_option maxRecDepth 100000
set_option linter.unusedVariables false
theorem f101_ok {k a o0 r} (h : f101 k a o0 = some r) : FOk 101 [.agg [], .win 0 true (.l 0) (.d 0 o0.length), .id .u32 3 a] [.row true true true 0 7 o0 none] (f101.o o0 r) :=
 fok0 [] .all (k := k) (o := (f101.o o0)) Tryz.func101 ((by kernel_rfl : (f101.start k a o0).run Empty.elim = f101 k a o0).trans h)
def pf101 : Pk Tryz.prog CC0 P0 G := ⟨101, sf101, fun k => sum_auto (@f101_ok k)⟩
end Go.Proofs.YtopnfhlgaiocpaaGreat.P
namespace Go.Proofs.YtopnfhlgaiocpaaGreat.P
open Go Go.Proofs.YtopnfhlgaiocpaaGreat.PM Go.Proofs.YtopnfhlgaiocpaaGreat.PN Go.Proofs
set_option maxRecDepth 100000
set_option linter.unusedVariables false
theorem f88_ok {k a b r} (h : f88 k a b = some r) : FOk 88 [.agg [.id .i64 0 a, .s b]] [] (f88.o r) :=
 fok0 [pf57, pf97, pf101] (.skip (.both (.l (.l (.l (.l .all)))) (.r (.r (.r (.r .all)))))) (k := k) (o := f88.o) Tryz.func88 ((by kernel_rfl : (f88.start k a b).run Empty.elim = f88 k a b).trans h)
def pf88 : Pk Tryz.prog CC0 P0 G := ⟨88, sf88, fun k => sum_auto (@f88_ok k)⟩
end Go.Proofs.YtopnfhlgaiocpaaGreat.P
namespace Go.Proofs.YtopnfhlgaiocpaaGreat.P
open Go Go.Proofs.YtopnfhlgaiocpaaGreat.PM Go.Proofs.YtopnfhlgaiocpaaGreat.PN Go.Proofs
set_option maxRecDepth 100000
set_option linter.unusedVariables false
theorem f89_ok {k a r} (h : f89 k a = some r) : FOk 89 [.id .i64 1 a] [] (f89.o r) :=
 fok [] .all f89.st (fun _ => .all) (D := f89.D) f89.blk (o := f89.o) Tryz.func89 ((by kernel_rfl : (f89.start k a).run (f89.D k) = f89 k a).trans h) (D0 := fun x => by cases x <;> kernel_rfl) (DS := fun k x => by cases x <;> kernel_rfl)
def pf89 : Pk Tryz.prog CC0 P0 G := ⟨89, sf89, fun k => sum_auto (@f89_ok k)⟩
end Go.Proofs.YtopnfhlgaiocpaaGreat.P
namespace Go.Proofs.YtopnfhlgaiocpaaGreat.P
open Go Go.Proofs.YtopnfhlgaiocpaaGreat.PM Go.Proofs.YtopnfhlgaiocpaaGreat.PN Go.Proofs
set_option maxRecDepth 100000
set_option linter.unusedVariables false
theorem f90_ok {k a r} (h : f90 k a = some r) : FOk 90 [.s a] [] (f90.o r) :=
 fok0 [pf89] .all (k := k) (o := f90.o) Tryz.func90 ((by kernel_rfl : (f90.start k a).run Empty.elim = f90 k a).trans h)
def pf90 : Pk Tryz.prog CC0 P0 G := ⟨90, sf90, fun k => sum_auto (@f90_ok k)⟩
end Go.Proofs.YtopnfhlgaiocpaaGreat.P
namespace Go.Proofs.YtopnfhlgaiocpaaGreat.P
open Go Go.Proofs.YtopnfhlgaiocpaaGreat.PM Go.Proofs.YtopnfhlgaiocpaaGreat.PN Go.Proofs
set_option maxRecDepth 100000
set_option linter.unusedVariables false
theorem f65_ok {k a b c r} (h : f65 k a b c = some r) : FOk 65 [.agg [.id .i64 0 a, .id .i64 0 b, .s c]] [] (f65.o r) :=
 fok0 [pf88, pf89, pf90] .all (k := k) (o := f65.o) Tryz.func65 ((by kernel_rfl : (f65.start k a b c).run Empty.elim = f65 k a b c).trans h)
def pf65 : Pk Tryz.prog CC0 P0 G := ⟨65, sf65, fun k => sum_auto (@f65_ok k)⟩
end Go.Proofs.YtopnfhlgaiocpaaGreat.P
namespace Go.Proofs.YtopnfhlgaiocpaaGreat.P
open Go Go.Proofs.YtopnfhlgaiocpaaGreat.PM Go.Proofs.YtopnfhlgaiocpaaGreat.PN Go.Proofs
set_option maxRecDepth 100000
set_option linter.unusedVariables false
theorem f61_ok {k a r} (h : f61 k a = some r) : FOk 61 [.sl 5 a []] [] (f61.o r) :=
 fok [pf65] .all f61.st (fun _ => .all) (D := f61.D) f61.blk (o := f61.o) Tryz.func61 ((by kernel_rfl : (f61.start k a).run (f61.D k) = f61 k a).trans h) (D0 := fun x => by cases x <;> kernel_rfl) (DS := fun k x => by cases x <;> kernel_rfl)
def pf61 : Pk Tryz.prog CC0 P0 G := ⟨61, sf61, fun k => sum_auto (@f61_ok k)⟩
end Go.Proofs.YtopnfhlgaiocpaaGreat.P
namespace Go.Proofs.YtopnfhlgaiocpaaGreat.P
open Go Go.Proofs.YtopnfhlgaiocpaaGreat.PM Go.Proofs.YtopnfhlgaiocpaaGreat.PN Go.Proofs
set_option maxRecDepth 100000
set_option linter.unusedVariables false
theorem f64_ok {k a b c d e g i r} (h : f64 k a b c d e g i = some r) : FOk 64 [.agg [.sl 3 a [], .sl 3 b [], .sl 4 c []], .agg [.id .i64 0 d, .s e, .s g, .s i]] [] (f64.o r) :=
 fok0 [pf58, pf75, pf76, pf77, pf82] (.skip (.both (.two (.both (.l (.l (.l .all))) (.r (.skip (.r (.r .all))))) .all) .all)) (k := k) (o := f64.o) Tryz.func64 ((by kernel_rfl : (f64.start k a b c d e g i).run Empty.elim = f64 k a b c d e g i).trans h)
def pf64 : Pk Tryz.prog CC0 P0 G := ⟨64, sf64, fun k => sum_auto (@f64_ok k)⟩
end Go.Proofs.YtopnfhlgaiocpaaGreat.P
namespace Go.Proofs.YtopnfhlgaiocpaaGreat.P
open Go Go.Proofs.YtopnfhlgaiocpaaGreat.PM Go.Proofs.YtopnfhlgaiocpaaGreat.PN Go.Proofs
set_option maxRecDepth 100000
set_option linter.unusedVariables false
theorem f87_ok {k : Nat} {a1_0 : Int} {o0 : List S63} {o1 : List S63} {r : (List S63)} (h : f87 k a1_0 o0 o1 = some r) : callT Tryz.prog CC0 P0 87 [T.win 0 0 o0.length, T.sc (.int .i64 a1_0), T.win 1 0 o1.length] [Ob.mkRow 4 (List.map e63 o0), Ob.mkRow 4 (List.map e63 o1)] = some (T.win 2 0 r.length, [(⟨true, false, true, true, 0, 4, List.map e63 o0⟩ : Ob), Ob.mkRow 4 (List.map e63 o1), Ob.mkRow 4 (List.map e63 r)]) := by
 unfold f87 at h
 obtain ⟨⟨h0, h1, h2, h3, h4⟩, h⟩ := ite_l h
 obtain rfl := Option.some.inj h
 obtain ⟨y, rfl⟩ := List.length_eq_one_iff.1 h2
 refine callT_prim (d := insD 4 56) rfl ?_
 have hl : (o0.take a1_0.toNat ++ ([y] ++ o0.drop a1_0.toNat)).length = o0.length + 1 := by simp only [List.length_append, List.length_take, List.length_cons, List.length_nil, List.length_drop]; omega
 show insD 4 56 [.win 0 0 o0.length, .sc (.int .i64 a1_0), .win 1 0 1] [Ob.mkRow 4 (o0.map e63), Ob.mkRow 4 [e63 y]] = _
 rw [insD_eq, if_pos (by simp only [w63, beq_self_eq_true, Bool.true_and, List.length_map, Bool.and_eq_true, decide_eq_true_eq]; exact ⟨by simp [e63, T.width, T.cells], h0, by omega, by trivial, by unfold most; omega, by unfold most; omega⟩), hl]
 simp [Ob.mkRow]
def pf87 : Pk Tryz.prog CC0 P0 G := ⟨87, sf87, fun k => sum_auto (@f87_ok k)⟩
end Go.Proofs.YtopnfhlgaiocpaaGreat.P
namespace Go.Proofs.YtopnfhlgaiocpaaGreat.P
open Go Go.Proofs.YtopnfhlgaiocpaaGreat.PM Go.Proofs.YtopnfhlgaiocpaaGreat.PN Go.Proofs
set_option maxRecDepth 100000
set_option linter.unusedVariables false
theorem f62_ok {k a b c d e r} (h : f62 k a b c d e = some r) : FOk 62 [.agg [.sl 3 a [], .sl 3 b [], .sl 4 c []], .s d, .s e] [] (f62.o r) :=
 fok [pf55, pf58, pf60, pf64, pf87] .all f62.st (fun _ => .all) (D := f62.D) f62.blk (o := f62.o) Tryz.func62 ((by kernel_rfl : (f62.start k a b c d e).run (f62.D k) = f62 k a b c d e).trans h) (D0 := fun x => by cases x <;> kernel_rfl) (DS := fun k x => by cases x <;> kernel_rfl)
def pf62 : Pk Tryz.prog CC0 P0 G := ⟨62, sf62, fun k => sum_auto (@f62_ok k)⟩
end Go.Proofs.YtopnfhlgaiocpaaGreat.P
namespace Go.Proofs.YtopnfhlgaiocpaaGreat.P
open Go Go.Proofs.YtopnfhlgaiocpaaGreat.PM Go.Proofs.YtopnfhlgaiocpaaGreat.PN Go.Proofs
set_option maxRecDepth 100000
set_option linter.unusedVariables false
theorem f63.run (k : Nat) (a b : List S58) (c : List S63) : f63 k a b c = (f63.start k a b c).run Empty.elim := by simp only [f63, f63.start, PT.run, bindH_eq, dite_eq_ite]
theorem f63_ok {k a b c r} (h : f63 k a b c = some r) : FOk 63 [.agg [.sl 3 a [], .sl 3 b [], .sl 4 c []]] [] (f63.o r) :=
 fok0 [pf55, pf82] (.skip (.both (.bindr ((List S58)) fun t2 => (.re ((List S58)) t2 .all)) .all)) (k := k) (o := f63.o) Tryz.func63 ((f63.run k a b c).symm.trans h)
def pf63 : Pk Tryz.prog CC0 P0 G := ⟨63, sf63, fun k => sum_auto (@f63_ok k)⟩
end Go.Proofs.YtopnfhlgaiocpaaGreat.P
namespace Go.Proofs.YtopnfhlgaiocpaaGreat.P
open Go Go.Proofs.YtopnfhlgaiocpaaGreat.PM Go.Proofs.YtopnfhlgaiocpaaGreat.PN Go.Proofs
set_option maxRecDepth 100000
set_option linter.unusedVariables false
theorem f31_ok {k a b c d e r} (h : f31 k a b c d e = some r) : FOk 31 [.agg [.sl 3 a [], .sl 3 b [], .sl 4 c []], .id .i64 2 d, .sl 5 e []] [] (f31.o r) :=
 fok [pf55, pf56, pf57, pf58, pf59, pf60, pf61, pf62, pf63, pf64, pf65] (.skip (.both (.skip (.both (.l (.l (.l (.l (.skip (.l (.l (.both (.skip (.both (.skip (.both (.both (.l (.l (.l (.l (.l .all))))) (.r (.r (.r (.skip (.r (.r .all))))))) (.both (.l (.l (.l (.l (.l .all))))) (.r (.r (.r (.skip (.r (.r .all))))))))) .all)) .all)))))))) (.r (.r (.r (.r (.r (.r .all)))))))) .all)) f31.st (fun _ => .all) (D := f31.D) f31.blk (o := f31.o) Tryz.func31 ((by kernel_rfl : (f31.start k a b c d e).run (f31.D k) = f31 k a b c d e).trans h) (D0 := fun x => by cases x <;> kernel_rfl) (DS := fun k x => by cases x <;> kernel_rfl)
def pf31 : Pk Tryz.prog CC0 P0 G := ⟨31, sf31, fun k => sum_auto (@f31_ok k)⟩
end Go.Proofs.YtopnfhlgaiocpaaGreat.P
namespace Go.Proofs.YtopnfhlgaiocpaaGreat.P
open Go Go.Proofs.YtopnfhlgaiocpaaGreat.PM Go.Proofs.YtopnfhlgaiocpaaGreat.PN Go.Proofs
set_option maxRecDepth 100000
set_option linter.unusedVariables false
theorem f9_ok {k a b c d e r} (h : f9 k a b c d e = some r) : FOk 9 [.agg [.sl 3 a [], .sl 3 b [], .sl 4 c []], .id .i64 2 d, .sl 5 e []] [] (f9.o r) :=
 fok0 [pf31] .all (k := k) (o := f9.o) Tryz.func9 ((by kernel_rfl : (f9.start k a b c d e).run Empty.elim = f9 k a b c d e).trans h)
def pf9 : Pk Tryz.prog CC0 P0 G := ⟨9, sf9, fun k => sum_auto (@f9_ok k)⟩
end Go.Proofs.YtopnfhlgaiocpaaGreat.P
namespace Go.Proofs.YtopnfhlgaiocpaaGreat.P
open Go Go.Proofs.YtopnfhlgaiocpaaGreat.PM Go.Proofs.YtopnfhlgaiocpaaGreat.PN Go.Proofs
set_option maxRecDepth 100000
set_option linter.unusedVariables false
theorem f3.run (k : Nat) (a b : List S75) (c : List S77) (d : Int) (e : List S47) : f3 k a b c d e = (f3.start k a b c d e).run Empty.elim := by simp only [f3, f3.start, PT.run, bindH_eq, dite_eq_ite]
theorem f3_ok {k a b c d e r} (h : f3 k a b c d e = some r) : FOk 3 [.agg [.sl 0 a [], .sl 0 b [], .sl 1 c []], .id .i64 2 d, .sl 2 e []] [] (f3.o r) :=
 fok0 [pf4, pf5, pf6, pf7, pf8, pf9, pf10, pf11, pf12, pf13, pf14] (.skip (.both .all (.skip (.both .all (.bindr ((List S58) × (List S58) × (List S63)) fun t3 => (.bindr ((List S61)) fun t4 => (.skip (.re ((List S58) × (List S58) × (List S63)) t3 (.re ((List S61)) t4 (.bindr (Int × (List S58) × (List S58) × (List S63)) fun t6 => (.bindr (Bool) fun t7 => (.both (.l (.l (.l (.both (.re ((List S58) × (List S58) × (List S63)) t3 (.skip (.both (.re ((List S61)) t4 (.skip (.both (.skip (.skip (.both (.l (.l (.l (.l .all)))) (.r (.r (.re (Bool) t7 (.r (.r (.l (.l (.l (.l (.l (.skip (.bindr (Int) fun t13 => (.both .all (.both (.re ((List S58) × (List S58) × (List S63)) t3 (.re ((List S61)) t4 (.re (Int × (List S58) × (List S58) × (List S63)) t6 (.re (Bool) t7 (.l (.l (.l (.l (.l (.re (Int) t13 (.r (.l .all)))))))))))) .all))))))))))))))))) .all))) .all))) .all)))) (.r (.r (.r .all))))))))))))))) (k := k) (o := f3.o) Tryz.func3 ((f3.run k a b c d e).symm.trans h)
theorem f3_okT {k : Nat} {a b : List S75} {c : List S77} {d : Int} {e : List S47} {r : Bool} (h : f3 k a b c d e = some r) : callT Tryz.prog CC0 P0 3 [T.agg [T.sl (List.map e75 a) [], T.sl (List.map e75 b) [], T.sl (List.map e77 c) []], T.sc (.int .i64 d), T.sl (List.map e47 e) []] [] = some (denV G (f3.o r).1, []) := f3_ok h
end Go.Proofs.YtopnfhlgaiocpaaGreat.P
namespace Go.Proofs.YtopnfhlgaiocpaaGreat.P
open Go Go.Proofs.YtopnfhlgaiocpaaGreat.PM Go.Proofs Go.RowKit
theorem info_split {P : Program} {e : TypeId} {z : Value} {k b : Nat} (h : (P.info? e).map (fun i => (i.zero, i.size, i.bytes)) = some (some z, k, b)) : ∃ i, P.info? e = some i ∧ i.zero = some z ∧ i.size = k ∧ i.bytes = b := by
  cases hi : P.info? e with
  | none => rw [hi] at h; cases h
  | some i => rw [hi] at h; simp only [Option.map_some, Option.some.injEq, Prod.mk.injEq] at h; exact ⟨i, rfl, h.1, h.2.1, h.2.2⟩
theorem info_File : (Tryz.prog.info? 58).map (fun i => (i.zero, i.size, i.bytes)) = some (some (.agg #[(.string ⟨#[]⟩), (.string ⟨#[]⟩)]), 2, 32) := by kernel_rfl
set_option maxHeartbeats 4000000 in
set_option maxRecDepth 100000 in
theorem delW_File (g c i n : Nat) (C : Array Value) (w : World) (hR : RowC w 2 g C) (hcap : c * 2 ≤ C.size) (hnc : n ≤ c) (hjn : i + 1 ≤ n) (h1c : ∀ q u, q < n * 2 → C[q]? = some u → u.oneCell' = true) :
    Calls Tryz.prog 95 #[.slice (some ⟨g, 0, none⟩) n c, .int .i64 i, .int .i64 ((i + 1 : Nat) : Int)] w fun e w' => e = .returned (.slice (some ⟨g, 0, none⟩) (n - 1) c) ∧
      w' = (w.drew.setCells g (i * 2) ((C.toList.take (n * 2)).drop ((i + 1) * 2))).setCells g ((n - 1) * 2) (Builtin.zeroCells (Value.cells (.agg #[(.string ⟨#[]⟩), (.string ⟨#[]⟩)])) 1).toList := by
  obtain ⟨j, hj⟩ : ∃ j, j = i + 1 := ⟨_, rfl⟩
  rw [← hj]
  have hu := Tryz.underlying29
  obtain ⟨i0, hi0, hz0, hzs, hzb⟩ := info_split info_File
  have hC : C.toList.length = C.size := Array.length_toList
  obtain ⟨news, hnews⟩ : ∃ news, news = (C.toList.take (n * 2)).drop (j * 2) := ⟨_, rfl⟩
  have hdl : news.length = (n - j) * 2 := by rw [hnews, List.length_drop, List.length_take]; omega
  have hng : ∀ q u, news[q]? = some u → C[j * 2 + q]? = some u ∧ j * 2 + q < n * 2 := fun q u hq => by
    have hlt : q < news.length := (List.getElem?_eq_some_iff.1 hq).1
    rw [hnews, List.getElem?_drop, List.getElem?_take_of_lt (by omega)] at hq
    exact ⟨by simpa using hq, by omega⟩
  obtain ⟨A, hA, hsrc⟩ : ∃ A : Addr, (if c = j then some (⟨g, 0, none⟩ : Addr) else some ⟨g, j * 2, none⟩) = some A ∧ Aside0 (∀ t u, news[t]? = some u → w.drew.cell? (A.add t) = some u) := by
    by_cases h : c = j
    · refine ⟨⟨g, 0, none⟩, by simp [h], ⟨fun t u hu => ?_⟩⟩
      have h0 : news.length = 0 := by rw [hdl]; omega
      rw [List.length_eq_zero_iff.1 h0] at hu
      simp at hu
    · refine ⟨⟨g, j * 2, none⟩, by simp [h], ⟨fun t u hu => ?_⟩⟩
      rw [Addr.add_lit, hR.drew.cell]
      exact (hng t u hu).1
  have h1n : ∀ u ∈ news, u.oneCell' = true := fun u hu => by
    obtain ⟨q, hq⟩ := List.getElem?_of_mem hu
    obtain ⟨h1, h2⟩ := hng q u hq
    exact h1c _ u h2 h1
  obtain ⟨C1, hR1, hs1, _, _⟩ := hR.drew.set (i * 2) news
  have hz1 : ∀ m, ∀ v ∈ (Builtin.zeroCells (Value.cells (.agg #[(.string ⟨#[]⟩), (.string ⟨#[]⟩)])) m).toList, v.oneCell' = true := fun m v hv => by
    simp only [Builtin.zeroCells, Array.toList_map, List.mem_map] at hv
    obtain ⟨q, _, rfl⟩ := hv
    have : q % (Value.cells (.agg #[(.string ⟨#[]⟩), (.string ⟨#[]⟩)])).size < 2 := Nat.mod_lt _ (by decide)
    generalize q % (Value.cells (.agg #[(.string ⟨#[]⟩), (.string ⟨#[]⟩)])).size = r at this
    match r, this with
    | 0, _ => rfl
    | 1, _ => rfl
    | r + 2, h => exact absurd h (by omega)
  have hzl : ∀ m, (Builtin.zeroCells (Value.cells (.agg #[(.string ⟨#[]⟩), (.string ⟨#[]⟩)])) m).toList.length = m * 2 := fun m => by rw [Array.length_toList]; simp [Builtin.zeroCells, Value.cells]
  have hcl2 : ∀ ty, (Builtin.clear_ #[29] ty #[.slice (some ⟨g, (i + (n - j)) * 2, none⟩) (n - (i + (n - j))) (c - (i + (n - j)))]).run Tryz.prog (w.drew.setCells g (i * 2) news) = .ok (.tuple #[]) ((w.drew.setCells g (i * 2) news).setCells g ((n - 1) * 2) (Builtin.zeroCells (Value.cells (.agg #[(.string ⟨#[]⟩), (.string ⟨#[]⟩)])) 1).toList) := fun ty => by
    rw [show i + (n - j) = n - 1 by omega, show n - (n - 1) = 1 by omega]
    exact run_clear_cells (P := Tryz.prog) _ 29 58 ty (.agg #[(.string ⟨#[]⟩), (.string ⟨#[]⟩)]) hu Tryz.zeroValue58 g ((n - 1) * 2) 1 (c - (n - 1)) (by decide) (fun q hq => by rw [hzl] at hq; rw [hR1.cell, Array.getElem?_eq_getElem (by omega)]; rfl)
      (fun q hq => by rw [hzl] at hq; obtain ⟨E, fr, _, hf⟩ := hR1; exact hf _ (.inl (by omega))) (hz1 1)
  have s1 := Aside0.mk hdl
  have s2 := Aside0.mk h1n
  have s3 : Aside0 (∀ t, t < news.length → (w.drew.cell? ⟨g, 0 + i * 2 + t, none⟩).isSome = true ∧ w.drew.frozen? ⟨g, 0 + i * 2 + t, none⟩ = false) := ⟨fun t ht => by
    rw [hdl] at ht
    obtain ⟨E, fr, _, hf⟩ := hR.drew
    refine ⟨?_, hf _ (.inl (by omega))⟩
    rw [hR.drew.cell, Array.getElem?_eq_getElem (by omega)]
    rfl⟩
  have hic : i ≤ c := by omega
  have hjc : j ≤ c := by omega
  have hne : ¬ ((i : Int) = (j : Int)) := by omega
  have FIN : Aside0 ((w.drew.setCells g (i * 2) news).setCells g ((n - 1) * 2) (Builtin.zeroCells (Value.cells (.agg #[(.string ⟨#[]⟩), (.string ⟨#[]⟩)])) 1).toList = (w.drew.setCells g (i * 2) ((C.toList.take (n * 2)).drop (j * 2))).setCells g ((n - 1) * 2) (Builtin.zeroCells (Value.cells (.agg #[(.string ⟨#[]⟩), (.string ⟨#[]⟩)])) 1).toList) := ⟨by rw [hnews]⟩
  have hij : i < j := by omega
  have hji : j ≤ i + 1 := by omega
  have hjn' : j ≤ n := by omega
  clear hR1 hs1 hz1 hzl hng hC hnews hdl h1n hR hcap hz0 hzb h1c hj hjn
  go_enter Tryz.func95, Tryz.ntmps95
  go_wp2_with fail
  go_region_law (refine step_append_room rfl (.tmp 22) (.tmp 25) 29 rfl 58 i0 2 hu hi0 hzs g 0 i c (by simp [Act.eval, Act.put]) A (n - j) (c - j) news (by simp [Act.eval, Act.put]) (by have := s1.out; omega) hsrc.out s2.out (by omega) (by simpa using s3.out) ?_; (try simp only [Nat.mul_one]))
  go_wp2
  go_ret
  exact ⟨by rw [show n - 1 = i + (n - j) by omega]; rfl, FIN.out⟩
set_option maxHeartbeats 4000000 in
set_option maxRecDepth 100000 in
theorem insRoom_File (g c i n : Nat) (C : Array Value) (vs : List Value) (vb vc : Nat) (V : Array Value) (w : World) (hR : RowC w 2 g C) (hcap : c * 2 ≤ C.size) (hin : i < n) (hroom : n + 1 ≤ c) (hbig : (n + 1) * 32 ≤ 140737488355328)
    (h1c : ∀ q u, q < n * 2 → C[q]? = some u → u.oneCell' = true) (hV : RowC w 2 vb V) (hvs : ∀ (j : Nat) (u : Value), vs[j]? = some u → V[j]? = some u) (hvl : vs.length = 2) (h1v : ∀ u ∈ vs, u.oneCell' = true) (hne : vb ≠ g) :
    Calls Tryz.prog 105 #[.slice (some ⟨g, 0, none⟩) n c, .int .i64 i, .slice (some ⟨vb, 0, none⟩) 1 vc] w fun e w' => ∃ b' cap' C', e = .returned (.slice (some ⟨b', 0, none⟩) (n + 1) cap') ∧ InsR w w' 2 g i n C vs b' cap' C' := by
  have hu := Tryz.underlying29
  obtain ⟨i0, hi0, hz0, hzs, hzb⟩ := info_split info_File
  have hsz : (Tryz.prog.info? 58).map (·.size) = some 2 := by rw [hi0]; simp [hzs]
  have hC : C.toList.length = C.size := Array.length_toList
  have hsa : ∃ tA, w.shape? vb = some (tA, V.size) := by obtain ⟨E, fr, h, _⟩ := hV; exact ⟨E, by simp [World.shape?, h]⟩
  have hsb : ∃ tB, w.shape? g = some (tB, C.size) := by obtain ⟨E, fr, h, _⟩ := hR; exact ⟨E, by simp [World.shape?, h]⟩
  have hfv : ∀ q, w.frozen? ⟨vb, q, none⟩ = false := by obtain ⟨E, fr, _, h⟩ := hV; exact fun q => h q (.inr (by decide))
  obtain ⟨tA, hsa⟩ := hsa
  obtain ⟨tB, hsb⟩ := hsb
  have hov : ∀ lb cb, (callFunc 108 #[.slice (some ⟨vb, 0, none⟩) 1 vc, .slice (some ⟨g, (i + 1) * 2, none⟩) lb cb]).run Tryz.prog w = .ok (.value (.bool false)) w := fun lb cb => by
    rw [run_callFunc_extern Tryz.func108 (by kernel_rfl) (by kernel_rfl) (by kernel_rfl) (e := Extern.SlicesOverlaps.overlaps #[29, 29] #[4]) (by kernel_rfl),
      Lib.run_overlaps_apart w 29 4 58 hu 2 Tryz.sizeOf58 ⟨vb, 0, none⟩ ⟨g, (i + 1) * 2, none⟩ 1 vc lb cb hne tA tB V.size C.size hsa hsb (by omega) (hfv 0) (hfv V.size)]
    rfl
  obtain ⟨news, hnews⟩ : ∃ news, news = (C.toList.take (n * 2)).drop (i * 2) := ⟨_, rfl⟩
  have hdl : news.length = (n - i) * 2 := by rw [hnews, List.length_drop, List.length_take]; omega
  have hng : ∀ q, q < news.length → news[q]? = C[i * 2 + q]? := fun q hq => by
    rw [hnews, List.getElem?_drop, List.getElem?_take_of_lt (by omega)]
    simp
  have h1n : ∀ u ∈ news, u.oneCell' = true := fun u hu => by
    obtain ⟨q, hq⟩ := List.getElem?_of_mem hu
    have hlt : q < news.length := (List.getElem?_eq_some_iff.1 hq).1
    rw [hng q hlt] at hq
    exact h1c _ u (by omega) hq
  obtain ⟨C1, hR1, hs1, ho1, hi1⟩ := hR.drew.set ((i + 1) * 2) news
  obtain ⟨C2, hR2, hs2, ho2, hi2⟩ := hR1.set (i * 2) vs
  have hcp1 : ∀ (W : World), W.heap = w.heap → ∀ ty dc sc, (Builtin.copy_ #[29, 29] ty #[.slice (some ⟨g, (i + 1) * 2, none⟩) (n - i) dc, .slice (some ⟨g, i * 2, none⟩) (n + 1 - i) sc]).run Tryz.prog W = .ok (goInt ((n - i : Nat) : Int)) (W.setCells g ((i + 1) * 2) news) := fun W hW ty dc sc => by
    have hRW : RowC W 2 g C := by obtain ⟨E, fr, h1, h2⟩ := hR; exact ⟨E, fr, by rw [hW]; exact h1, fun q hq => by have := h2 q hq; simpa only [World.frozen?, hW] using this⟩
    have := run_copyC (P := Tryz.prog) W 29 29 ty 58 2 g ((i + 1) * 2) (n - i) dc ⟨g, i * 2, none⟩ (n + 1 - i) sc news hu hsz (by rw [hdl]; simp only [Nat.min_def]; split <;> omega)
      (fun j u hj => by
        have hlt : j < news.length := (List.getElem?_eq_some_iff.1 hj).1
        rw [Addr.add_lit, hRW.cell, ← hng j hlt]; exact hj)
      (fun q hq => by rw [hRW.cell, Array.getElem?_eq_getElem (by omega)]; rfl) (fun q hq => by obtain ⟨E, fr, _, hf⟩ := hRW; exact hf _ (.inr (by decide))) h1n
    rw [this, show Nat.min (n + 1 - i) (n - i) = n - i by simp only [Nat.min_def]; split <;> omega]
  have hcp2 : ∀ ty dc, (Builtin.copy_ #[29, 29] ty #[.slice (some ⟨g, i * 2, none⟩) (n + 1 - i) dc, .slice (some ⟨vb, 0, none⟩) 1 vc]).run Tryz.prog (w.drew.setCells g ((i + 1) * 2) news) = .ok (goInt ((1 : Nat) : Int)) ((w.drew.setCells g ((i + 1) * 2) news).setCells g (i * 2) vs) := fun ty dc => by
    have := run_copyC (P := Tryz.prog) (w.drew.setCells g ((i + 1) * 2) news) 29 29 ty 58 2 g (i * 2) (n + 1 - i) dc ⟨vb, 0, none⟩ 1 vc vs hu hsz (by rw [hvl]; simp only [Nat.min_def]; split <;> omega)
      (fun j u hj => by
        rw [Addr.add_lit, Nat.zero_add, World.cell?_of_block (w := w.drew) (a := ⟨vb, j, none⟩) (heap_setCells_ne g _ _ _ hne), hV.drew.cell]
        exact hvs j u hj)
      (fun q hq => by rw [hR1.cell, Array.getElem?_eq_getElem (by rw [hs1]; omega)]; rfl) (fun q hq => by obtain ⟨E, fr, _, hf⟩ := hR1; exact hf _ (.inr (by decide))) h1v
    rw [this, show Nat.min 1 (n + 1 - i) = 1 by simp only [Nat.min_def]; split <;> omega]
  have FIN : Aside0 (InsR w ((w.drew.setCells g ((i + 1) * 2) news).setCells g (i * 2) vs) 2 g i n C vs g c C2) := ⟨by
    refine ⟨hR2, by omega, hroom, .inl rfl, fun q hq => ?_, fun q hq => ?_, fun q h1 h2 => ?_, fun q _ hq => ?_, ?_, ?_, ?_, ?_⟩
    · rw [ho2 q (.inl hq), ho1 q (.inl (by omega))]
    · exact hi2 q (by omega) (by omega)
    · rw [ho2 _ (.inr (by omega))]
      obtain ⟨d, rfl⟩ : ∃ d, q = i * 2 + d := ⟨q - i * 2, by omega⟩
      rw [show i * 2 + d + 2 = (i + 1) * 2 + d by omega, hi1 d (by omega) (by show _ < C.size; omega), hng d (by omega)]
    · rw [heap_setCells_ne g _ _ _ hq, heap_setCells_ne g _ _ _ hq]; rfl
    · rw [heap_setCells_size, heap_setCells_size]; exact Nat.le_refl _
    · rw [World.os_setCells, World.os_setCells]; rfl
    · rw [tape_setCells, tape_setCells]; rfl
    · rw [World.output_setCells, World.output_setCells]; rfl⟩
  have hz2 : ¬ ((i : Int) = (n : Int)) := by omega
  have hw1 : IntKind.i64.wrap ((i : Int) + 1) = (i : Int) + 1 := by rw [IntKind.wrap_i64]; omega
  have hb1 : (0 : Int) ≤ (i : Int) + 1 := by omega
  have hin' : i ≤ n := by omega
  have htn : ((i : Int) + 1).toNat = i + 1 := by omega
  have hb2 : ¬ (c = i + 1) := by omega
  have hb3 : (i : Int) ≤ (n : Int) + 1 := by omega
  have hb4 : ¬ (c = i) := by omega
  have HC1 := Aside0.mk hcp1
  have HC2 := Aside0.mk hcp2
  clear hcp1 hcp2 hR1 hR2 hs1 hs2 ho1 ho2 hi1 hi2 hsa hsb hfv h1c h1v h1n hng hnews hdl hvs hR hV hC hcap hvl
  go_enter Tryz.func105, Tryz.ntmps105
  go_wp2_with (simp only [hov])
  go_region_law (refine step_copy_runI rfl _ _ 29 29 rfl _ _ (by simp [Act.eval, Act.put]) (by simp [Act.eval, Act.put]) (HC1.out w.drew rfl _ (c - (i + 1)) (c - i)) ?_)
  go_wp2_with fail
  rw [HC2.out]
  go_wp2
  go_ret
  exact ⟨g, c, C2, rfl, FIN.out⟩
set_option maxHeartbeats 4000000 in
set_option maxRecDepth 100000 in
theorem insGrow_File (g c i n : Nat) (C : Array Value) (vs : List Value) (vb vc : Nat) (V : Array Value) (w : World) (hR : RowC w 2 g C) (hcap : c * 2 ≤ C.size) (hin : i < n) (hnc : n ≤ c) (hroom : c < n + 1) (hbig : (n + 1) * 32 ≤ 140737488355328)
    (h1c : ∀ q u, q < n * 2 → C[q]? = some u → u.oneCell' = true) (hV : RowC w 2 vb V) (hvs : ∀ (j : Nat) (u : Value), vs[j]? = some u → V[j]? = some u) (hvl : vs.length = 2) (h1v : ∀ u ∈ vs, u.oneCell' = true) :
    Calls Tryz.prog 105 #[.slice (some ⟨g, 0, none⟩) n c, .int .i64 i, .slice (some ⟨vb, 0, none⟩) 1 vc] w fun e w' => ∃ b' cap' C', e = .returned (.slice (some ⟨b', 0, none⟩) (n + 1) cap') ∧ InsR w w' 2 g i n C vs b' cap' C' := by
  have hu := Tryz.underlying29
  have hui := Tryz.underlying3
  obtain ⟨i0, hi0, hz0, hzs, hzb⟩ := info_split info_File
  have hsz : (Tryz.prog.info? 58).map (·.size) = some 2 := by rw [hi0]; simp [hzs]
  have hC : C.toList.length = C.size := Array.length_toList
  have hgw : g < w.heap.size := hR.lt
  have hvw : vb < w.heap.size := hV.lt
  have hkk : (n : Int) + 1 - (i : Int) = ((n + 1 - i : Nat) : Int) := by omega
  have hik : i + (n + 1 - i) = n + 1 := by omega
  obtain ⟨olds, holds⟩ : ∃ olds, olds = C.toList.take (i * 2) := ⟨_, rfl⟩
  have hol : olds.length = i * 2 := by rw [holds, List.length_take]; omega
  have hog : ∀ q, q < i * 2 → olds[q]? = C[q]? := fun q hq => by rw [holds, List.getElem?_take_of_lt hq]; simp
  have hold : (Builtin.firstCells i0.size i (.slice (some ⟨g, 0, none⟩) i c)).run Tryz.prog w.drew = .ok olds.toArray w.drew := by
    rw [hzs]
    exact run_firstCells_some w.drew 2 i ⟨g, 0, none⟩ i c olds hol (fun j v hj => by
      have hlt : j < olds.length := (List.getElem?_eq_some_iff.1 hj).1
      rw [hog j (by omega)] at hj
      rw [Addr.add_lit, Nat.zero_add, hR.drew.cell]
      exact hj)
  obtain ⟨G, hG⟩ : ∃ G, G = grownCap w (n + 1) c 58 := ⟨_, rfl⟩
  obtain ⟨ROW, hROW⟩ : ∃ ROW : Array Value, ROW = olds.toArray ++ Builtin.zeroCells (Value.cells (.agg #[(.string ⟨#[]⟩), (.string ⟨#[]⟩)])) (n + 1 - i) ++ Builtin.zeroCells (Value.cells (.agg #[(.string ⟨#[]⟩), (.string ⟨#[]⟩)])) (G - (n + 1)) := ⟨_, rfl⟩
  have hrz : ∀ ty, (Builtin.append_ #[29, 3] ty #[.slice (some ⟨g, 0, none⟩) i c, .int .i64 ((n : Int) + 1 - (i : Int))]).run Tryz.prog w =
      .ok (.slice (some ⟨w.heap.size, 0, none⟩) (n + 1) G) (w.drew.alloc (.cells ROW 58)) := fun ty => by
    have h := Lib.run_append_grow_zeros w 29 3 ty 58 i0 _ .i64 .i64 hu hui hi0 hz0 (some ⟨g, 0, none⟩) i c olds hold (n + 1 - i) (by omega) (by omega) (by omega) (by omega) (by rw [hzb]; omega) (by rw [hzb, hik]; exact growslice_fits hroom hbig)
    rw [hik] at h
    rw [hkk, hROW, hG]
    exact h
  have hGn : n + 1 ≤ G := by rw [hG]; exact grownCap_ge w _ _ _
  have hRl : ROW.size = G * 2 := by
    rw [hROW]
    simp [Builtin.zeroCells, Value.cells, hol]
    omega
  obtain ⟨W0, hW0⟩ : ∃ W0, W0 = (w.alloc (.cells ROW 58)).drew := ⟨_, rfl⟩
  have hN0 : RowC W0 2 w.heap.size ROW := ⟨58, (0, 0), by rw [hW0]; show (w.heap.push (.cells ROW 58))[w.heap.size]? = _; simp, fun q _ => by
    have : W0.heap[w.heap.size]? = some (.cells ROW 58 (0, 0)) := by rw [hW0]; show (w.heap.push (.cells ROW 58))[w.heap.size]? = _; simp
    simp [World.frozen?, this]⟩
  have hold0 : ∀ q, q < w.heap.size → W0.heap[q]? = w.heap[q]? := fun q hq => by rw [hW0]; exact heap_alloc_old w _ hq
  have hgN : RowC W0 2 g C := by obtain ⟨E, fr, h1, h2⟩ := hR; exact ⟨E, fr, (hold0 g hgw).trans h1, fun q hq => by have := h2 q hq; simpa only [World.frozen?, hold0 g hgw] using this⟩
  have hvN : RowC W0 2 vb V := by obtain ⟨E, fr, h1, h2⟩ := hV; exact ⟨E, fr, (hold0 vb hvw).trans h1, fun q hq => by have := h2 q hq; simpa only [World.frozen?, hold0 vb hvw] using this⟩
  obtain ⟨news, hnews⟩ : ∃ news, news = (C.toList.take (n * 2)).drop (i * 2) := ⟨_, rfl⟩
  have hdl : news.length = (n - i) * 2 := by rw [hnews, List.length_drop, List.length_take]; omega
  have hng : ∀ q, q < news.length → news[q]? = C[i * 2 + q]? := fun q hq => by
    rw [hnews, List.getElem?_drop, List.getElem?_take_of_lt (by omega)]
    simp
  have h1n : ∀ u ∈ news, u.oneCell' = true := fun u hu => by
    obtain ⟨q, hq⟩ := List.getElem?_of_mem hu
    have hlt : q < news.length := (List.getElem?_eq_some_iff.1 hq).1
    rw [hng q hlt] at hq
    exact h1c _ u (by omega) hq
  have hR0g : ∀ q, q < i * 2 → ROW[q]? = C[q]? := fun q hq => by
    rw [← hog q hq, hROW]
    simp only [Array.append_assoc]
    rw [Array.getElem?_append_left (by simp [hol]; omega)]
    simp
  obtain ⟨C1, hR1, hs1, ho1, hi1⟩ := hN0.set (i * 2) vs
  obtain ⟨C2, hR2, hs2, ho2, hi2⟩ := hR1.drew.set ((i + 1) * 2) news
  have hcp1 : ∀ ty dc, (Builtin.copy_ #[29, 29] ty #[.slice (some ⟨w.heap.size, i * 2, none⟩) (n + 1 - i) dc, .slice (some ⟨vb, 0, none⟩) 1 vc]).run Tryz.prog W0 = .ok (goInt ((1 : Nat) : Int)) (W0.setCells w.heap.size (i * 2) vs) := fun ty dc => by
    have := run_copyC (P := Tryz.prog) W0 29 29 ty 58 2 w.heap.size (i * 2) (n + 1 - i) dc ⟨vb, 0, none⟩ 1 vc vs hu hsz (by rw [hvl]; simp only [Nat.min_def]; split <;> omega)
      (fun j u hj => by
        rw [Addr.add_lit, Nat.zero_add, hvN.cell]
        exact hvs j u hj)
      (fun q hq => by rw [hN0.cell, Array.getElem?_eq_getElem (by rw [hRl]; omega)]; rfl) (fun q hq => by obtain ⟨E, fr, _, hf⟩ := hN0; exact hf _ (.inr (by decide))) h1v
    rw [this, show Nat.min 1 (n + 1 - i) = 1 by simp only [Nat.min_def]; split <;> omega]
  have hcp2 : ∀ ty dc sc, (Builtin.copy_ #[29, 29] ty #[.slice (some ⟨w.heap.size, (i + 1) * 2, none⟩) (n - i) dc, .slice (some ⟨g, i * 2, none⟩) (n - i) sc]).run Tryz.prog (W0.setCells w.heap.size (i * 2) vs).drew = .ok (goInt ((n - i : Nat) : Int)) ((W0.setCells w.heap.size (i * 2) vs).drew.setCells w.heap.size ((i + 1) * 2) news) := fun ty dc sc => by
    have := run_copyC (P := Tryz.prog) (W0.setCells w.heap.size (i * 2) vs).drew 29 29 ty 58 2 w.heap.size ((i + 1) * 2) (n - i) dc ⟨g, i * 2, none⟩ (n - i) sc news hu hsz (by rw [hdl]; simp only [Nat.min_def]; split <;> omega)
      (fun j u hj => by
        have hlt : j < news.length := (List.getElem?_eq_some_iff.1 hj).1
        rw [Addr.add_lit]
        show (W0.setCells w.heap.size (i * 2) vs).cell? _ = _
        rw [World.cell?_of_block (w := W0) (a := ⟨g, i * 2 + j, none⟩) (heap_setCells_ne w.heap.size _ _ _ (by show g ≠ _; omega)), hgN.cell, ← hng j hlt]
        exact hj)
      (fun q hq => by rw [hR1.drew.cell, Array.getElem?_eq_getElem (by rw [hs1, hRl]; omega)]; rfl) (fun q hq => by obtain ⟨E, fr, _, hf⟩ := hR1.drew; exact hf _ (.inr (by decide))) h1n
    rw [this, show Nat.min (n - i) (n - i) = n - i by simp only [Nat.min_def]; split <;> omega]
  have FIN : Aside0 (InsR w ((W0.setCells w.heap.size (i * 2) vs).drew.setCells w.heap.size ((i + 1) * 2) news) 2 g i n C vs w.heap.size G C2) := ⟨by
    refine ⟨hR2, by omega, hGn, .inr (Nat.le_refl _), fun q hq => ?_, fun q hq => ?_, fun q h1 h2 => ?_, fun q hlt hq => ?_, ?_, ?_, ?_, ?_⟩
    · rw [ho2 q (.inl (by omega)), ho1 q (.inl hq), hR0g q hq]
    · rw [ho2 _ (.inl (by omega))]
      exact hi1 q (by omega) (by omega)
    · obtain ⟨d, rfl⟩ : ∃ d, q = i * 2 + d := ⟨q - i * 2, by omega⟩
      rw [show i * 2 + d + 2 = (i + 1) * 2 + d by omega, hi2 d (by omega) (by omega), hng d (by omega)]
    · rw [heap_setCells_ne _ _ _ _ (by omega)]
      show (W0.setCells _ _ _).heap[q]? = _
      rw [heap_setCells_ne _ _ _ _ (by omega)]
      exact hold0 q hlt
    · rw [heap_setCells_size]
      show _ ≤ (W0.setCells _ _ _).heap.size
      rw [heap_setCells_size, hW0]
      show _ ≤ (w.alloc _).heap.size
      simp [World.alloc_eq]
    · rw [World.os_setCells]
      show (W0.setCells _ _ _).os = _
      rw [World.os_setCells, hW0]; rfl
    · rw [tape_setCells]
      show (W0.setCells _ _ _).tape = _
      rw [tape_setCells, hW0]; rfl
    · rw [World.output_setCells]
      show (W0.setCells _ _ _).output = _
      rw [World.output_setCells, hW0]; rfl⟩
  have hz2 : ¬ ((i : Int) = (n : Int)) := by omega
  have hz3 : (c : Int) < (n : Int) + 1 := by omega
  have hw1 : IntKind.i64.wrap ((i : Int) + 1) = (i : Int) + 1 := by rw [IntKind.wrap_i64]; omega
  have hb1 : (0 : Int) ≤ (i : Int) + 1 := by omega
  have hin' : i ≤ n := by omega
  have htn : ((i : Int) + 1).toNat = i + 1 := by omega
  have hGi : ¬ (G = i) := by omega
  have hGim : ¬ (G = i + 1) := by omega
  have hci : ¬ (c = i) := by omega
  have hb3 : (i : Int) ≤ (n : Int) := by omega
  have hn63 : n ≤ 4611686018427387904 := by omega
  have HC1 := Aside0.mk hcp1
  have HC2 := Aside0.mk hcp2
  have HW := Aside0.mk hW0
  clear hcp1 hcp2 hR1 hR2 hs1 hs2 ho1 ho2 hi1 hi2 h1c h1v h1n hng hnews hdl hvs hR hV hC hcap hvl hR0g hN0 hold0 hgN hvN hRl hROW hG hold hog hol holds hkk hik hgw hvw hW0
  go_enter Tryz.func105, Tryz.ntmps105
  go_wp2_with (at_builtin; refine Lib.wpList_append_run _ rfl _ _ _ _ rfl _ _ rfl rfl _ _ (hrz _) ?_)
  rw [← HW.out, HC1.out]
  go_wp2
  go_region_law (refine step_copy_runI rfl _ _ 29 29 rfl _ _ (by simp [Act.eval, Act.put]) (by simp [Act.eval, Act.put]) (HC2.out _ (G - (i + 1)) (c - i)) ?_)
  go_wp2
  go_ret
  exact ⟨_, _, _, rfl, FIN.out⟩
theorem cmpW (a b : ByteArray) (w : World) : Calls Tryz.prog 107 #[.string a, .string b] w fun e w' => e = .returned (.int .i64 (cmpS a b)) ∧ w' = w := by
  have hx : (callFunc 111 #[.string a, .string b]).run Tryz.prog w = .ok (.value (.int .i64 (cmpS a b))) w := by
    rw [run_callFunc_extern Tryz.func111 (by kernel_rfl) (by kernel_rfl) (by kernel_rfl) (e := Extern.BytealgCompare.compare) (by kernel_rfl), Lib.run_compareString]
    rfl
  go_enter Tryz.func107, Tryz.ntmps107
  go_wp2_with (simp only [hx])
  go_ret
  exact ⟨rfl, rfl⟩
end Go.Proofs.YtopnfhlgaiocpaaGreat.P
namespace Go.Proofs.YtopnfhlgaiocpaaGreat.P
open Go Go.Proofs.YtopnfhlgaiocpaaGreat.PM Go.Proofs Go.RowKit
theorem info_DOp : (Tryz.prog.info? 63).map (fun i => (i.zero, i.size, i.bytes)) = some (some (.agg #[(.int .i64 0), (.string ⟨#[]⟩), (.string ⟨#[]⟩), (.string ⟨#[]⟩)]), 4, 56) := by kernel_rfl
set_option maxHeartbeats 4000000 in
set_option maxRecDepth 100000 in
theorem insRoom_DOp (g c i n : Nat) (C : Array Value) (vs : List Value) (vb vc : Nat) (V : Array Value) (w : World) (hR : RowC w 4 g C) (hcap : c * 4 ≤ C.size) (hin : i < n) (hroom : n + 1 ≤ c) (hbig : (n + 1) * 56 ≤ 140737488355328)
    (h1c : ∀ q u, q < n * 4 → C[q]? = some u → u.oneCell' = true) (hV : RowC w 4 vb V) (hvs : ∀ (j : Nat) (u : Value), vs[j]? = some u → V[j]? = some u) (hvl : vs.length = 4) (h1v : ∀ u ∈ vs, u.oneCell' = true) (hne : vb ≠ g) :
    Calls Tryz.prog 87 #[.slice (some ⟨g, 0, none⟩) n c, .int .i64 i, .slice (some ⟨vb, 0, none⟩) 1 vc] w fun e w' => ∃ b' cap' C', e = .returned (.slice (some ⟨b', 0, none⟩) (n + 1) cap') ∧ InsR w w' 4 g i n C vs b' cap' C' := by
  have hu := Tryz.underlying30
  obtain ⟨i0, hi0, hz0, hzs, hzb⟩ := info_split info_DOp
  have hsz : (Tryz.prog.info? 63).map (·.size) = some 4 := by rw [hi0]; simp [hzs]
  have hC : C.toList.length = C.size := Array.length_toList
  have hsa : ∃ tA, w.shape? vb = some (tA, V.size) := by obtain ⟨E, fr, h, _⟩ := hV; exact ⟨E, by simp [World.shape?, h]⟩
  have hsb : ∃ tB, w.shape? g = some (tB, C.size) := by obtain ⟨E, fr, h, _⟩ := hR; exact ⟨E, by simp [World.shape?, h]⟩
  have hfv : ∀ q, w.frozen? ⟨vb, q, none⟩ = false := by obtain ⟨E, fr, _, h⟩ := hV; exact fun q => h q (.inr (by decide))
  obtain ⟨tA, hsa⟩ := hsa
  obtain ⟨tB, hsb⟩ := hsb
  have hov : ∀ lb cb, (callFunc 99 #[.slice (some ⟨vb, 0, none⟩) 1 vc, .slice (some ⟨g, (i + 1) * 4, none⟩) lb cb]).run Tryz.prog w = .ok (.value (.bool false)) w := fun lb cb => by
    rw [run_callFunc_extern Tryz.func99 (by kernel_rfl) (by kernel_rfl) (by kernel_rfl) (e := Extern.SlicesOverlaps.overlaps #[30, 30] #[4]) (by kernel_rfl),
      Lib.run_overlaps_apart w 30 4 63 hu 4 Tryz.sizeOf63 ⟨vb, 0, none⟩ ⟨g, (i + 1) * 4, none⟩ 1 vc lb cb hne tA tB V.size C.size hsa hsb (by omega) (hfv 0) (hfv V.size)]
    rfl
  obtain ⟨news, hnews⟩ : ∃ news, news = (C.toList.take (n * 4)).drop (i * 4) := ⟨_, rfl⟩
  have hdl : news.length = (n - i) * 4 := by rw [hnews, List.length_drop, List.length_take]; omega
  have hng : ∀ q, q < news.length → news[q]? = C[i * 4 + q]? := fun q hq => by
    rw [hnews, List.getElem?_drop, List.getElem?_take_of_lt (by omega)]
    simp
  have h1n : ∀ u ∈ news, u.oneCell' = true := fun u hu => by
    obtain ⟨q, hq⟩ := List.getElem?_of_mem hu
    have hlt : q < news.length := (List.getElem?_eq_some_iff.1 hq).1
    rw [hng q hlt] at hq
    exact h1c _ u (by omega) hq
  obtain ⟨C1, hR1, hs1, ho1, hi1⟩ := hR.drew.set ((i + 1) * 4) news
  obtain ⟨C2, hR2, hs2, ho2, hi2⟩ := hR1.set (i * 4) vs
  have hcp1 : ∀ (W : World), W.heap = w.heap → ∀ ty dc sc, (Builtin.copy_ #[30, 30] ty #[.slice (some ⟨g, (i + 1) * 4, none⟩) (n - i) dc, .slice (some ⟨g, i * 4, none⟩) (n + 1 - i) sc]).run Tryz.prog W = .ok (goInt ((n - i : Nat) : Int)) (W.setCells g ((i + 1) * 4) news) := fun W hW ty dc sc => by
    have hRW : RowC W 4 g C := by obtain ⟨E, fr, h1, h2⟩ := hR; exact ⟨E, fr, by rw [hW]; exact h1, fun q hq => by have := h2 q hq; simpa only [World.frozen?, hW] using this⟩
    have := run_copyC (P := Tryz.prog) W 30 30 ty 63 4 g ((i + 1) * 4) (n - i) dc ⟨g, i * 4, none⟩ (n + 1 - i) sc news hu hsz (by rw [hdl]; simp only [Nat.min_def]; split <;> omega)
      (fun j u hj => by
        have hlt : j < news.length := (List.getElem?_eq_some_iff.1 hj).1
        rw [Addr.add_lit, hRW.cell, ← hng j hlt]; exact hj)
      (fun q hq => by rw [hRW.cell, Array.getElem?_eq_getElem (by omega)]; rfl) (fun q hq => by obtain ⟨E, fr, _, hf⟩ := hRW; exact hf _ (.inr (by decide))) h1n
    rw [this, show Nat.min (n + 1 - i) (n - i) = n - i by simp only [Nat.min_def]; split <;> omega]
  have hcp2 : ∀ ty dc, (Builtin.copy_ #[30, 30] ty #[.slice (some ⟨g, i * 4, none⟩) (n + 1 - i) dc, .slice (some ⟨vb, 0, none⟩) 1 vc]).run Tryz.prog (w.drew.setCells g ((i + 1) * 4) news) = .ok (goInt ((1 : Nat) : Int)) ((w.drew.setCells g ((i + 1) * 4) news).setCells g (i * 4) vs) := fun ty dc => by
    have := run_copyC (P := Tryz.prog) (w.drew.setCells g ((i + 1) * 4) news) 30 30 ty 63 4 g (i * 4) (n + 1 - i) dc ⟨vb, 0, none⟩ 1 vc vs hu hsz (by rw [hvl]; simp only [Nat.min_def]; split <;> omega)
      (fun j u hj => by
        rw [Addr.add_lit, Nat.zero_add, World.cell?_of_block (w := w.drew) (a := ⟨vb, j, none⟩) (heap_setCells_ne g _ _ _ hne), hV.drew.cell]
        exact hvs j u hj)
      (fun q hq => by rw [hR1.cell, Array.getElem?_eq_getElem (by rw [hs1]; omega)]; rfl) (fun q hq => by obtain ⟨E, fr, _, hf⟩ := hR1; exact hf _ (.inr (by decide))) h1v
    rw [this, show Nat.min 1 (n + 1 - i) = 1 by simp only [Nat.min_def]; split <;> omega]
  have FIN : Aside0 (InsR w ((w.drew.setCells g ((i + 1) * 4) news).setCells g (i * 4) vs) 4 g i n C vs g c C2) := ⟨by
    refine ⟨hR2, by omega, hroom, .inl rfl, fun q hq => ?_, fun q hq => ?_, fun q h1 h2 => ?_, fun q _ hq => ?_, ?_, ?_, ?_, ?_⟩
    · rw [ho2 q (.inl hq), ho1 q (.inl (by omega))]
    · exact hi2 q (by omega) (by omega)
    · rw [ho2 _ (.inr (by omega))]
      obtain ⟨d, rfl⟩ : ∃ d, q = i * 4 + d := ⟨q - i * 4, by omega⟩
      rw [show i * 4 + d + 4 = (i + 1) * 4 + d by omega, hi1 d (by omega) (by show _ < C.size; omega), hng d (by omega)]
    · rw [heap_setCells_ne g _ _ _ hq, heap_setCells_ne g _ _ _ hq]; rfl
    · rw [heap_setCells_size, heap_setCells_size]; exact Nat.le_refl _
    · rw [World.os_setCells, World.os_setCells]; rfl
    · rw [tape_setCells, tape_setCells]; rfl
    · rw [World.output_setCells, World.output_setCells]; rfl⟩
  have hz2 : ¬ ((i : Int) = (n : Int)) := by omega
  have hw1 : IntKind.i64.wrap ((i : Int) + 1) = (i : Int) + 1 := by rw [IntKind.wrap_i64]; omega
  have hb1 : (0 : Int) ≤ (i : Int) + 1 := by omega
  have hin' : i ≤ n := by omega
  have htn : ((i : Int) + 1).toNat = i + 1 := by omega
  have hb2 : ¬ (c = i + 1) := by omega
  have hb3 : (i : Int) ≤ (n : Int) + 1 := by omega
  have hb4 : ¬ (c = i) := by omega
  have HC1 := Aside0.mk hcp1
  have HC2 := Aside0.mk hcp2
  clear hcp1 hcp2 hR1 hR2 hs1 hs2 ho1 ho2 hi1 hi2 hsa hsb hfv h1c h1v h1n hng hnews hdl hvs hR hV hC hcap hvl
  go_enter Tryz.func87, Tryz.ntmps87
  go_wp2_with (simp only [hov])
  go_region_law (refine step_copy_runI rfl _ _ 30 30 rfl _ _ (by simp [Act.eval, Act.put]) (by simp [Act.eval, Act.put]) (HC1.out w.drew rfl _ (c - (i + 1)) (c - i)) ?_)
  go_wp2_with fail
  rw [HC2.out]
  go_wp2
  go_ret
  exact ⟨g, c, C2, rfl, FIN.out⟩
set_option maxHeartbeats 4000000 in
set_option maxRecDepth 100000 in
theorem insGrow_DOp (g c i n : Nat) (C : Array Value) (vs : List Value) (vb vc : Nat) (V : Array Value) (w : World) (hR : RowC w 4 g C) (hcap : c * 4 ≤ C.size) (hin : i < n) (hnc : n ≤ c) (hroom : c < n + 1) (hbig : (n + 1) * 56 ≤ 140737488355328)
    (h1c : ∀ q u, q < n * 4 → C[q]? = some u → u.oneCell' = true) (hV : RowC w 4 vb V) (hvs : ∀ (j : Nat) (u : Value), vs[j]? = some u → V[j]? = some u) (hvl : vs.length = 4) (h1v : ∀ u ∈ vs, u.oneCell' = true) :
    Calls Tryz.prog 87 #[.slice (some ⟨g, 0, none⟩) n c, .int .i64 i, .slice (some ⟨vb, 0, none⟩) 1 vc] w fun e w' => ∃ b' cap' C', e = .returned (.slice (some ⟨b', 0, none⟩) (n + 1) cap') ∧ InsR w w' 4 g i n C vs b' cap' C' := by
  have hu := Tryz.underlying30
  have hui := Tryz.underlying3
  obtain ⟨i0, hi0, hz0, hzs, hzb⟩ := info_split info_DOp
  have hsz : (Tryz.prog.info? 63).map (·.size) = some 4 := by rw [hi0]; simp [hzs]
  have hC : C.toList.length = C.size := Array.length_toList
  have hgw : g < w.heap.size := hR.lt
  have hvw : vb < w.heap.size := hV.lt
  have hkk : (n : Int) + 1 - (i : Int) = ((n + 1 - i : Nat) : Int) := by omega
  have hik : i + (n + 1 - i) = n + 1 := by omega
  obtain ⟨olds, holds⟩ : ∃ olds, olds = C.toList.take (i * 4) := ⟨_, rfl⟩
  have hol : olds.length = i * 4 := by rw [holds, List.length_take]; omega
  have hog : ∀ q, q < i * 4 → olds[q]? = C[q]? := fun q hq => by rw [holds, List.getElem?_take_of_lt hq]; simp
  have hold : (Builtin.firstCells i0.size i (.slice (some ⟨g, 0, none⟩) i c)).run Tryz.prog w.drew = .ok olds.toArray w.drew := by
    rw [hzs]
    exact run_firstCells_some w.drew 4 i ⟨g, 0, none⟩ i c olds hol (fun j v hj => by
      have hlt : j < olds.length := (List.getElem?_eq_some_iff.1 hj).1
      rw [hog j (by omega)] at hj
      rw [Addr.add_lit, Nat.zero_add, hR.drew.cell]
      exact hj)
  obtain ⟨G, hG⟩ : ∃ G, G = grownCap w (n + 1) c 63 := ⟨_, rfl⟩
  obtain ⟨ROW, hROW⟩ : ∃ ROW : Array Value, ROW = olds.toArray ++ Builtin.zeroCells (Value.cells (.agg #[(.int .i64 0), (.string ⟨#[]⟩), (.string ⟨#[]⟩), (.string ⟨#[]⟩)])) (n + 1 - i) ++ Builtin.zeroCells (Value.cells (.agg #[(.int .i64 0), (.string ⟨#[]⟩), (.string ⟨#[]⟩), (.string ⟨#[]⟩)])) (G - (n + 1)) := ⟨_, rfl⟩
  have hrz : ∀ ty, (Builtin.append_ #[30, 3] ty #[.slice (some ⟨g, 0, none⟩) i c, .int .i64 ((n : Int) + 1 - (i : Int))]).run Tryz.prog w =
      .ok (.slice (some ⟨w.heap.size, 0, none⟩) (n + 1) G) (w.drew.alloc (.cells ROW 63)) := fun ty => by
    have h := Lib.run_append_grow_zeros w 30 3 ty 63 i0 _ .i64 .i64 hu hui hi0 hz0 (some ⟨g, 0, none⟩) i c olds hold (n + 1 - i) (by omega) (by omega) (by omega) (by omega) (by rw [hzb]; omega) (by rw [hzb, hik]; exact growslice_fits hroom hbig)
    rw [hik] at h
    rw [hkk, hROW, hG]
    exact h
  have hGn : n + 1 ≤ G := by rw [hG]; exact grownCap_ge w _ _ _
  have hRl : ROW.size = G * 4 := by
    rw [hROW]
    simp [Builtin.zeroCells, Value.cells, hol]
    omega
  obtain ⟨W0, hW0⟩ : ∃ W0, W0 = (w.alloc (.cells ROW 63)).drew := ⟨_, rfl⟩
  have hN0 : RowC W0 4 w.heap.size ROW := ⟨63, (0, 0), by rw [hW0]; show (w.heap.push (.cells ROW 63))[w.heap.size]? = _; simp, fun q _ => by
    have : W0.heap[w.heap.size]? = some (.cells ROW 63 (0, 0)) := by rw [hW0]; show (w.heap.push (.cells ROW 63))[w.heap.size]? = _; simp
    simp [World.frozen?, this]⟩
  have hold0 : ∀ q, q < w.heap.size → W0.heap[q]? = w.heap[q]? := fun q hq => by rw [hW0]; exact heap_alloc_old w _ hq
  have hgN : RowC W0 4 g C := by obtain ⟨E, fr, h1, h2⟩ := hR; exact ⟨E, fr, (hold0 g hgw).trans h1, fun q hq => by have := h2 q hq; simpa only [World.frozen?, hold0 g hgw] using this⟩
  have hvN : RowC W0 4 vb V := by obtain ⟨E, fr, h1, h2⟩ := hV; exact ⟨E, fr, (hold0 vb hvw).trans h1, fun q hq => by have := h2 q hq; simpa only [World.frozen?, hold0 vb hvw] using this⟩
  obtain ⟨news, hnews⟩ : ∃ news, news = (C.toList.take (n * 4)).drop (i * 4) := ⟨_, rfl⟩
  have hdl : news.length = (n - i) * 4 := by rw [hnews, List.length_drop, List.length_take]; omega
  have hng : ∀ q, q < news.length → news[q]? = C[i * 4 + q]? := fun q hq => by
    rw [hnews, List.getElem?_drop, List.getElem?_take_of_lt (by omega)]
    simp
  have h1n : ∀ u ∈ news, u.oneCell' = true := fun u hu => by
    obtain ⟨q, hq⟩ := List.getElem?_of_mem hu
    have hlt : q < news.length := (List.getElem?_eq_some_iff.1 hq).1
    rw [hng q hlt] at hq
    exact h1c _ u (by omega) hq
  have hR0g : ∀ q, q < i * 4 → ROW[q]? = C[q]? := fun q hq => by
    rw [← hog q hq, hROW]
    simp only [Array.append_assoc]
    rw [Array.getElem?_append_left (by simp [hol]; omega)]
    simp
  obtain ⟨C1, hR1, hs1, ho1, hi1⟩ := hN0.set (i * 4) vs
  obtain ⟨C2, hR2, hs2, ho2, hi2⟩ := hR1.drew.set ((i + 1) * 4) news
  have hcp1 : ∀ ty dc, (Builtin.copy_ #[30, 30] ty #[.slice (some ⟨w.heap.size, i * 4, none⟩) (n + 1 - i) dc, .slice (some ⟨vb, 0, none⟩) 1 vc]).run Tryz.prog W0 = .ok (goInt ((1 : Nat) : Int)) (W0.setCells w.heap.size (i * 4) vs) := fun ty dc => by
    have := run_copyC (P := Tryz.prog) W0 30 30 ty 63 4 w.heap.size (i * 4) (n + 1 - i) dc ⟨vb, 0, none⟩ 1 vc vs hu hsz (by rw [hvl]; simp only [Nat.min_def]; split <;> omega)
      (fun j u hj => by
        rw [Addr.add_lit, Nat.zero_add, hvN.cell]
        exact hvs j u hj)
      (fun q hq => by rw [hN0.cell, Array.getElem?_eq_getElem (by rw [hRl]; omega)]; rfl) (fun q hq => by obtain ⟨E, fr, _, hf⟩ := hN0; exact hf _ (.inr (by decide))) h1v
    rw [this, show Nat.min 1 (n + 1 - i) = 1 by simp only [Nat.min_def]; split <;> omega]
  have hcp2 : ∀ ty dc sc, (Builtin.copy_ #[30, 30] ty #[.slice (some ⟨w.heap.size, (i + 1) * 4, none⟩) (n - i) dc, .slice (some ⟨g, i * 4, none⟩) (n - i) sc]).run Tryz.prog (W0.setCells w.heap.size (i * 4) vs).drew = .ok (goInt ((n - i : Nat) : Int)) ((W0.setCells w.heap.size (i * 4) vs).drew.setCells w.heap.size ((i + 1) * 4) news) := fun ty dc sc => by
    have := run_copyC (P := Tryz.prog) (W0.setCells w.heap.size (i * 4) vs).drew 30 30 ty 63 4 w.heap.size ((i + 1) * 4) (n - i) dc ⟨g, i * 4, none⟩ (n - i) sc news hu hsz (by rw [hdl]; simp only [Nat.min_def]; split <;> omega)
      (fun j u hj => by
        have hlt : j < news.length := (List.getElem?_eq_some_iff.1 hj).1
        rw [Addr.add_lit]
        show (W0.setCells w.heap.size (i * 4) vs).cell? _ = _
        rw [World.cell?_of_block (w := W0) (a := ⟨g, i * 4 + j, none⟩) (heap_setCells_ne w.heap.size _ _ _ (by show g ≠ _; omega)), hgN.cell, ← hng j hlt]
        exact hj)
      (fun q hq => by rw [hR1.drew.cell, Array.getElem?_eq_getElem (by rw [hs1, hRl]; omega)]; rfl) (fun q hq => by obtain ⟨E, fr, _, hf⟩ := hR1.drew; exact hf _ (.inr (by decide))) h1n
    rw [this, show Nat.min (n - i) (n - i) = n - i by simp only [Nat.min_def]; split <;> omega]
  have FIN : Aside0 (InsR w ((W0.setCells w.heap.size (i * 4) vs).drew.setCells w.heap.size ((i + 1) * 4) news) 4 g i n C vs w.heap.size G C2) := ⟨by
    refine ⟨hR2, by omega, hGn, .inr (Nat.le_refl _), fun q hq => ?_, fun q hq => ?_, fun q h1 h2 => ?_, fun q hlt hq => ?_, ?_, ?_, ?_, ?_⟩
    · rw [ho2 q (.inl (by omega)), ho1 q (.inl hq), hR0g q hq]
    · rw [ho2 _ (.inl (by omega))]
      exact hi1 q (by omega) (by omega)
    · obtain ⟨d, rfl⟩ : ∃ d, q = i * 4 + d := ⟨q - i * 4, by omega⟩
      rw [show i * 4 + d + 4 = (i + 1) * 4 + d by omega, hi2 d (by omega) (by omega), hng d (by omega)]
    · rw [heap_setCells_ne _ _ _ _ (by omega)]
      show (W0.setCells _ _ _).heap[q]? = _
      rw [heap_setCells_ne _ _ _ _ (by omega)]
      exact hold0 q hlt
    · rw [heap_setCells_size]
      show _ ≤ (W0.setCells _ _ _).heap.size
      rw [heap_setCells_size, hW0]
      show _ ≤ (w.alloc _).heap.size
      simp [World.alloc_eq]
    · rw [World.os_setCells]
      show (W0.setCells _ _ _).os = _
      rw [World.os_setCells, hW0]; rfl
    · rw [tape_setCells]
      show (W0.setCells _ _ _).tape = _
      rw [tape_setCells, hW0]; rfl
    · rw [World.output_setCells]
      show (W0.setCells _ _ _).output = _
      rw [World.output_setCells, hW0]; rfl⟩
  have hz2 : ¬ ((i : Int) = (n : Int)) := by omega
  have hz3 : (c : Int) < (n : Int) + 1 := by omega
  have hw1 : IntKind.i64.wrap ((i : Int) + 1) = (i : Int) + 1 := by rw [IntKind.wrap_i64]; omega
  have hb1 : (0 : Int) ≤ (i : Int) + 1 := by omega
  have hin' : i ≤ n := by omega
  have htn : ((i : Int) + 1).toNat = i + 1 := by omega
  have hGi : ¬ (G = i) := by omega
  have hGim : ¬ (G = i + 1) := by omega
  have hci : ¬ (c = i) := by omega
  have hb3 : (i : Int) ≤ (n : Int) := by omega
  have hn63 : n ≤ 4611686018427387904 := by omega
  have HC1 := Aside0.mk hcp1
  have HC2 := Aside0.mk hcp2
  have HW := Aside0.mk hW0
  clear hcp1 hcp2 hR1 hR2 hs1 hs2 ho1 ho2 hi1 hi2 h1c h1v h1n hng hnews hdl hvs hR hV hC hcap hvl hR0g hN0 hold0 hgN hvN hRl hROW hG hold hog hol holds hkk hik hgw hvw hW0
  go_enter Tryz.func87, Tryz.ntmps87
  go_wp2_with (at_builtin; refine Lib.wpList_append_run _ rfl _ _ _ _ rfl _ _ rfl rfl _ _ (hrz _) ?_)
  rw [← HW.out, HC1.out]
  go_wp2
  go_region_law (refine step_copy_runI rfl _ _ 30 30 rfl _ _ (by simp [Act.eval, Act.put]) (by simp [Act.eval, Act.put]) (HC2.out _ (G - (i + 1)) (c - i)) ?_)
  go_wp2
  go_ret
  exact ⟨_, _, _, rfl, FIN.out⟩
end Go.Proofs.YtopnfhlgaiocpaaGreat.P
namespace Go.Proofs.YtopnfhlgaiocpaaGreat.P
open Go Go.Proofs.YtopnfhlgaiocpaaGreat.PM Go.Proofs
attribute [local simp] execK_seq execK_region execK_ret execK_skip execK_exit execK_block execK_cond condK_bool seqK_normal seqK_ret seqK_exit blockK_normal blockK_ret blockK_exit giveK_normal giveK_ret regionK clearK_none clearK_some normR_mk normR_def freshR fresh1 nextK_normal nextK_ret nextK_exit
  regionR runOps stepR wantR opR evalT lift lift1 Rd.run Rd.run_bind wrOk putT putAll putIn lookIn guardR Rd.ofOption obj buildSliceR mapR close close1 view1 plainB T.width T.cells room appendR strR newsR elemsR setAll most Ob.kill Ob.gone pure findK FCert.predsOf logsR Log.bare meets
  loadR storeR takeCells closeIf cellT splice T.withCells buildR fillR chk undT giveR resR outAll outOne outCell outCells outMany reachN refs refs1 posIn srcN validB mapV mapA mapC mapOb pickTmps lenR sliceR bound hiB loB makeSliceR copyR
  ev_add ev_sub ev_mul ev_quo ev_rem ev_sadd ev_eql ev_neq ev_lss ev_leq ev_gtr ev_geq ev_seql ev_sneq ev_slss ev_sleq ev_sgtr ev_sgeq ev_not ev_neg ev_unxor ev_conv scOf bsize_mk bytesOf bytesOf_map bytesOf_append eqSc eqFs strOf ev_min ev_and ev_or ev_xor ev_andNot ev_shl ev_shr indexAddrR intOf callR passAll passT pass1 reach passOb backN backS noSrc flatL verOf at_map byteAt_eq wid_append wid_nil wid_cons List.take_of_length_le wStr w_i64 w_u8 eStr eBool e_i64 e_u8 List.range_succ bytesL
  sz2 ag2 by2 ze2 sz3 ag3 by3 ze3 sz4 ag4 by4 ze4 sz5 ag5 by5 ze5 sz9 ag9 by9 ze9 sz22 ag22 by22 ze22 el22 sz23 ag23 by23 ze23 el23 sz25 ag25 by25 ze25 fs25 sz26 ag26 by26 ze26 el26 sz29 ag29 by29 ze29 el29 sz30 ag30 by30 ze30 el30 sz32 ag32 by32 ze32 fs32 sz36 ag36 by36 ze36 el36 sz47 ag47 by47 ze47 fs47 sz50 ag50 by50 ze50 fs50 sz58 ag58 by58 ze58 fs58 sz61 ag61 by61 ze61 fs61 sz63 ag63 by63 ze63 fs63 sz75 ag75 by75 ze75 fs75 sz77 ag77 by77 ze77 fs77 sz82 ag82 by82 ze82 el82 sz88 ag88 by88 ze88 fs88 sz102 ag102 by102 ze102 el102 sz111 ag111 by111 ze111 sz122 ag122 by122 ze122 sz126 ag126 by126 ze126 fs126 ck2 ck3 ck4 ck9 ck29 ck30 ck32 ck36 ck50 ck58 ck61 ck63 ck82 ck88 ck102 ck111 eq58 ft25_0 ft25_1 ft25_2 ft32_0 ft32_1 ft32_2 ft47_0 ft47_1 ft47_2 ft50_0 ft50_1 ft50_2 ft58_0 ft58_1 ft61_0 ft61_1 ft61_2 ft63_0 ft63_1 ft63_2 ft63_3 ft75_0 ft75_1 ft77_0 ft77_1 ft77_2 ft77_3 ft88_0 ft88_1 Tryz.underlying2 Tryz.underlying3 Tryz.underlying5 Tryz.underlying9 Tryz.underlying22 Tryz.underlying23 Tryz.underlying26 Tryz.underlying29 Tryz.underlying30 Tryz.underlying36 Tryz.underlying82 Tryz.underlying102 Tryz.underlying111 Tryz.underlying122 w47 w58 w61 w63 w75 w77 w88 e47 e58 e61 e63 e75 e77 e88
attribute [local simp] get_Int get_Str get_Bool get_byte g47 g58 g61 g63 g75 g77 g88
set_option maxRecDepth 100000
set_option maxHeartbeats 4000000
def cend105 : FCert := ⟨[true, false, true], true, [], [(11, [[], [], [], [], [], [], [], [], [4, 7]]), (15, [[], [], [], [], [], [], [], [], [4, 7]])]⟩
theorem okend105 : okCode cend105 Tryz.f105.body.get! = true := by kernel_rfl
theorem end105 (xs : List T) (y : T) (hw : wid 2 xs = true) (hy : y.width = 2) (h1 : (xs.length + 1) * 32 ≤ most) (h2 : xs.length + 1 ≤ most) : callT Tryz.prog (fun _ => cend105) (fun _ => none) 105 [.win 0 0 xs.length, .sc (.int .i64 xs.length), .win 1 0 1] [Ob.mkRow 2 xs, Ob.mkRow 2 [y]] = some (.win 2 0 (xs.length + 1), [⟨true, false, true, true, 0, 2, xs⟩, Ob.mkRow 2 [y], Ob.mkRow 2 (xs ++ [y])]) := by
 unfold most at h1 h2
 rw [callK_eq rfl Tryz.func105 rfl okend105]
 cases y with
 | agg cs =>
  have hy' : cs.length = 2 := hy
  simp [cend105, Tryz.f105, hw, hy', h1, h2]
 | _ => exact absurd hy (by simp [T.width, T.cells])
def cend87 : FCert := ⟨[true, false, true], true, [], [(11, [[], [], [], [], [], [], [], [], [4, 7]]), (15, [[], [], [], [], [], [], [], [], [4, 7]])]⟩
theorem okend87 : okCode cend87 Tryz.f87.body.get! = true := by kernel_rfl
theorem end87 (xs : List T) (y : T) (hw : wid 4 xs = true) (hy : y.width = 4) (h1 : (xs.length + 1) * 56 ≤ most) (h2 : xs.length + 1 ≤ most) : callT Tryz.prog (fun _ => cend87) (fun _ => none) 87 [.win 0 0 xs.length, .sc (.int .i64 xs.length), .win 1 0 1] [Ob.mkRow 4 xs, Ob.mkRow 4 [y]] = some (.win 2 0 (xs.length + 1), [⟨true, false, true, true, 0, 4, xs⟩, Ob.mkRow 4 [y], Ob.mkRow 4 (xs ++ [y])]) := by
 unfold most at h1 h2
 rw [callK_eq rfl Tryz.func87 rfl okend87]
 cases y with
 | agg cs =>
  have hy' : cs.length = 4 := hy
  simp [cend87, Tryz.f87, hw, hy', h1, h2]
 | _ => exact absurd hy (by simp [T.width, T.cells])
theorem fnOk_of {P : Program} {f : FuncId} {fn : Func} (h : P.funcs[f]? = some fn) (h1 : (fn.name == "runtime.NumGoroutine") = false) (h2 : fn.body.isNone = false) : FnOk P f := ⟨fn, h, h1, h2⟩
theorem prims_ok : PrimOk Tryz.prog P0 := by
 intro f D hD args objs r objs' h
 unfold P0 at hD
 split at hD
 · rename_i hf
   subst hf
   obtain rfl := Option.some.inj hD
   exact cmp_ok (fnOk_of Tryz.func107 rfl rfl) cmpW h
 split at hD
 · rename_i hf
   subst hf
   obtain rfl := Option.some.inj hD
   exact ins_ok (by decide) (fnOk_of Tryz.func105 rfl rfl) (fun xs y hw hy h1 h2 => let ⟨m, hm⟩ := callT_some.1 (end105 xs y hw hy h1 h2); (callF_ok (by kernel_rfl) (by kernel_rfl) prim_none m _ _ _ _ _ hm).2) (fun g c i n C vs vb vc V w a1 a2 a3 a4 a5 a6 a7 a8 a9 a10 a11 => by
   unfold most at a5
   by_cases hr : n + 1 ≤ c
   · exact insRoom_File g c i n C vs vb vc V w a1 a2 a3 hr (by omega) a6 a7 a8 a9 a10 a11
   · exact insGrow_File g c i n C vs vb vc V w a1 a2 a3 a4 (by omega) (by omega) a6 a7 a8 a9 a10) h
 split at hD
 · rename_i hf
   subst hf
   obtain rfl := Option.some.inj hD
   exact del_ok (by decide) (fnOk_of Tryz.func95 rfl rfl) (fun g c i n C w h1 h2 h3 h4 h5 => delW_File g c i n C w h1 h2 h3 h4 h5) h
 split at hD
 · rename_i hf
   subst hf
   obtain rfl := Option.some.inj hD
   exact ins_ok (by decide) (fnOk_of Tryz.func87 rfl rfl) (fun xs y hw hy h1 h2 => let ⟨m, hm⟩ := callT_some.1 (end87 xs y hw hy h1 h2); (callF_ok (by kernel_rfl) (by kernel_rfl) prim_none m _ _ _ _ _ hm).2) (fun g c i n C vs vb vc V w a1 a2 a3 a4 a5 a6 a7 a8 a9 a10 a11 => by
   unfold most at a5
   by_cases hr : n + 1 ≤ c
   · exact insRoom_DOp g c i n C vs vb vc V w a1 a2 a3 hr (by omega) a6 a7 a8 a9 a10 a11
   · exact insGrow_DOp g c i n C vs vb vc V w a1 a2 a3 a4 (by omega) (by omega) a6 a7 a8 a9 a10) h
 cases hD
end Go.Proofs.YtopnfhlgaiocpaaGreat.P
