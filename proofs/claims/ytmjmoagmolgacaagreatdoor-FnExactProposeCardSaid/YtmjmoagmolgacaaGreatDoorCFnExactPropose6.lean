/- Part of the proof of FnExactPropose: no statement of its own. -/
import Derived.Ground.NamesProg
import Derived.Ground.SlgnProg
import Derived.Lib.IndexBytes
import Derived.Shelf.Lays
import Derived.Shelf.LaysC
import Derived.Shelf.SlGeneric
import Derived.Shelf.SlLaysNS
import Derived.Shelf.SortG.Plain
import Derived.Shelf.Strconv.ParseIntPublic10
import Derived.Shelf.Strings.Split
import Derived.Test.YtmjmoagmolgacaaGreatDoorProg
import Derived.Test.YtmjmoagmolgacaaGreatDoorCFnExactPropose5
set_option linter.unusedVariables false
set_option linter.unusedSimpArgs false
namespace Go.Proofs.YtmjmoagmolgacaaGreatDoor.P
open Go Go.Proofs.YtmjmoagmolgacaaGreatDoor.PM Go.Proofs.YtmjmoagmolgacaaGreatDoor.PN Go.Proofs
set_option maxRecDepth 100000
set_option linter.unusedVariables false
theorem f124_ok {k a r} (h : f124 k a = some r) : FOk 124 [.id .i64 1 a] [] (f124.o r) :=
 fok0 [] .all (k := k) (o := f124.o) Tryz.func124 h
def pf124 : Pk Tryz.prog C0 P0 G := ⟨124, sf124, fun k => sum_auto (@f124_ok k)⟩
end Go.Proofs.YtmjmoagmolgacaaGreatDoor.P
namespace Go.Proofs.YtmjmoagmolgacaaGreatDoor.P
open Go Go.Proofs.YtmjmoagmolgacaaGreatDoor.PM Go.Proofs.YtmjmoagmolgacaaGreatDoor.PN Go.Proofs
set_option maxRecDepth 100000
set_option linter.unusedVariables false
theorem f91_ok {k a b r} (h : f91 k a b = some r) : FOk 91 [.id .i64 1 a, .id .i64 2 b] [] (f91.o r) :=
 fok0 [pf124] (.skip (.both (.l (.skip (.l (.l (.both (.l (.l (.l .all))) (.r (.r (.r .all)))))))) (.r (.r (.r .all))))) (k := k) (o := f91.o) Tryz.func91 h
def pf91 : Pk Tryz.prog C0 P0 G := ⟨91, sf91, fun k => sum_auto (@f91_ok k)⟩
end Go.Proofs.YtmjmoagmolgacaaGreatDoor.P
namespace Go.Proofs.YtmjmoagmolgacaaGreatDoor.P
open Go Go.Proofs.YtmjmoagmolgacaaGreatDoor.PM Go.Proofs.YtmjmoagmolgacaaGreatDoor.PN Go.Proofs
set_option maxRecDepth 100000
set_option linter.unusedVariables false
theorem f92_ok {k a r} (h : f92 k a = some r) : FOk 92 [.id .i64 1 a] [] (f92.o r) :=
 fok0 [] .all (k := k) (o := f92.o) Tryz.func92 h
def pf92 : Pk Tryz.prog C0 P0 G := ⟨92, sf92, fun k => sum_auto (@f92_ok k)⟩
end Go.Proofs.YtmjmoagmolgacaaGreatDoor.P
namespace Go.Proofs.YtmjmoagmolgacaaGreatDoor.P
open Go Go.Proofs.YtmjmoagmolgacaaGreatDoor.PM Go.Proofs.YtmjmoagmolgacaaGreatDoor.PN Go.Proofs
set_option maxRecDepth 100000
set_option linter.unusedVariables false
theorem f34_ok {k a b r} (h : f34 k a b = some r) : FOk 34 [.sl 0 a [], .id .i64 2 b] [] (f34.o r) :=
 fok [pf91, pf92] .all f34.st f34.hint (D := f34.D) f34.blk (o := f34.o) Tryz.func34 h
def pf34 : Pk Tryz.prog C0 P0 G := ⟨34, sf34, fun k => sum_auto (@f34_ok k)⟩
end Go.Proofs.YtmjmoagmolgacaaGreatDoor.P
namespace Go.Proofs.YtmjmoagmolgacaaGreatDoor.P
open Go Go.Proofs.YtmjmoagmolgacaaGreatDoor.PM Go.Proofs.YtmjmoagmolgacaaGreatDoor.PN Go.Proofs
set_option maxRecDepth 100000
set_option linter.unusedVariables false
theorem f38_ok {k : Nat} {a1_0 : Int} {a2_0 : Int} {o0 : List Int} {r : (List Int)} (h : f38 k a1_0 a2_0 o0 = some r) : callT Tryz.prog C0 P0 38 [T.win 0 0 o0.length, T.sc (.int .i64 a1_0), T.sc (.int .i64 a2_0)] [Ob.mkRow 1 (List.map e_i64 o0)] = some (T.win 1 0 r.length, [(⟨true, false, true, true, 0, 1, List.map e_i64 o0⟩ : Ob), Ob.mkRow 1 (List.map e_i64 r)]) := by
 unfold f38 at h
 obtain ⟨⟨h0, h1, h2⟩, h⟩ := ite_l h
 obtain rfl := Option.some.inj h
 refine callT_prim (d := delD 1) rfl ?_
 have hl : (o0.take a1_0.toNat ++ o0.drop (a1_0.toNat + 1)).length = o0.length - 1 := by simp only [List.length_append, List.length_take, List.length_drop]; omega
 simp only [delD, List.length_map]
 rw [if_pos (by simp; omega), hl]
 simp [Ob.dead, Ob.mkRow]
def pf38 : Pk Tryz.prog C0 P0 G := ⟨38, sf38, fun k => sum_auto (@f38_ok k)⟩
end Go.Proofs.YtmjmoagmolgacaaGreatDoor.P
namespace Go.Proofs.YtmjmoagmolgacaaGreatDoor.P
open Go Go.Proofs.YtmjmoagmolgacaaGreatDoor.PM Go.Proofs.YtmjmoagmolgacaaGreatDoor.PN Go.Proofs
set_option maxRecDepth 100000
set_option linter.unusedVariables false
theorem f39_ok {k : Nat} {a1_0 : Int} {o0 : List Int} {o1 : List Int} {r : (List Int)} (h : f39 k a1_0 o0 o1 = some r) : callT Tryz.prog C0 P0 39 [T.win 0 0 o0.length, T.sc (.int .i64 a1_0), T.win 1 0 o1.length] [Ob.mkRow 1 (List.map e_i64 o0), Ob.mkRow 1 (List.map e_i64 o1)] = some (T.win 2 0 r.length, [(⟨true, false, true, true, 0, 1, List.map e_i64 o0⟩ : Ob), Ob.mkRow 1 (List.map e_i64 o1), Ob.mkRow 1 (List.map e_i64 r)]) := by
 unfold f39 at h
 obtain ⟨⟨h0, h1, h2, h3, h4⟩, h⟩ := ite_l h
 obtain rfl := Option.some.inj h
 obtain ⟨y, rfl⟩ := List.length_eq_one_iff.1 h2
 refine callT_prim (d := insD 1 8) rfl ?_
 have hl : (o0.take a1_0.toNat ++ ([y] ++ o0.drop a1_0.toNat)).length = o0.length + 1 := by simp only [List.length_append, List.length_take, List.length_cons, List.length_nil, List.length_drop]; omega
 show insD 1 8 [.win 0 0 o0.length, .sc (.int .i64 a1_0), .win 1 0 1] [Ob.mkRow 1 (o0.map e_i64), Ob.mkRow 1 [e_i64 y]] = _
 rw [insD_eq, if_pos (by simp only [w_i64, beq_self_eq_true, Bool.true_and, List.length_map, Bool.and_eq_true, decide_eq_true_eq]; exact ⟨by simp [e_i64, T.width, T.cells], h0, by omega, by trivial, by unfold most; omega, by unfold most; omega⟩), hl]
 simp [Ob.mkRow]
def pf39 : Pk Tryz.prog C0 P0 G := ⟨39, sf39, fun k => sum_auto (@f39_ok k)⟩
end Go.Proofs.YtmjmoagmolgacaaGreatDoor.P
namespace Go.Proofs.YtmjmoagmolgacaaGreatDoor.P
open Go Go.Proofs.YtmjmoagmolgacaaGreatDoor.PM Go.Proofs.YtmjmoagmolgacaaGreatDoor.PN Go.Proofs
set_option maxRecDepth 100000
set_option linter.unusedVariables false
theorem f8_ok {k a b c d r} (h : f8 k a b c d = some r) : FOk 8 [.agg [.sl 0 a [], .sl 0 b []], .id .i64 2 c, .id .i64 3 d] [] (f8.o r) :=
 fok0 [pf33, pf34, pf35, pf36, pf37, pf38, pf39] (.skip (.skip (.skip (.skip (.both (.skip (.both (.l (.skip (.l (.l (.both (.both (.l (.both (.l (.l (.l .all))) (.l (.r (.l (.both (.l (.l (.l (.l .all)))) (.r (.r (.both (.l (.r (.l (.r (.r (.r (.r (.r (.r (.r (.r .all))))))))))) (.r (.r (.r (.r (.both (.l (.l (.r (.r (.r (.r .all)))))) (.r (.r (.r (.r (.l (.l (.l (.l (.l (.both (.l (.l (.l (.l .all)))) (.r (.r (.r (.r (.r (.r (.r (.r (.r (.r (.l .all))))))))))))))))))))))))))))))))))) (.r (.r (.r (.both (.l (.l (.both (.l (.l (.both (.l (.l (.l (.l (.both (.l (.l (.l (.l (.l (.l (.l (.l (.l (.l (.l (.both .all (.r (.r (.r (.r (.r (.l (.l (.l (.l (.l (.both .all (.l (.skip (.r (.l .all))))))))))))))))))))))))))) (.r (.l (.r (.l (.l (.l (.l (.r (.r (.r (.r (.r (.r (.r (.r (.r (.r (.l (.l (.l (.l (.l (.both .all (.l (.skip (.r (.l .all)))))))))))))))))))))))))))))))) (.r (.l (.r (.l (.l (.l (.r (.r (.r (.r (.r (.r (.r (.l (.l (.l (.l (.l (.both .all (.l (.skip (.r (.l .all)))))))))))))))))))))))))) (.r (.r (.r (.r (.r (.r .all))))))))) (.r (.r (.both (.l (.l (.both (.l (.l (.l (.l (.l (.l (.l (.l (.l (.both .all (.r (.r (.r (.r (.r (.r (.r (.r (.r (.r (.both (.skip (.r (.r (.l .all)))) (.r (.r (.l .all)))))))))))))))))))))))) (.r (.r (.both (.l (.l (.r (.r (.r (.r (.r (.r (.r (.r (.r (.r (.r (.r (.r (.r (.r (.l (.skip (.r (.r (.r .all)))))))))))))))))))))) .all)))))) (.r (.r (.r (.r (.r (.r (.r (.r (.r (.r (.r (.r (.r (.r (.both (.skip (.r (.r .all))) (.r (.r .all))))))))))))))))))))))))) .all))))) (.r (.r (.r .all))))) .all))))) (k := k) (o := f8.o) Tryz.func8 h
def pf8 : Pk Tryz.prog C0 P0 G := ⟨8, sf8, fun k => sum_auto (@f8_ok k)⟩
end Go.Proofs.YtmjmoagmolgacaaGreatDoor.P
namespace Go.Proofs.YtmjmoagmolgacaaGreatDoor.P
open Go Go.Proofs.YtmjmoagmolgacaaGreatDoor.PM Go.Proofs.YtmjmoagmolgacaaGreatDoor.PN Go.Proofs
set_option maxRecDepth 100000
set_option linter.unusedVariables false
theorem f70_ok {k a b c d e g i j l m n p u v w r} (h : f70 k a b c d e g i j l m n p u v w = some r) : FOk 70 [.agg [.id .i64 0 a, .id .i64 0 b, .id .i64 0 c, .id .i64 0 d, .id .i64 0 e, .sl 0 g [], .sl 0 i [], .s j, .sl 3 l [], .id .i64 0 m, .id .i64 0 n, .id .i64 0 p, .sl 0 u [], .sl 4 v []], .s w] [] (f70.o r) :=
 fok [pf8, pf40, pf116, pf117, pf118] .all f70.st f70.hint (D := f70.D) f70.blk (o := f70.o) Tryz.func70 h
def pf70 : Pk Tryz.prog C0 P0 G := ⟨70, sf70, fun k => sum_auto (@f70_ok k)⟩
end Go.Proofs.YtmjmoagmolgacaaGreatDoor.P
namespace Go.Proofs.YtmjmoagmolgacaaGreatDoor.P
open Go Go.Proofs.YtmjmoagmolgacaaGreatDoor.PM Go.Proofs.YtmjmoagmolgacaaGreatDoor.PN Go.Proofs
set_option maxRecDepth 100000
set_option linter.unusedVariables false
theorem f74_ok {k a b c o0_0 o0_1 o0_2 r} (h : f74 k a b c o0_0 o0_1 o0_2 = some r) : FOk 74 [.agg [.id .i64 0 a, .id .i64 0 b, .id .i64 0 c], .ptr 0 (.l 0) 0] [.box true true 0 3 true [.id .i64 0 o0_0, .id .i64 0 o0_1, .id .i64 0 o0_2]] (f74.o o0_0 o0_1 o0_2 r) :=
 fok0 [] .all (k := k) (o := (f74.o o0_0 o0_1 o0_2)) Tryz.func74 h
def pf74 : Pk Tryz.prog C0 P0 G := ⟨74, sf74, fun k => sum_auto (@f74_ok k)⟩
end Go.Proofs.YtmjmoagmolgacaaGreatDoor.P
namespace Go.Proofs.YtmjmoagmolgacaaGreatDoor.P
open Go Go.Proofs.YtmjmoagmolgacaaGreatDoor.PM Go.Proofs.YtmjmoagmolgacaaGreatDoor.PN Go.Proofs
set_option maxRecDepth 100000
set_option linter.unusedVariables false
theorem f73_ok {k a o0_0 o0_1 o0_2 r} (h : f73 k a o0_0 o0_1 o0_2 = some r) : FOk 73 [.sl 4 a [], .fn 74 [.ptr 0 (.l 0) 0]] [.box true true 0 3 true [.id .i64 0 o0_0, .id .i64 0 o0_1, .id .i64 0 o0_2]] (f73.o r) :=
 fok [pf74] .all f73.st (fun _ => .all) (D := f73.D) f73.blk (o := f73.o) Tryz.func73 h
def pf73 : Pk Tryz.prog C0 P0 G := ⟨73, sf73, fun k => sum_auto (@f73_ok k)⟩
end Go.Proofs.YtmjmoagmolgacaaGreatDoor.P
namespace Go.Proofs.YtmjmoagmolgacaaGreatDoor.P
open Go Go.Proofs.YtmjmoagmolgacaaGreatDoor.PM Go.Proofs.YtmjmoagmolgacaaGreatDoor.PN Go.Proofs
set_option maxRecDepth 100000
set_option linter.unusedVariables false
theorem f45_ok {k a b c r} (h : f45 k a b c = some r) : FOk 45 [.agg [.sl 0 a [], .sl 0 b []], .sl 0 c []] [] (f45.o r) :=
 fok [pf43] .all f45.st (fun _ => .all) (D := f45.D) f45.blk (o := f45.o) Tryz.func45 h
def pf45 : Pk Tryz.prog C0 P0 G := ⟨45, sf45, fun k => sum_auto (@f45_ok k)⟩
end Go.Proofs.YtmjmoagmolgacaaGreatDoor.P
namespace Go.Proofs.YtmjmoagmolgacaaGreatDoor.P
open Go Go.Proofs.YtmjmoagmolgacaaGreatDoor.PM Go.Proofs.YtmjmoagmolgacaaGreatDoor.PN Go.Proofs
set_option maxRecDepth 100000
set_option linter.unusedVariables false
theorem f75_ok {k o0_0 o0_1 o0_2 o0_3 o0_4 o0_7 o0_9 o0_10 o0_11 o1 o2 o3 o4 o5 r} (h : f75 k o0_0 o0_1 o0_2 o0_3 o0_4 o0_7 o0_9 o0_10 o0_11 o1 o2 o3 o4 o5 = some r) : FOk 75 [.ptr 0 (.l 0) 0] [.box true true 0 14 true [.id .i64 0 o0_0, .id .i64 0 o0_1, .id .i64 0 o0_2, .id .i64 0 o0_3, .id .i64 0 o0_4, .win 1 true (.l 0) (.d 0 o1.length), .win 2 true (.l 0) (.d 0 o2.length), .s o0_7, .win 3 true (.l 0) (.d 0 o3.length), .id .i64 0 o0_9, .id .i64 0 o0_10, .id .i64 0 o0_11, .win 4 true (.l 0) (.d 0 o4.length), .win 5 true (.l 0) (.d 0 o5.length)], .row true true true 0 0 o1 none, .row true true true 0 0 o2 none, .row true true true 0 3 o3 none, .row true true true 0 0 o4 none, .row true true true 0 4 o5 none] (f75.o r) :=
 fok [pf45, pf71, pf116, pf117] .all f75.st f75.hint (D := f75.D) f75.blk (o := f75.o) Tryz.func75 h
def pf75 : Pk Tryz.prog C0 P0 G := ⟨75, sf75, fun k => sum_auto (@f75_ok k)⟩
end Go.Proofs.YtmjmoagmolgacaaGreatDoor.P
namespace Go.Proofs.YtmjmoagmolgacaaGreatDoor.P
open Go Go.Proofs.YtmjmoagmolgacaaGreatDoor.PM Go.Proofs.YtmjmoagmolgacaaGreatDoor.PN Go.Proofs
set_option maxRecDepth 100000
set_option linter.unusedVariables false
theorem f75s1_ok {k o0_0 o0_1 o0_2 o0_3 o0_4 o0_7 o0_9 o0_10 o0_11 o1 o2 o3 o4 r} (h : f75s1 k o0_0 o0_1 o0_2 o0_3 o0_4 o0_7 o0_9 o0_10 o0_11 o1 o2 o3 o4 = some r) : FOk 75 [.ptr 0 (.l 0) 0] [.box true true 0 14 true [.id .i64 0 o0_0, .id .i64 0 o0_1, .id .i64 0 o0_2, .id .i64 0 o0_3, .id .i64 0 o0_4, .win 1 true (.l 0) (.d 0 o1.length), .win 2 true (.l 0) (.d 0 o2.length), .s o0_7, .win 3 true (.l 0) (.d 0 o3.length), .id .i64 0 o0_9, .id .i64 0 o0_10, .id .i64 0 o0_11, .win 4 true (.l 0) (.d 0 o4.length), .nil], .row true true true 0 0 o1 none, .row true true true 0 0 o2 none, .row true true true 0 3 o3 none, .row true true true 0 0 o4 none] (f75s1.o r) :=
 fok [pf45, pf71, pf116, pf117] .all f75s1.st f75s1.hint (D := f75s1.D) f75s1.blk (o := f75s1.o) Tryz.func75 h
def pf75s1 : Pk Tryz.prog C0 P0 G := ⟨75, sf75s1, fun k => sum_auto (@f75s1_ok k)⟩
end Go.Proofs.YtmjmoagmolgacaaGreatDoor.P
namespace Go.Proofs.YtmjmoagmolgacaaGreatDoor.P
open Go Go.Proofs.YtmjmoagmolgacaaGreatDoor.PM Go.Proofs.YtmjmoagmolgacaaGreatDoor.PN Go.Proofs
set_option maxRecDepth 100000
set_option linter.unusedVariables false
theorem f20_ok {k a b c d e g i j l m n p u v w y r} (h : f20 k a b c d e g i j l m n p u v w y = some r) : FOk 20 [.agg [.id .i64 0 a, .id .i64 0 b, .id .i64 0 c, .id .i64 0 d, .id .i64 0 e, .sl 0 g [], .sl 0 i [], .s j, .sl 3 l [], .id .i64 0 m, .id .i64 0 n, .id .i64 0 p, .sl 0 u [], .sl 4 v []], .id .i64 2 w, .s y] [] (f20.o r) :=
 fok [pf67, pf68, pf69, pf70, pf71, pf72, pf73, (pf75.or pf75s1)] (.skip (.both (.skip (.both (.skip (.both (.both (.l (.l (.skip (.l (.l (.both (.both .all (.skip (.l .all))) .all)))))) (.r (.r (.r (.r (.both .all (.skip (.r .all)))))))) .all)) .all)) .all)) f20.st (fun _ => .all) (D := f20.D) f20.blk (o := f20.o) Tryz.func20 h
def pf20 : Pk Tryz.prog C0 P0 G := ⟨20, sf20, fun k => sum_auto (@f20_ok k)⟩
end Go.Proofs.YtmjmoagmolgacaaGreatDoor.P
namespace Go.Proofs.YtmjmoagmolgacaaGreatDoor.P
open Go Go.Proofs.YtmjmoagmolgacaaGreatDoor.PM Go.Proofs.YtmjmoagmolgacaaGreatDoor.PN Go.Proofs
set_option maxRecDepth 100000
set_option linter.unusedVariables false
theorem f78_ok {k a b r} (h : f78 k a b = some r) : FOk 78 [.sl 0 a [], .sl 0 b []] [] (f78.o r) :=
 fok [] .all f78.st (fun _ => .all) (D := f78.D) f78.blk (o := f78.o) Tryz.func78 h
def pf78 : Pk Tryz.prog C0 P0 G := ⟨78, sf78, fun k => sum_auto (@f78_ok k)⟩
end Go.Proofs.YtmjmoagmolgacaaGreatDoor.P
namespace Go.Proofs.YtmjmoagmolgacaaGreatDoor.P
open Go Go.Proofs.YtmjmoagmolgacaaGreatDoor.PM Go.Proofs.YtmjmoagmolgacaaGreatDoor.PN Go.Proofs
set_option maxRecDepth 100000
set_option linter.unusedVariables false
theorem f76_ok {k a b c d r} (h : f76 k a b c d = some r) : FOk 76 [.agg [.sl 0 a [], .sl 0 b []], .agg [.sl 0 c [], .sl 0 d []]] [] (f76.o r) :=
 fok0 [pf78] .all (k := k) (o := f76.o) Tryz.func76 h
def pf76 : Pk Tryz.prog C0 P0 G := ⟨76, sf76, fun k => sum_auto (@f76_ok k)⟩
end Go.Proofs.YtmjmoagmolgacaaGreatDoor.P
namespace Go.Proofs.YtmjmoagmolgacaaGreatDoor.P
open Go Go.Proofs.YtmjmoagmolgacaaGreatDoor.PM Go.Proofs.YtmjmoagmolgacaaGreatDoor.PN Go.Proofs
set_option maxRecDepth 100000
set_option linter.unusedVariables false
theorem f120_ok {k a b c d e g r} (h : f120 k a b c d e g = some r) : FOk 120 [.agg [.id .i64 0 a, .id .i64 0 b, .s c], .agg [.id .i64 0 d, .id .i64 0 e, .s g]] [] (f120.o r) :=
 fok0 [] .all (k := k) (o := f120.o) Tryz.func120 h
def pf120 : Pk Tryz.prog C0 P0 G := ⟨120, sf120, fun k => sum_auto (@f120_ok k)⟩
end Go.Proofs.YtmjmoagmolgacaaGreatDoor.P
namespace Go.Proofs.YtmjmoagmolgacaaGreatDoor.P
open Go Go.Proofs.YtmjmoagmolgacaaGreatDoor.PM Go.Proofs.YtmjmoagmolgacaaGreatDoor.PN Go.Proofs
set_option maxRecDepth 100000
set_option linter.unusedVariables false
theorem f77_ok {k a b r} (h : f77 k a b = some r) : FOk 77 [.sl 3 a [], .sl 3 b []] [] (f77.o r) :=
 fok [pf120] .all f77.st (fun _ => .all) (D := f77.D) f77.blk (o := f77.o) Tryz.func77 h
def pf77 : Pk Tryz.prog C0 P0 G := ⟨77, sf77, fun k => sum_auto (@f77_ok k)⟩
end Go.Proofs.YtmjmoagmolgacaaGreatDoor.P
namespace Go.Proofs.YtmjmoagmolgacaaGreatDoor.P
open Go Go.Proofs.YtmjmoagmolgacaaGreatDoor.PM Go.Proofs.YtmjmoagmolgacaaGreatDoor.PN Go.Proofs
set_option maxRecDepth 100000
set_option linter.unusedVariables false
theorem f121_ok {k a b c d e g r} (h : f121 k a b c d e g = some r) : FOk 121 [.agg [.id .i64 0 a, .id .i64 0 b, .id .i64 0 c], .agg [.id .i64 0 d, .id .i64 0 e, .id .i64 0 g]] [] (f121.o r) :=
 fok0 [] .all (k := k) (o := f121.o) Tryz.func121 h
def pf121 : Pk Tryz.prog C0 P0 G := ⟨121, sf121, fun k => sum_auto (@f121_ok k)⟩
end Go.Proofs.YtmjmoagmolgacaaGreatDoor.P
namespace Go.Proofs.YtmjmoagmolgacaaGreatDoor.P
open Go Go.Proofs.YtmjmoagmolgacaaGreatDoor.PM Go.Proofs.YtmjmoagmolgacaaGreatDoor.PN Go.Proofs
set_option maxRecDepth 100000
set_option linter.unusedVariables false
theorem f79_ok {k a b r} (h : f79 k a b = some r) : FOk 79 [.sl 4 a [], .sl 4 b []] [] (f79.o r) :=
 fok [pf121] .all f79.st (fun _ => .all) (D := f79.D) f79.blk (o := f79.o) Tryz.func79 h
def pf79 : Pk Tryz.prog C0 P0 G := ⟨79, sf79, fun k => sum_auto (@f79_ok k)⟩
end Go.Proofs.YtmjmoagmolgacaaGreatDoor.P
namespace Go.Proofs.YtmjmoagmolgacaaGreatDoor.P
open Go Go.Proofs.YtmjmoagmolgacaaGreatDoor.PM Go.Proofs.YtmjmoagmolgacaaGreatDoor.PN Go.Proofs
set_option maxRecDepth 100000
set_option linter.unusedVariables false
theorem f21_ok {k a b c d e g i j l m n p u v w y z ya yb yc yd ye yf yg yh yi yj yk r} (h : f21 k a b c d e g i j l m n p u v w y z ya yb yc yd ye yf yg yh yi yj yk = some r) : FOk 21 [.agg [.id .i64 0 a, .id .i64 0 b, .id .i64 0 c, .id .i64 0 d, .id .i64 0 e, .sl 0 g [], .sl 0 i [], .s j, .sl 3 l [], .id .i64 0 m, .id .i64 0 n, .id .i64 0 p, .sl 0 u [], .sl 4 v []], .agg [.id .i64 0 w, .id .i64 0 y, .id .i64 0 z, .id .i64 0 ya, .id .i64 0 yb, .sl 0 yc [], .sl 0 yd [], .s ye, .sl 3 yf [], .id .i64 0 yg, .id .i64 0 yh, .id .i64 0 yi, .sl 0 yj [], .sl 4 yk []]] [] (f21.o r) :=
 fok0 [pf76, pf77, pf78, pf79] .all (k := k) (o := f21.o) Tryz.func21 h
def pf21 : Pk Tryz.prog C0 P0 G := ⟨21, sf21, fun k => sum_auto (@f21_ok k)⟩
end Go.Proofs.YtmjmoagmolgacaaGreatDoor.P
namespace Go.Proofs.YtmjmoagmolgacaaGreatDoor.P
open Go Go.Proofs.YtmjmoagmolgacaaGreatDoor.PM Go.Proofs.YtmjmoagmolgacaaGreatDoor.PN Go.Proofs
set_option maxRecDepth 100000
set_option linter.unusedVariables false
theorem f82_ok {k a o0 r} (h : f82 k a o0 = some r) : FOk 82 [.win 0 true (.l 0) (.d 0 o0.length), .id .i64 2 a] [.row true true true 0 0 o0 none] (f82.o r) :=
 fok [] .all f82.st (fun _ => .all) (D := f82.D) f82.blk (o := f82.o) Tryz.func82 h
def pf82 : Pk Tryz.prog C0 P0 G := ⟨82, sf82, fun k => sum_auto (@f82_ok k)⟩
end Go.Proofs.YtmjmoagmolgacaaGreatDoor.P
namespace Go.Proofs.YtmjmoagmolgacaaGreatDoor.P
open Go Go.Proofs.YtmjmoagmolgacaaGreatDoor.PM Go.Proofs.YtmjmoagmolgacaaGreatDoor.PN Go.Proofs
set_option maxRecDepth 100000
set_option linter.unusedVariables false
theorem f80_ok {k a o0 o1 r} (h : f80 k a o0 o1 = some r) : FOk 80 [.agg [.win 0 true (.l 0) (.d 0 o0.length), .win 1 true (.l 0) (.d 0 o1.length)], .id .i64 2 a] [.row true true true 0 0 o0 none, .row true true true 0 0 o1 none] (f80.o r) :=
 fok0 [pf82] .all (k := k) (o := f80.o) Tryz.func80 h
def pf80 : Pk Tryz.prog C0 P0 G := ⟨80, sf80, fun k => sum_auto (@f80_ok k)⟩
end Go.Proofs.YtmjmoagmolgacaaGreatDoor.P
namespace Go.Proofs.YtmjmoagmolgacaaGreatDoor.P
open Go Go.Proofs.YtmjmoagmolgacaaGreatDoor.PM Go.Proofs.YtmjmoagmolgacaaGreatDoor.PN Go.Proofs
set_option maxRecDepth 100000
set_option linter.unusedVariables false
theorem f122_ok {k a r} (h : f122 k a = some r) : FOk 122 [.id .i64 1 a] [] (f122.o r) :=
 fok [] .all f122.st (fun _ => .all) (D := f122.D) f122.blk (o := f122.o) Tryz.func122 h
def pf122 : Pk Tryz.prog C0 P0 G := ⟨122, sf122, fun k => sum_auto (@f122_ok k)⟩
end Go.Proofs.YtmjmoagmolgacaaGreatDoor.P
namespace Go.Proofs.YtmjmoagmolgacaaGreatDoor.P
open Go Go.Proofs.YtmjmoagmolgacaaGreatDoor.PM Go.Proofs.YtmjmoagmolgacaaGreatDoor.PN Go.Proofs
set_option maxRecDepth 100000
set_option linter.unusedVariables false
theorem f81_ok {k a o0 r} (h : f81 k a o0 = some r) : FOk 81 [.win 0 true (.l 0) (.d 0 o0.length), .id .i64 2 a] [.row true true true 0 3 o0 none] (f81.o r) :=
 fok [pf122] .all f81.st (fun _ => .all) (D := f81.D) f81.blk (o := f81.o) Tryz.func81 h
def pf81 : Pk Tryz.prog C0 P0 G := ⟨81, sf81, fun k => sum_auto (@f81_ok k)⟩
end Go.Proofs.YtmjmoagmolgacaaGreatDoor.P
namespace Go.Proofs.YtmjmoagmolgacaaGreatDoor.P
open Go Go.Proofs.YtmjmoagmolgacaaGreatDoor.PM Go.Proofs.YtmjmoagmolgacaaGreatDoor.PN Go.Proofs
set_option maxRecDepth 100000
set_option linter.unusedVariables false
theorem f83_ok {k a o0 r} (h : f83 k a o0 = some r) : FOk 83 [.win 0 true (.l 0) (.d 0 o0.length), .id .i64 2 a] [.row true true true 0 4 o0 none] (f83.o r) :=
 fok [] .all f83.st (fun _ => .all) (D := f83.D) f83.blk (o := f83.o) Tryz.func83 h
def pf83 : Pk Tryz.prog C0 P0 G := ⟨83, sf83, fun k => sum_auto (@f83_ok k)⟩
end Go.Proofs.YtmjmoagmolgacaaGreatDoor.P
namespace Go.Proofs.YtmjmoagmolgacaaGreatDoor.P
open Go Go.Proofs.YtmjmoagmolgacaaGreatDoor.PM Go.Proofs.YtmjmoagmolgacaaGreatDoor.PN Go.Proofs
set_option maxRecDepth 100000
set_option linter.unusedVariables false
theorem f22_ok {k a b c d e g i j l m o0 o1 o2 o3 o4 r} (h : f22 k a b c d e g i j l m o0 o1 o2 o3 o4 = some r) : FOk 22 [.agg [.id .i64 0 a, .id .i64 0 b, .id .i64 0 c, .id .i64 0 d, .id .i64 0 e, .win 0 true (.l 0) (.d 0 o0.length), .win 1 true (.l 0) (.d 0 o1.length), .s g, .win 2 true (.l 0) (.d 0 o2.length), .id .i64 0 i, .id .i64 0 j, .id .i64 0 l, .win 3 true (.l 0) (.d 0 o3.length), .win 4 true (.l 0) (.d 0 o4.length)], .id .i64 2 m] [.row true true true 0 0 o0 none, .row true true true 0 0 o1 none, .row true true true 0 3 o2 none, .row true true true 0 0 o3 none, .row true true true 0 4 o4 none] (f22.o r) :=
 fok0 [pf80, pf81, pf82, pf83] .all (k := k) (o := f22.o) Tryz.func22 h
def pf22 : Pk Tryz.prog C0 P0 G := ⟨22, sf22, fun k => sum_auto (@f22_ok k)⟩
end Go.Proofs.YtmjmoagmolgacaaGreatDoor.P
namespace Go.Proofs.YtmjmoagmolgacaaGreatDoor.P
open Go Go.Proofs.YtmjmoagmolgacaaGreatDoor.PM Go.Proofs.YtmjmoagmolgacaaGreatDoor.PN Go.Proofs
set_option maxRecDepth 100000
set_option linter.unusedVariables false
theorem f86_ok {k a b r} (h : f86 k a b = some r) : FOk 86 [.sl 0 a [], .id .i64 2 b] [] (f86.o r) :=
 fok [] .all f86.st (fun _ => .all) (D := f86.D) f86.blk (o := f86.o) Tryz.func86 h
def pf86 : Pk Tryz.prog C0 P0 G := ⟨86, sf86, fun k => sum_auto (@f86_ok k)⟩
end Go.Proofs.YtmjmoagmolgacaaGreatDoor.P
namespace Go.Proofs.YtmjmoagmolgacaaGreatDoor.P
open Go Go.Proofs.YtmjmoagmolgacaaGreatDoor.PM Go.Proofs.YtmjmoagmolgacaaGreatDoor.PN Go.Proofs
set_option maxRecDepth 100000
set_option linter.unusedVariables false
theorem f84_ok {k a b c r} (h : f84 k a b c = some r) : FOk 84 [.agg [.sl 0 a [], .sl 0 b []], .id .i64 2 c] [] (f84.o r) :=
 fok0 [pf86] .all (k := k) (o := f84.o) Tryz.func84 h
def pf84 : Pk Tryz.prog C0 P0 G := ⟨84, sf84, fun k => sum_auto (@f84_ok k)⟩
end Go.Proofs.YtmjmoagmolgacaaGreatDoor.P
namespace Go.Proofs.YtmjmoagmolgacaaGreatDoor.P
open Go Go.Proofs.YtmjmoagmolgacaaGreatDoor.PM Go.Proofs.YtmjmoagmolgacaaGreatDoor.PN Go.Proofs
set_option maxRecDepth 100000
set_option linter.unusedVariables false
theorem f85_ok {k a b r} (h : f85 k a b = some r) : FOk 85 [.sl 3 a [], .id .i64 2 b] [] (f85.o r) :=
 fok [pf122] .all f85.st (fun _ => .all) (D := f85.D) f85.blk (o := f85.o) Tryz.func85 h
def pf85 : Pk Tryz.prog C0 P0 G := ⟨85, sf85, fun k => sum_auto (@f85_ok k)⟩
end Go.Proofs.YtmjmoagmolgacaaGreatDoor.P
namespace Go.Proofs.YtmjmoagmolgacaaGreatDoor.P
open Go Go.Proofs.YtmjmoagmolgacaaGreatDoor.PM Go.Proofs.YtmjmoagmolgacaaGreatDoor.PN Go.Proofs
set_option maxRecDepth 100000
set_option linter.unusedVariables false
theorem f87_ok {k a b r} (h : f87 k a b = some r) : FOk 87 [.sl 4 a [], .id .i64 2 b] [] (f87.o r) :=
 fok [] .all f87.st (fun _ => .all) (D := f87.D) f87.blk (o := f87.o) Tryz.func87 h
def pf87 : Pk Tryz.prog C0 P0 G := ⟨87, sf87, fun k => sum_auto (@f87_ok k)⟩
end Go.Proofs.YtmjmoagmolgacaaGreatDoor.P
namespace Go.Proofs.YtmjmoagmolgacaaGreatDoor.P
open Go Go.Proofs.YtmjmoagmolgacaaGreatDoor.PM Go.Proofs.YtmjmoagmolgacaaGreatDoor.PN Go.Proofs
set_option maxRecDepth 100000
set_option linter.unusedVariables false
theorem f23_ok {k a b c d e g i j l m n p u v w r} (h : f23 k a b c d e g i j l m n p u v w = some r) : FOk 23 [.agg [.id .i64 0 a, .id .i64 0 b, .id .i64 0 c, .id .i64 0 d, .id .i64 0 e, .sl 0 g [], .sl 0 i [], .s j, .sl 3 l [], .id .i64 0 m, .id .i64 0 n, .id .i64 0 p, .sl 0 u [], .sl 4 v []], .id .i64 2 w] [] (f23.o r) :=
 fok0 [pf84, pf85, pf86, pf87] .all (k := k) (o := f23.o) Tryz.func23 h
def pf23 : Pk Tryz.prog C0 P0 G := ⟨23, sf23, fun k => sum_auto (@f23_ok k)⟩
end Go.Proofs.YtmjmoagmolgacaaGreatDoor.P
namespace Go.Proofs.YtmjmoagmolgacaaGreatDoor.P
open Go Go.Proofs.YtmjmoagmolgacaaGreatDoor.PM Go.Proofs.YtmjmoagmolgacaaGreatDoor.PN Go.Proofs
set_option maxRecDepth 100000
set_option linter.unusedVariables false
theorem f4_ok {k a b c d e g i j l m n p u v w y r} (h : f4 k a b c d e g i j l m n p u v w y = some r) : FOk 4 [.agg [.id .i64 0 a, .id .i64 0 b, .id .i64 0 c, .id .i64 0 d, .id .i64 0 e, .sl 0 g [], .sl 0 i [], .s j, .sl 1 l [], .id .i64 0 m, .id .i64 0 n, .id .i64 0 p, .sl 0 u [], .sl 2 v []], .id .i64 2 w, .s y] [] (f4.o r) :=
 fok0 [pf17, pf18, pf19, pf20, pf21, pf22, pf23] (.both .all (.skip (.both .all (.bindr (Int × Int × Int × Int × Int × ByteArray × Int × Int × Int × (List Int) × (List Int) × (List S81) × (List Int) × (List S88)) fun t2 => (.skip (.re (Int × Int × Int × Int × Int × ByteArray × Int × Int × Int × (List Int) × (List Int) × (List S81) × (List Int) × (List S88)) t2 (.bindr (Int × Int × Int × Int × Int × ByteArray × Int × Int × Int × Int × Int × (List Int) × (List Int) × (List S81) × (List Int) × (List S88)) fun t4 => (.bindr (Bool) fun t5 => (.both (.l (.l (.l (.both (.l (.l (.l (.both (.re (Int × Int × Int × Int × Int × ByteArray × Int × Int × Int × (List Int) × (List Int) × (List S81) × (List Int) × (List S88)) t2 (.skip (.both (.skip (.both (.l (.l (.l (.l .all)))) (.r (.r (.re (Bool) t5 (.r (.r (.l (.l (.l (.l (.l (.l (.l (.l (.l (.skip (.bindr (Int) fun t9 => (.both .all (.both (.re (Int × Int × Int × Int × Int × ByteArray × Int × Int × Int × (List Int) × (List Int) × (List S81) × (List Int) × (List S88)) t2 (.re (Int × Int × Int × Int × Int × ByteArray × Int × Int × Int × Int × Int × (List Int) × (List Int) × (List S81) × (List Int) × (List S88)) t4 (.re (Bool) t5 (.l (.l (.l (.l (.l (.l (.l (.l (.l (.re (Int) t9 (.r (.l .all))))))))))))))) .all)))))))))))))))))))) .all))) .all)))) (.r (.r (.r .all))))))) (.r (.r (.r .all)))))))))))) (k := k) (o := f4.o) Tryz.func4 h
theorem f4_okT {k : Nat} {a b c d e : Int} {g i : List Int} {j : ByteArray} {l : List S124} {m n p : Int} {u : List Int} {v : List S128} {w : Int} {y : ByteArray} {r : Bool} (h : f4 k a b c d e g i j l m n p u v w y = some r) : callT Tryz.prog C0 P0 4 [T.agg [T.sc (.int .i64 a), T.sc (.int .i64 b), T.sc (.int .i64 c), T.sc (.int .i64 d), T.sc (.int .i64 e), T.sl (List.map e_i64 g) [], T.sl (List.map e_i64 i) [], T.sc (.string j), T.sl (List.map e124 l) [], T.sc (.int .i64 m), T.sc (.int .i64 n), T.sc (.int .i64 p), T.sl (List.map e_i64 u) [], T.sl (List.map e128 v) []], T.sc (.int .i64 w), T.sc (.string y)] [] = some (denV G (f4.o r).1, []) := f4_ok h
end Go.Proofs.YtmjmoagmolgacaaGreatDoor.P
namespace Go.Proofs.YtmjmoagmolgacaaGreatDoor.PM
open Go Go.Shelf Go.RowKit Go.Proofs
variable {P : Program} {ρ : Go.Shelf.Ren}
set_option maxHeartbeats 1000000 in
theorem split_one (L : Lays.n146 P ρ) (hi9 : (P.info? (ρ.t 9)).map (fun i => (i.zero, i.size, i.bytes)) = some (some (.string ByteArray.empty), 1, 16)) (s : ByteArray) (c : UInt8) (w : World) (hs : s.size < 4294967281) :
 Calls P (ρ.f 146) #[.string s, .string ⟨#[c]⟩] w fun e w' =>
  e = .returned (.slice (some ⟨w.heap.size, 0, none⟩) (Lib.countB s ⟨#[c]⟩ + 1) (Lib.countB s ⟨#[c]⟩ + 1)) ∧ w' = w.alloc (.cells ((Lib.splitB ⟨#[c]⟩ 0 (Lib.countB s ⟨#[c]⟩) s).map Value.string).toArray (ρ.t 9)) := by
 have h1 : 1 ≤ (⟨#[c]⟩ : ByteArray).size := Nat.le_refl 1
 have hle := Lib.countB_le ⟨#[c]⟩ h1 s.size s (Nat.le_refl _)
 have hlen := Lib.splitB_all ⟨#[c]⟩ h1 0 _ s rfl
 have hI : ∀ (x : ByteArray) (d : Array Value), x.size ≤ s.size → Calls P (ρ.f 143) #[.string x, .string ⟨#[c]⟩] (w.alloc (.cells d (ρ.t 9))) fun e w' => e = .returned (.int .i64 (Lib.indexB x ⟨#[c]⟩)) ∧ w' = w.alloc (.cells d (ρ.t 9)) := fun x d _ => by
  refine (Any.strings_Index_one { L with } x c _).mono fun e w' ⟨he, hw⟩ => ⟨?_, hw⟩
  rw [he]
  show _ = Ending.returned (Value.int .i64 (Lib.index x.data.toList [c]))
  rw [Lib.index_one]
 have hC : Calls P (ρ.f 138) #[.string s, .string ⟨#[c]⟩] w fun e w' => e = .returned (.int .i64 (Lib.countB s ⟨#[c]⟩)) ∧ w' = w := by
  refine (Any.strings_Count_one { L with } s c w).mono fun e w' ⟨he, hw⟩ => ⟨?_, hw⟩
  rw [he]
  show _ = Ending.returned (Value.int .i64 ((Lib.count s.data.toList [c] : Nat) : Int))
  rw [Lib.count_one]
  rfl
 have k := Any.strings_genSplit_core { L with } hi9 s ⟨#[c]⟩ 0 (-1) (Lib.countB s ⟨#[c]⟩ + 1) w hs h1 (Nat.zero_le _) hI hC (by decide) (by decide) (by rw [if_pos (by decide)]; omega)
 rw [Nat.add_sub_cancel, hlen] at k
 have e2 : Lib.cellsOf (Lib.splitB ⟨#[c]⟩ 0 (Lib.countB s ⟨#[c]⟩) s) (Lib.countB s ⟨#[c]⟩ + 1) = ((Lib.splitB ⟨#[c]⟩ 0 (Lib.countB s ⟨#[c]⟩) s).map Value.string).toArray := by rw [← hlen]; exact Lib.cellsOf_full _
 rw [e2] at k
 have t3 := L.t3; have t9 := L.t9; have t31 := L.t31
 have a3 := L.a3; have a9 := L.a9; have a31 := L.a31
 have z3 := L.z3; have v3 := L.v3; have z9 := L.z9; have v9 := L.v9; have z31 := L.z31; have v31 := L.v31
 have e221 : ∀ args w, (callFunc (ρ.f 221) args).run P w = .ok (.enter (ρ.f 221) args) w := enters_of L.f221 (by kernel_rfl) rfl
 go_enter L.f146, Body.n146_ntmps ρ
 go_wp2_with (go_at_fn (ρ.f 221); refine k.mono ?_; rintro e w' ⟨rfl, hw⟩; rw [hw])
 go_ret
 exact ⟨rfl, rfl⟩
theorem split_calls (L : Lays.n146 P ρ) (hi9 : (P.info? (ρ.t 9)).map (fun i => (i.zero, i.size, i.bytes)) = some (some (.string ByteArray.empty), 1, 16)) (s sep : ByteArray) (w : World) (h1 : sep.size = 1) (hs : s.size ≤ 4194304) :
 Calls P (ρ.f 146) #[.string s, .string sep] w fun e w' => ∃ ty, e = .returned (.slice (some ⟨w.heap.size, 0, none⟩) (splV s sep).length (splV s sep).length) ∧ w' = w.alloc (.cells ((splV s sep).map Value.string).toArray ty) := by
 obtain ⟨c, rfl⟩ := Lib.one_byte sep h1
 refine (split_one L hi9 s c w (by omega)).mono fun e w' ⟨he, hw⟩ => ⟨_, ?_, hw⟩
 rw [he]
 unfold splV
 rw [Lib.splitB_all ⟨#[c]⟩ (Nat.le_refl 1) 0 _ s rfl]
theorem pint_calls (L : LaysC.n174 P ρ) (g15 : isGlob P (ρ.g 15) = true) (g16 : isGlob P (ρ.g 16) = true) (s : ByteArray) (w : World) (N : Nat → Prop) (G : GlobOk P w N) (hs : s.size ≤ 281474976710656) :
 Calls P (ρ.f 174) #[.string s, .int .i64 10, .int .i64 64] w fun e w' => ∃ ev, e = .returned (.tuple #[.int .i64 (pintV s).1, ev]) ∧ IfcV (pintV s).2 ev ∧ Below w.heap.size w w' := by
 unfold pintV
 cases h : Lib.parseIntB 64 s.data.toList with
 | ok v =>
  refine (Any.strconv_ParseInt_10_at64_ok L s (by omega) v h w).mono ?_
  rintro e w' ⟨rfl, hw⟩
  refine ⟨_, rfl, rfl, ?_⟩
  rcases hw with rfl | ⟨t, rfl⟩
  · exact Below.refl _ _
  · exact Lib.bytesWorld_below _ _ _
 | range =>
  obtain ⟨_, u, x, hv⟩ := G _ g16
  refine (Any.strconv_ParseInt_10_at64_range L s hs h _ w hv (.inr ⟨u, x, rfl⟩)).mono ?_
  rintro e w' ⟨n, rfl, _, _, hb⟩
  exact ⟨_, rfl, ⟨_, _, rfl⟩, hb⟩
 | _ =>
  obtain ⟨_, u, x, hv⟩ := G _ g15
  refine (Any.strconv_ParseInt_10_at64_syntax L s hs h _ w hv (.inr ⟨u, x, rfl⟩)).mono ?_
  rintro e w' ⟨n, rfl, _, _, hb⟩
  exact ⟨_, rfl, ⟨_, _, rfl⟩, hb⟩
end Go.Proofs.YtmjmoagmolgacaaGreatDoor.PM
namespace Go.Proofs
open Go.Shelf
def Tryz.lays146_ren : Go.Shelf.Ren := ⟨fun | 146 => 98 | 221 => 127 | 268 => 136 | 138 => 137 | 143 => 138 | 195 => 158 | 197 => 159 | 218 => 160 | 219 => 161 | 260 => 176 | 217 => 177 | 225 => 178 | 224 => 179 | 267 => 180 | 266 => 185 | 314 => 186 | n => n, fun | 9 => 9 | 31 => 71 | 3 => 3 | 4 => 4 | 0 => 0 | 105 => 166 | 21 => 21 | 5 => 5 | 46 => 107 | 119 => 189 | 139 => 192 | 138 => 191 | 146 => 193 | 51 => 164 | n => n, fun | 1 => 3 | 3 => 4 | 4 => 5 | n => n⟩
theorem Tryz.lays146 : Go.Proofs.Lays.n146 Tryz.prog Tryz.lays146_ren := {
  mixed := by kernel_rfl
  f138 := Tryz.func137.trans (congrArg some (by kernel_rfl))
  f143 := Tryz.func138.trans (congrArg some (by kernel_rfl))
  f146 := Tryz.func98.trans (congrArg some (by kernel_rfl))
  f195 := Tryz.func158.trans (congrArg some (by kernel_rfl))
  f197 := Tryz.func159.trans (congrArg some (by kernel_rfl))
  f217 := Tryz.func177.trans (congrArg some (by kernel_rfl))
  f218 := Tryz.func160.trans (congrArg some (by kernel_rfl))
  f219 := Tryz.func161.trans (congrArg some (by kernel_rfl))
  f221 := Tryz.func127.trans (congrArg some (by kernel_rfl))
  f224 := Tryz.func179.trans (congrArg some (by kernel_rfl))
  f225 := Tryz.func178.trans (congrArg some (by kernel_rfl))
  f260 := Tryz.func176.trans (congrArg some (by kernel_rfl))
  f266 := Tryz.func185.trans (congrArg some (by kernel_rfl))
  f267 := Tryz.func180.trans (congrArg some (by kernel_rfl))
  f268 := Tryz.func136.trans (congrArg some (by kernel_rfl))
  f314 := Tryz.func186.trans (congrArg some (by kernel_rfl))
  t0 := Tryz.underlying0
  a0 := Tryz.isAgg0
  z0 := Tryz.sizeOf0
  v0 := Tryz.zeroValue0
  t3 := Tryz.underlying3
  a3 := Tryz.isAgg3
  z3 := Tryz.sizeOf3
  v3 := Tryz.zeroValue3
  t4 := Tryz.underlying4
  a4 := Tryz.isAgg4
  z4 := Tryz.sizeOf4
  v4 := Tryz.zeroValue4
  t5 := Tryz.underlying5
  a5 := Tryz.isAgg5
  z5 := Tryz.sizeOf5
  v5 := Tryz.zeroValue5
  t9 := Tryz.underlying9
  a9 := Tryz.isAgg9
  z9 := Tryz.sizeOf9
  v9 := Tryz.zeroValue9
  t21 := Tryz.underlying21
  a21 := Tryz.isAgg21
  z21 := Tryz.sizeOf21
  v21 := Tryz.zeroValue21
  t31 := Tryz.underlying71
  a31 := Tryz.isAgg71
  z31 := Tryz.sizeOf71
  v31 := Tryz.zeroValue71
  t46 := Tryz.underlying107
  a46 := Tryz.isAgg107
  z46 := Tryz.sizeOf107
  v46 := Tryz.zeroValue107
  t51 := Tryz.underlying164
  a51 := Tryz.isAgg164
  z51 := Tryz.sizeOf164
  v51 := Tryz.zeroValue164
  t105 := Tryz.underlying166
  a105 := Tryz.isAgg166
  z105 := Tryz.sizeOf166
  v105 := Tryz.zeroValue166
  t119 := Tryz.underlying189
  a119 := Tryz.isAgg189
  z119 := Tryz.sizeOf189
  t138 := Tryz.underlying191
  a138 := Tryz.isAgg191
  z138 := Tryz.sizeOf191
  v138 := Tryz.zeroValue191
  t139 := Tryz.underlying192
  a139 := Tryz.isAgg192
  z139 := Tryz.sizeOf192
  v139 := Tryz.zeroValue192
  t146 := Tryz.underlying193
  a146 := Tryz.isAgg193
  z146 := Tryz.sizeOf193
  v146 := Tryz.zeroValue193
  g1 := by kernel_rfl
  g3 := by kernel_rfl
  g4 := by kernel_rfl }
def Tryz.laysC174_ren : Go.Shelf.Ren := ⟨fun | 174 => 99 | 247 => 128 | 245 => 129 | 287 => 139 | 279 => 140 | 280 => 141 | 281 => 142 | 282 => 143 | 321 => 162 | 322 => 163 | 316 => 164 | 171 => 166 | 205 => 165 | 243 => 181 | 246 => 130 | 283 => 144 | 284 => 145 | 285 => 146 | 286 => 147 | 129 => 157 | 317 => 167 | 318 => 168 | 319 => 169 | 320 => 170 | 337 => 182 | 338 => 183 | n => n, fun | 9 => 9 | 3 => 3 | 2 => 2 | 75 => 115 | 85 => 116 | 4 => 4 | 167 => 145 | 5 => 5 | 53 => 136 | 175 => 146 | 46 => 107 | 168 => 148 | 37 => 22 | 0 => 0 | 210 => 172 | 21 => 21 | 127 => 182 | 145 => 185 | 143 => 183 | 171 => 151 | 173 => 154 | 212 => 175 | 51 => 164 | 20 => 20 | 213 => 176 | 232 => 195 | 233 => 196 | 80 => 197 | n => n, fun | 15 => 0 | 16 => 1 | 17 => 2 | 18 => 6 | 19 => 7 | n => n⟩
theorem Tryz.laysC174 : Go.Proofs.LaysC.n174 Tryz.prog Tryz.laysC174_ren := {
  mixed := by kernel_rfl
  f129 := Tryz.func157.trans (congrArg some (by kernel_rfl))
  f171 := Tryz.func166.trans (congrArg some (by kernel_rfl))
  f174 := Tryz.func99.trans (congrArg some (by kernel_rfl))
  f205 := Tryz.func165.trans (congrArg some (by kernel_rfl))
  f243 := Tryz.func181.trans (congrArg some (by kernel_rfl))
  f245 := Tryz.func129.trans (congrArg some (by kernel_rfl))
  f246 := Tryz.func130.trans (congrArg some (by kernel_rfl))
  f247 := Tryz.func128.trans (congrArg some (by kernel_rfl))
  f279 := Tryz.func140.trans (congrArg some (by kernel_rfl))
  f280 := Tryz.func141.trans (congrArg some (by kernel_rfl))
  f281 := Tryz.func142.trans (congrArg some (by kernel_rfl))
  f282 := Tryz.func143.trans (congrArg some (by kernel_rfl))
  f283 := Tryz.func144.trans (congrArg some (by kernel_rfl))
  f284 := Tryz.func145.trans (congrArg some (by kernel_rfl))
  f285 := Tryz.func146.trans (congrArg some (by kernel_rfl))
  f286 := Tryz.func147.trans (congrArg some (by kernel_rfl))
  f287 := Tryz.func139.trans (congrArg some (by kernel_rfl))
  f316 := Tryz.func164.trans (congrArg some (by kernel_rfl))
  f317 := Tryz.func167.trans (congrArg some (by kernel_rfl))
  f318 := Tryz.func168.trans (congrArg some (by kernel_rfl))
  f319 := Tryz.func169.trans (congrArg some (by kernel_rfl))
  f320 := Tryz.func170.trans (congrArg some (by kernel_rfl))
  f321 := Tryz.func162.trans (congrArg some (by kernel_rfl))
  f322 := Tryz.func163.trans (congrArg some (by kernel_rfl))
  f337 := Tryz.func182.trans (congrArg some (by kernel_rfl))
  f338 := Tryz.func183.trans (congrArg some (by kernel_rfl))
  t0 := Tryz.underlying0
  a0 := Tryz.isAgg0
  z0 := Tryz.sizeOf0
  v0 := Tryz.zeroValue0
  t2 := Tryz.underlying2
  a2 := Tryz.isAgg2
  z2 := Tryz.sizeOf2
  v2 := Tryz.zeroValue2
  t3 := Tryz.underlying3
  a3 := Tryz.isAgg3
  z3 := Tryz.sizeOf3
  v3 := Tryz.zeroValue3
  t4 := Tryz.underlying4
  a4 := Tryz.isAgg4
  z4 := Tryz.sizeOf4
  v4 := Tryz.zeroValue4
  t5 := Tryz.underlying5
  a5 := Tryz.isAgg5
  z5 := Tryz.sizeOf5
  v5 := Tryz.zeroValue5
  t9 := Tryz.underlying9
  a9 := Tryz.isAgg9
  z9 := Tryz.sizeOf9
  v9 := Tryz.zeroValue9
  t20 := Tryz.underlying20
  a20 := Tryz.isAgg20
  z20 := Tryz.sizeOf20
  v20 := Tryz.zeroValue20
  t21 := Tryz.underlying21
  a21 := Tryz.isAgg21
  z21 := Tryz.sizeOf21
  v21 := Tryz.zeroValue21
  t37 := Tryz.underlying22
  a37 := Tryz.isAgg22
  z37 := Tryz.sizeOf22
  v37 := Tryz.zeroValue22
  t46 := Tryz.underlying107
  a46 := Tryz.isAgg107
  z46 := Tryz.sizeOf107
  v46 := Tryz.zeroValue107
  t51 := Tryz.underlying164
  a51 := Tryz.isAgg164
  z51 := Tryz.sizeOf164
  v51 := Tryz.zeroValue164
  t53 := Tryz.underlying136
  a53 := Tryz.isAgg136
  z53 := Tryz.sizeOf136
  v53 := Tryz.zeroValue136
  t75 := Tryz.underlying115
  a75 := Tryz.isAgg115
  z75 := Tryz.sizeOf115
  v75 := Tryz.zeroValue115
  t85 := Tryz.underlying116
  a85 := Tryz.isAgg116
  z85 := Tryz.sizeOf116
  v85 := Tryz.zeroValue116
  t127 := Tryz.underlying182
  a127 := Tryz.isAgg182
  z127 := Tryz.sizeOf182
  v127 := Tryz.zeroValue182
  t143 := Tryz.underlying183
  a143 := Tryz.isAgg183
  z143 := Tryz.sizeOf183
  v143 := Tryz.zeroValue183
  t145 := Tryz.underlying185
  a145 := Tryz.isAgg185
  z145 := Tryz.sizeOf185
  v145 := Tryz.zeroValue185
  t167 := Tryz.underlying145
  a167 := Tryz.isAgg145
  z167 := Tryz.sizeOf145
  v167 := Tryz.zeroValue145
  t168 := Tryz.underlying148
  a168 := Tryz.isAgg148
  z168 := Tryz.sizeOf148
  v168 := Tryz.zeroValue148
  t171 := Tryz.underlying151
  a171 := Tryz.isAgg151
  z171 := Tryz.sizeOf151
  v171 := Tryz.zeroValue151
  t173 := Tryz.underlying154
  a173 := Tryz.isAgg154
  z173 := Tryz.sizeOf154
  v173 := Tryz.zeroValue154
  t175 := Tryz.underlying146
  a175 := Tryz.isAgg146
  z175 := Tryz.sizeOf146
  v175 := Tryz.zeroValue146
  t210 := Tryz.underlying172
  a210 := Tryz.isAgg172
  z210 := Tryz.sizeOf172
  v210 := Tryz.zeroValue172
  t212 := Tryz.underlying175
  a212 := Tryz.isAgg175
  z212 := Tryz.sizeOf175
  v212 := Tryz.zeroValue175
  t213 := Tryz.underlying176
  a213 := Tryz.isAgg176
  z213 := Tryz.sizeOf176
  t232 := Tryz.underlying195
  a232 := Tryz.isAgg195
  z232 := Tryz.sizeOf195
  v232 := Tryz.zeroValue195
  t233 := Tryz.underlying196
  a233 := Tryz.isAgg196
  z233 := Tryz.sizeOf196
  v233 := Tryz.zeroValue196
  g15 := by kernel_rfl
  g16 := by kernel_rfl
  g17 := by kernel_rfl
  g18 := by kernel_rfl
  g19 := by kernel_rfl
  t80 := Tryz.underlying197
  a80 := Tryz.isAgg197
  z80 := Tryz.sizeOf197
  v80 := Tryz.zeroValue197
  i0 := by kernel_rfl
  i2 := by kernel_rfl
  i3 := by kernel_rfl
  i4 := by kernel_rfl
  i5 := by kernel_rfl
  i9 := by kernel_rfl
  i20 := by kernel_rfl
  i21 := by kernel_rfl
  i37 := by kernel_rfl
  i46 := by kernel_rfl
  i51 := by kernel_rfl
  i53 := by kernel_rfl
  i75 := by kernel_rfl
  i80 := by kernel_rfl
  i85 := by kernel_rfl
  i127 := by kernel_rfl
  i143 := by kernel_rfl
  i145 := by kernel_rfl
  i167 := by kernel_rfl
  i168 := by kernel_rfl
  i171 := by kernel_rfl
  i173 := by kernel_rfl
  i175 := by kernel_rfl
  i210 := by kernel_rfl
  i212 := by kernel_rfl
  i232 := by kernel_rfl
  i233 := by kernel_rfl
  m15 := by kernel_rfl
  m16 := by kernel_rfl
  m17 := by kernel_rfl
  m18 := by kernel_rfl
  m19 := by kernel_rfl
  c0 := by kernel_rfl
  c2 := by kernel_rfl
  c3 := by kernel_rfl
  c4 := by kernel_rfl
  c5 := by kernel_rfl
  c9 := by kernel_rfl
  c20 := by kernel_rfl
  c21 := by kernel_rfl
  c37 := by kernel_rfl
  c46 := by kernel_rfl
  c51 := by kernel_rfl
  c53 := by kernel_rfl
  c75 := by kernel_rfl
  c80 := by kernel_rfl
  c85 := by kernel_rfl
  c127 := by kernel_rfl
  c143 := by kernel_rfl
  c145 := by kernel_rfl
  c167 := by kernel_rfl
  c168 := by kernel_rfl
  c171 := by kernel_rfl
  c173 := by kernel_rfl
  c175 := by kernel_rfl
  c210 := by kernel_rfl
  c212 := by kernel_rfl
  c213 := by kernel_rfl
  c232 := by kernel_rfl
  c233 := by kernel_rfl }
def Tryz.laysN119_ren : Go.Shelf.Ren := ⟨fun | 53 => 119 | 64 => 134 | 63 => 133 | 78 => 156 | 79 => 157 | 70 => 148 | 71 => 149 | 72 => 150 | 73 => 151 | 74 => 152 | 75 => 153 | 59 => 91 | 76 => 154 | 77 => 155 | 88 => 171 | 89 => 172 | 90 => 173 | 91 => 174 | 92 => 175 | 68 => 124 | 96 => 184 | n => n, fun | 22 => 24 | 23 => 2 | 3 => 3 | 51 => 107 | 0 => 0 | 67 => 164 | 69 => 136 | 4 => 4 | 61 => 158 | 60 => 157 | 44 => 63 | 5 => 5 | 9 => 9 | 75 => 177 | 79 => 180 | 83 => 186 | 84 => 187 | n => n, fun | n => n⟩
theorem Tryz.laysN119 : Go.Proofs.SlLaysN.n53 Tryz.prog Tryz.laysN119_ren := {
  mixed := by kernel_rfl
  f53 := ⟨Tryz.f119.name, by decide, Tryz.func119.trans (congrArg some (by kernel_rfl))⟩
  f59 := ⟨Tryz.f91.name, by decide, Tryz.func91.trans (congrArg some (by kernel_rfl))⟩
  f63 := ⟨Tryz.f133.name, by decide, Tryz.func133.trans (congrArg some (by kernel_rfl))⟩
  f64 := Tryz.func134.trans (congrArg some (by kernel_rfl))
  f68 := ⟨Tryz.f124.name, by decide, Tryz.func124.trans (congrArg some (by kernel_rfl))⟩
  f70 := ⟨Tryz.f148.name, by decide, Tryz.func148.trans (congrArg some (by kernel_rfl))⟩
  f71 := ⟨Tryz.f149.name, by decide, Tryz.func149.trans (congrArg some (by kernel_rfl))⟩
  f72 := ⟨Tryz.f150.name, by decide, Tryz.func150.trans (congrArg some (by kernel_rfl))⟩
  f73 := ⟨Tryz.f151.name, by decide, Tryz.func151.trans (congrArg some (by kernel_rfl))⟩
  f74 := ⟨Tryz.f152.name, by decide, Tryz.func152.trans (congrArg some (by kernel_rfl))⟩
  f75 := ⟨Tryz.f153.name, by decide, Tryz.func153.trans (congrArg some (by kernel_rfl))⟩
  f76 := ⟨Tryz.f154.name, by decide, Tryz.func154.trans (congrArg some (by kernel_rfl))⟩
  f77 := ⟨Tryz.f155.name, by decide, Tryz.func155.trans (congrArg some (by kernel_rfl))⟩
  f78 := Tryz.func156.trans (congrArg some (by kernel_rfl))
  f79 := Tryz.func157.trans (congrArg some (by kernel_rfl))
  f88 := ⟨Tryz.f171.name, by decide, Tryz.func171.trans (congrArg some (by kernel_rfl))⟩
  f89 := Tryz.func172.trans (congrArg some (by kernel_rfl))
  f90 := Tryz.func173.trans (congrArg some (by kernel_rfl))
  f91 := ⟨Tryz.f174.name, by decide, Tryz.func174.trans (congrArg some (by kernel_rfl))⟩
  f92 := ⟨Tryz.f175.name, by decide, Tryz.func175.trans (congrArg some (by kernel_rfl))⟩
  f96 := ⟨Tryz.f184.name, by decide, Tryz.func184.trans (congrArg some (by kernel_rfl))⟩
  t0 := Tryz.underlying0
  a0 := Tryz.isAgg0
  z0 := Tryz.sizeOf0
  v0 := Tryz.zeroValue0
  t3 := Tryz.underlying3
  a3 := Tryz.isAgg3
  z3 := Tryz.sizeOf3
  v3 := Tryz.zeroValue3
  t4 := Tryz.underlying4
  a4 := Tryz.isAgg4
  z4 := Tryz.sizeOf4
  v4 := Tryz.zeroValue4
  t5 := Tryz.underlying5
  a5 := Tryz.isAgg5
  z5 := Tryz.sizeOf5
  v5 := Tryz.zeroValue5
  t9 := Tryz.underlying9
  a9 := Tryz.isAgg9
  z9 := Tryz.sizeOf9
  v9 := Tryz.zeroValue9
  t22 := Tryz.underlying24
  a22 := Tryz.isAgg24
  z22 := Tryz.sizeOf24
  v22 := Tryz.zeroValue24
  t23 := Tryz.underlying2
  a23 := Tryz.isAgg2
  z23 := Tryz.sizeOf2
  v23 := Tryz.zeroValue2
  t44 := Tryz.underlying63
  a44 := Tryz.isAgg63
  z44 := Tryz.sizeOf63
  v44 := Tryz.zeroValue63
  t51 := Tryz.underlying107
  a51 := Tryz.isAgg107
  z51 := Tryz.sizeOf107
  v51 := Tryz.zeroValue107
  t60 := Tryz.underlying157
  a60 := Tryz.isAgg157
  z60 := Tryz.sizeOf157
  v60 := Tryz.zeroValue157
  t61 := Tryz.underlying158
  a61 := Tryz.isAgg158
  z61 := Tryz.sizeOf158
  v61 := Tryz.zeroValue158
  t67 := Tryz.underlying164
  a67 := Tryz.isAgg164
  z67 := Tryz.sizeOf164
  v67 := Tryz.zeroValue164
  t69 := Tryz.underlying136
  a69 := Tryz.isAgg136
  z69 := Tryz.sizeOf136
  v69 := Tryz.zeroValue136
  t75 := Tryz.underlying177
  a75 := Tryz.isAgg177
  z75 := Tryz.sizeOf177
  v75 := Tryz.zeroValue177
  t79 := Tryz.underlying180
  a79 := Tryz.isAgg180
  z79 := Tryz.sizeOf180
  v79 := Tryz.zeroValue180
  t83 := Tryz.underlying186
  a83 := Tryz.isAgg186
  z83 := Tryz.sizeOf186
  v83 := Tryz.zeroValue186
  t84 := Tryz.underlying187
  a84 := Tryz.isAgg187
  z84 := Tryz.sizeOf187
  v84 := Tryz.zeroValue187 }
end Go.Proofs
namespace Go.Proofs.YtmjmoagmolgacaaGreatDoor.P
open Go Go.Proofs.YtmjmoagmolgacaaGreatDoor.PM Go.Proofs
theorem fnOk_of {P : Program} {f : FuncId} {fn : Func} (h : P.funcs[f]? = some fn) (h1 : (fn.name == "runtime.NumGoroutine") = false) (h2 : fn.body.isNone = false) : FnOk P f := ⟨fn, h, h1, h2⟩
theorem pintW (s : ByteArray) (w : World) (N : Nat → Prop) (G : GlobOk Tryz.prog w N) (hs : s.size ≤ 281474976710656) : Calls Tryz.prog 99 #[.string s, .int .i64 10, .int .i64 64] w fun e w' => ∃ ev, e = .returned (.tuple #[.int .i64 (pintV s).1, ev]) ∧ IfcV (pintV s).2 ev ∧ RowKit.Below w.heap.size w w' :=
  pint_calls Tryz.laysC174 (by kernel_rfl) (by kernel_rfl) s w N G hs
theorem splW (s sep : ByteArray) (w : World) (h1 : sep.size = 1) (hs : s.size ≤ 4194304) : Calls Tryz.prog 98 #[.string s, .string sep] w fun e w' => ∃ ty, e = .returned (.slice (some ⟨w.heap.size, 0, none⟩) (splV s sep).length (splV s sep).length) ∧ w' = w.alloc (.cells ((splV s sep).map Value.string).toArray ty) :=
  split_calls Tryz.lays146 (by kernel_rfl) s sep w h1 hs
theorem srtW (blk cap : Nat) (zs : List Int) (w : World) (hH : Sort.Holds (Value.int .i64) w blk 0 zs.toArray) (hb : blk < w.heap.size) (hs : zs.length < 4611686018427387904) : Calls Tryz.prog 119 #[.slice (some ⟨blk, 0, none⟩) zs.length cap] w fun e w' => e = .returned (.tuple #[]) ∧ ∃ n os, w' = Sort.grow (Sort.putRow (Value.int .i64) (Sort.ahead w n) blk 0 (sortI zs).toArray) os :=
  AnyG.slices_Sort_int Tryz.laysN119 blk 0 cap zs w hH hb hs
end Go.Proofs.YtmjmoagmolgacaaGreatDoor.P
namespace Go.Proofs.YtmjmoagmolgacaaGreatDoor.P
open Go Go.Proofs.YtmjmoagmolgacaaGreatDoor.PM Go.Proofs.YtmjmoagmolgacaaGreatDoor.PN Go.Proofs
set_option maxRecDepth 100000
set_option linter.unusedVariables false
theorem prims_ok : PrimOk Tryz.prog P0 := by
 intro f D hD args objs r objs' h
 unfold P0 at hD
 split at hD
 · rename_i hf
   subst hf
   obtain rfl := Option.some.inj hD
   exact spl_ok (fnOk_of Tryz.func98 rfl rfl) splW h
 split at hD
 · rename_i hf
   subst hf
   obtain rfl := Option.some.inj hD
   exact pint_ok (fnOk_of Tryz.func99 rfl rfl) pintW h
 split at hD
 · rename_i hf
   subst hf
   obtain rfl := Option.some.inj hD
   exact srt_ok (fnOk_of Tryz.func119 rfl rfl) srtW h
 split at hD
 · rename_i hf
   subst hf
   obtain rfl := Option.some.inj hD
   exact ins_ok (by decide) (fnOk_of Tryz.func39 rfl rfl) (fun xs y hw hy h1 h2 => let ⟨m, hm⟩ := callT_some.1 (Q.end39 xs y hw hy h1 h2); (callF_ok (by kernel_rfl) (by kernel_rfl) prim_none m _ _ _ _ _ hm).2) (fun g c i n C vs vb vc V w a1 a2 a3 a4 a5 a6 a7 a8 a9 a10 a11 => by
   unfold most at a5
   simp only [Nat.mul_one] at a2 a6
   by_cases hr : n + 1 ≤ c
   · exact insRoom_int64 g c i n C vs vb vc V w a1 a2 a3 hr (by omega) a6 a7 a8 a9 a10 a11
   · exact insGrow_int64 g c i n C vs vb vc V w a1 a2 a3 a4 (by omega) (by omega) a6 a7 a8 a9 a10) h
 split at hD
 · rename_i hf
   subst hf
   obtain rfl := Option.some.inj hD
   exact del_ok (k := 1) (zs := (Builtin.zeroCells (Value.int IntKind.i64 0).cells 1).toList) (by decide) (fnOk_of Tryz.func38 rfl rfl) (fun g c i n C w h1 h2 h3 h4 h5 => by simpa only [Nat.mul_one] using delW_int64 g c i n C w h1 (by simpa using h2) h3 h4 (by simpa using h5)) h
 cases hD
end Go.Proofs.YtmjmoagmolgacaaGreatDoor.P
