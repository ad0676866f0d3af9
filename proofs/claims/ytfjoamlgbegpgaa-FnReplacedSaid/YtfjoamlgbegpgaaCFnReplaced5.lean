/- Part of the proof of FnReplaced: no statement of its own. -/
import Derived.ArgAppend
import Derived.Below
import Derived.BigQuiet
import Derived.ChangeArms
import Derived.ChangeOld
import Derived.DataElems
import Derived.DataReads
import Derived.Deep.AppendLies
import Derived.Deep.CutBlock
import Derived.Deep.DeepCutAuto
import Derived.Deep.Draws
import Derived.Deep.LoopGhost
import Derived.Deep.OwnRows
import Derived.Deep.QuietTactic
import Derived.Deep.RegionHeld3
import Derived.Deep.RegionLaw
import Derived.Deep.RegionWith
import Derived.Deep.Slices
import Derived.JoinedTies
import Derived.KernelRfl
import Derived.Laws.BitsLemmas
import Derived.Laws.BytesArg
import Derived.Laws.CopyRow
import Derived.Laws.IdiomCopy
import Derived.Laws.MakeOwn
import Derived.Laws.NewBlocks
import Derived.Laws.OwnMore
import Derived.Laws.Rows
import Derived.Laws.Slices
import Derived.Laws.StructEq
import Derived.Lib.AppendStr
import Derived.Lib.AppendZerosOnto
import Derived.Lib.Bytealg
import Derived.Lib.ConvBytes
import Derived.Lib.Overlaps
import Derived.Lib.Strings
import Derived.Maps.AppendAt
import Derived.OpenShut
import Derived.OrdersHeld
import Derived.OwnWalk
import Derived.ProofKit
import Derived.RowKit
import Derived.RowKit3
import Derived.Shelf.Abstract
import Derived.Shelf.Bin.LEUint32
import Derived.Shelf.Bin.ReadersZ
import Derived.Shelf.Small.Strs
import Derived.Shelf.Spec.SlicesInsert
import Derived.ShutString
import Derived.SizedLaws
import Derived.Tactics
import Derived.Test.YtfjoamlgbegpgaaProg
import Derived.WalkKit
import Derived.WideLaws
import Derived.Test.YtfjoamlgbegpgaaCFnReplaced4
set_option linter.unusedVariables false
set_option linter.unusedSimpArgs false
namespace Go.Proofs.Ytfjoamlgbegpgaa.P
open Go Go.Proofs.Ytfjoamlgbegpgaa.PM Go.Proofs.Ytfjoamlgbegpgaa.PN Go.Proofs
set_option maxRecDepth 100000
set_option linter.unusedVariables false
def envf22 (k : Nat) : Ev El := envOf CC0 [(49, sf49 k), (59, sf59 k), (60, sf60 k), (61, sf61 k), (62, sf62 k)]
theorem envf22_ok (k : Nat) : EvOk Try.prog CC0 P0 G (envf22 k) := env_ok (sums_cons (sf49_ok k) (sums_cons (sf59_ok k) (sums_cons (sf60_ok k) (sums_cons (sf61_ok k) (sums_cons (sf62_ok k) (sums_nil))))))
def ktf22 : Nat → Nat → Nat := fun rid q => 0
theorem f22_ok {k : Nat} {a0_0 : List S80} {a0_1 : List S80} {a0_2 : List S73} {a1_0 : List Int} {a2_0 : Int} {r : Bool × (List S80) × (List S80) × (List S73)} (h : f22 k a0_0 a0_1 a0_2 a1_0 a2_0 = some r) : callT Try.prog CC0 P0 22 (List.map (denV G) [.agg [.sl 1 a0_0 [], .sl 1 a0_1 [], .sl 2 a0_2 []], .sl 4 a1_0 [], .id .i64 3 a2_0]) (List.map (denO G) []) = some (denV G (f22.o a0_0 a0_1 a0_2 a1_0 a2_0 r).1, List.map (denO G) (f22.o a0_0 a0_1 a0_2 a1_0 a2_0 r).2) :=
 fn_ok (k := k) (E := envf22) (kt := ktf22) (start := f22.start k a0_0 a0_1 a0_2 a1_0 a2_0) (stt := f22.st) (o := f22.o a0_0 a0_1 a0_2 a1_0 a2_0) (h0 := (.skip (.both (.l (.l .all)) (.r (.r .all))))) (D := f22.D) (blk := f22.blk) (hint := f22.hint) (objs := []) G_ok envf22_ok rfl Try.func22 rfl (by kernel_rfl) (by kernel_rfl) rfl (Nat.le_of_ble_eq_true (by kernel_rfl)) (fun x => by cases x <;> kernel_rfl) (fun k x => by cases x <;> kernel_rfl) (fun k x => by cases x <;> kernel_rfl) (by kernel_rfl) ((by kernel_rfl : (f22.start k a0_0 a0_1 a0_2 a1_0 a2_0).run (f22.D k) = f22 k a0_0 a0_1 a0_2 a1_0 a2_0).trans h)
theorem sf22_ok (k : Nat) : SumOk Try.prog CC0 P0 G 22 (sf22 k) := by
 intro as0' os0' lk r l h0'
 unfold sf22 at h0'
 obtain ⟨v0, as1', rfl, h1'⟩ := lH_runs h0'; obtain ⟨v1, as2', rfl, h2'⟩ := lH_runs h1'; obtain ⟨v2, as3', rfl, h3'⟩ := lH_runs h2'; obtain ⟨rfl, h4'⟩ := lT_runs h3'; obtain ⟨rfl, h5'⟩ := lT_runs h4'; obtain ⟨b1', e1, h6'⟩ := argA_runs h5'; obtain ⟨y2', r2', e2, h7'⟩ := argH_runs h6'; obtain ⟨y3', r3', e3, h8'⟩ := argH_runs h7'; obtain ⟨y4', r4', e4, h9'⟩ := argH_runs h8'; obtain ⟨e5, h10'⟩ := argT_runs h9'; obtain ⟨a0_0, e6, h11'⟩ := argL_runs h10'; obtain ⟨a0_1, e7, h12'⟩ := argL_runs h11'; obtain ⟨a0_2, e8, h13'⟩ := argL_runs h12'; obtain ⟨a1_0, e9, h14'⟩ := argL_runs h13'; obtain ⟨a2_0, e10, h15'⟩ := argI_runs h14'; obtain ⟨z', hz', h⟩ := call_runs h15'
 obtain ⟨rfl, rfl⟩ := runs_ret.1 h; exact ⟨rfl, by simp only [List.map_cons, List.map_nil, e1, e2, e3, e4, e5, e6, e7, e8, e9, e10]; exact f22_ok hz'⟩
end Go.Proofs.Ytfjoamlgbegpgaa.P
namespace Go.Proofs.Ytfjoamlgbegpgaa.P
open Go Go.Proofs.Ytfjoamlgbegpgaa.PM Go.Proofs.Ytfjoamlgbegpgaa.PN Go.Proofs
set_option maxRecDepth 100000
set_option linter.unusedVariables false
def envf24 (k : Nat) : Ev El := envOf CC0 [(49, sf49 k), (59, sf59 k)]
theorem envf24_ok (k : Nat) : EvOk Try.prog CC0 P0 G (envf24 k) := env_ok (sums_cons (sf49_ok k) (sums_cons (sf59_ok k) (sums_nil)))
def ktf24 : Nat → Nat → Nat := fun rid q => 0
theorem f24.run (k : Nat) (a0_0 : List S80) (a0_1 : List S80) (a0_2 : List S73) : f24 k a0_0 a0_1 a0_2 = (f24.start k a0_0 a0_1 a0_2).run Empty.elim := by simp only [f24, f24.start, PT.run, bindH_eq, dite_eq_ite]
theorem f24_ok {k : Nat} {a0_0 : List S80} {a0_1 : List S80} {a0_2 : List S73} {r : (List S80) × (List S80) × (List S73)} (h : f24 k a0_0 a0_1 a0_2 = some r) : callT Try.prog CC0 P0 24 (List.map (denV G) [.agg [.sl 1 a0_0 [], .sl 1 a0_1 [], .sl 2 a0_2 []]]) (List.map (denO G) []) = some (denV G (f24.o a0_0 a0_1 a0_2 r).1, List.map (denO G) (f24.o a0_0 a0_1 a0_2 r).2) :=
 fn_ok0 (k := k) (E := envf24) (kt := ktf24) (start := f24.start k a0_0 a0_1 a0_2) (o := f24.o a0_0 a0_1 a0_2) (h0 := (.skip (.both (.bindr ((List S80)) fun t2 => (.re ((List S80)) t2 .all)) .all))) (objs := []) G_ok envf24_ok rfl Try.func24 rfl (by kernel_rfl) (by kernel_rfl) rfl (Nat.le_of_ble_eq_true (by kernel_rfl)) (by kernel_rfl) ((f24.run k a0_0 a0_1 a0_2).symm.trans h)
theorem sf24_ok (k : Nat) : SumOk Try.prog CC0 P0 G 24 (sf24 k) := by
 intro as0' os0' lk r l h0'
 unfold sf24 at h0'
 obtain ⟨v0, as1', rfl, h1'⟩ := lH_runs h0'; obtain ⟨rfl, h2'⟩ := lT_runs h1'; obtain ⟨rfl, h3'⟩ := lT_runs h2'; obtain ⟨b1', e1, h4'⟩ := argA_runs h3'; obtain ⟨y2', r2', e2, h5'⟩ := argH_runs h4'; obtain ⟨y3', r3', e3, h6'⟩ := argH_runs h5'; obtain ⟨y4', r4', e4, h7'⟩ := argH_runs h6'; obtain ⟨e5, h8'⟩ := argT_runs h7'; obtain ⟨a0_0, e6, h9'⟩ := argL_runs h8'; obtain ⟨a0_1, e7, h10'⟩ := argL_runs h9'; obtain ⟨a0_2, e8, h11'⟩ := argL_runs h10'; obtain ⟨z', hz', h⟩ := call_runs h11'
 obtain ⟨rfl, rfl⟩ := runs_ret.1 h; exact ⟨rfl, by simp only [List.map_cons, List.map_nil, e1, e2, e3, e4, e5, e6, e7, e8]; exact f24_ok hz'⟩
end Go.Proofs.Ytfjoamlgbegpgaa.P
namespace Go.Proofs.Ytfjoamlgbegpgaa.P
open Go Go.Proofs.Ytfjoamlgbegpgaa.PM Go.Proofs.Ytfjoamlgbegpgaa.PN Go.Proofs
set_option maxRecDepth 100000
set_option linter.unusedVariables false
def envf54 (k : Nat) : Ev El := envOf CC0 []
theorem envf54_ok (k : Nat) : EvOk Try.prog CC0 P0 G (envf54 k) := env_ok (sums_nil)
def ktf54 : Nat → Nat → Nat := fun rid q => 0
theorem f54_ok {k : Nat} {a0_0 : List Int} {r : (List Int) × Int} (h : f54 k a0_0 = some r) : callT Try.prog CC0 P0 54 (List.map (denV G) [.sl 0 a0_0 []]) (List.map (denO G) []) = some (denV G (f54.o a0_0 r).1, List.map (denO G) (f54.o a0_0 r).2) :=
 fn_ok0 (k := k) (E := envf54) (kt := ktf54) (start := f54.start k a0_0) (o := f54.o a0_0) (h0 := .all) (objs := []) G_ok envf54_ok rfl Try.func54 rfl (by kernel_rfl) (by kernel_rfl) rfl (Nat.le_of_ble_eq_true (by kernel_rfl)) (by kernel_rfl) ((by kernel_rfl : (f54.start k a0_0).run Empty.elim = f54 k a0_0).trans h)
theorem sf54_ok (k : Nat) : SumOk Try.prog CC0 P0 G 54 (sf54 k) := by
 intro as0' os0' lk r l h0'
 unfold sf54 at h0'
 obtain ⟨v0, as1', rfl, h1'⟩ := lH_runs h0'; obtain ⟨rfl, h2'⟩ := lT_runs h1'; obtain ⟨rfl, h3'⟩ := lT_runs h2'; obtain ⟨a0_0, e1, h4'⟩ := argL_runs h3'; obtain ⟨z', hz', h⟩ := call_runs h4'
 obtain ⟨rfl, rfl⟩ := runs_ret.1 h; exact ⟨rfl, by simp only [List.map_cons, List.map_nil, e1]; exact f54_ok hz'⟩
end Go.Proofs.Ytfjoamlgbegpgaa.P
namespace Go.Proofs.Ytfjoamlgbegpgaa.P
open Go Go.Proofs.Ytfjoamlgbegpgaa.PM Go.Proofs.Ytfjoamlgbegpgaa.PN Go.Proofs
set_option maxRecDepth 100000
set_option linter.unusedVariables false
def envf28 (k : Nat) : Ev El := envOf CC0 [(13, sf13 k)]
theorem envf28_ok (k : Nat) : EvOk Try.prog CC0 P0 G (envf28 k) := env_ok (sums_cons (sf13_ok k) (sums_nil))
def ktf28 : Nat → Nat → Nat := fun rid q => 0
theorem f28_ok {k : Nat} {a0_0 : List S80} {a0_1 : List S80} {a0_2 : List S73} {r : (List S80) × (List S80) × (List S73)} (h : f28 k a0_0 a0_1 a0_2 = some r) : callT Try.prog CC0 P0 28 (List.map (denV G) [.agg [.sl 1 a0_0 [], .sl 1 a0_1 [], .sl 2 a0_2 []]]) (List.map (denO G) []) = some (denV G (f28.o a0_0 a0_1 a0_2 r).1, List.map (denO G) (f28.o a0_0 a0_1 a0_2 r).2) :=
 fn_ok0 (k := k) (E := envf28) (kt := ktf28) (start := f28.start k a0_0 a0_1 a0_2) (o := f28.o a0_0 a0_1 a0_2) (h0 := .all) (objs := []) G_ok envf28_ok rfl Try.func28 rfl (by kernel_rfl) (by kernel_rfl) rfl (Nat.le_of_ble_eq_true (by kernel_rfl)) (by kernel_rfl) ((by kernel_rfl : (f28.start k a0_0 a0_1 a0_2).run Empty.elim = f28 k a0_0 a0_1 a0_2).trans h)
theorem sf28_ok (k : Nat) : SumOk Try.prog CC0 P0 G 28 (sf28 k) := by
 intro as0' os0' lk r l h0'
 unfold sf28 at h0'
 obtain ⟨v0, as1', rfl, h1'⟩ := lH_runs h0'; obtain ⟨rfl, h2'⟩ := lT_runs h1'; obtain ⟨rfl, h3'⟩ := lT_runs h2'; obtain ⟨b1', e1, h4'⟩ := argA_runs h3'; obtain ⟨y2', r2', e2, h5'⟩ := argH_runs h4'; obtain ⟨y3', r3', e3, h6'⟩ := argH_runs h5'; obtain ⟨y4', r4', e4, h7'⟩ := argH_runs h6'; obtain ⟨e5, h8'⟩ := argT_runs h7'; obtain ⟨a0_0, e6, h9'⟩ := argL_runs h8'; obtain ⟨a0_1, e7, h10'⟩ := argL_runs h9'; obtain ⟨a0_2, e8, h11'⟩ := argL_runs h10'; obtain ⟨z', hz', h⟩ := call_runs h11'
 obtain ⟨rfl, rfl⟩ := runs_ret.1 h; exact ⟨rfl, by simp only [List.map_cons, List.map_nil, e1, e2, e3, e4, e5, e6, e7, e8]; exact f28_ok hz'⟩
end Go.Proofs.Ytfjoamlgbegpgaa.P
namespace Go.Proofs.Ytfjoamlgbegpgaa.P
open Go Go.Proofs.Ytfjoamlgbegpgaa.PM Go.Proofs.Ytfjoamlgbegpgaa.PN Go.Proofs
set_option maxRecDepth 100000
set_option linter.unusedVariables false
def envf102 (k : Nat) : Ev El := envOf CC0 []
theorem envf102_ok (k : Nat) : EvOk Try.prog CC0 P0 G (envf102 k) := env_ok (sums_nil)
def ktf102 : Nat → Nat → Nat := fun rid q => 0
theorem f102_ok {k : Nat} {o0_0 : List Int} {o0_1 : Int} {r : Int × Int} (h : f102 k o0_0 o0_1 = some r) : callT Try.prog CC0 P0 102 (List.map (denV G) [.ptr 0 (.l 0) 0]) (List.map (denO G) [.box true true 0 2 true [.sl 0 o0_0 [], .id .i64 0 o0_1]]) = some (denV G (f102.o o0_0 o0_1 r).1, List.map (denO G) (f102.o o0_0 o0_1 r).2) :=
 fn_ok0 (k := k) (E := envf102) (kt := ktf102) (start := f102.start k o0_0 o0_1) (o := f102.o o0_0 o0_1) (h0 := .all) (objs := [.box true true 0 2 true [.sl 0 o0_0 [], .id .i64 0 o0_1]]) G_ok envf102_ok rfl Try.func102 rfl (by kernel_rfl) (by kernel_rfl) rfl (Nat.le_of_ble_eq_true (by kernel_rfl)) (by kernel_rfl) ((by kernel_rfl : (f102.start k o0_0 o0_1).run Empty.elim = f102 k o0_0 o0_1).trans h)
theorem sf102_ok (k : Nat) : SumOk Try.prog CC0 P0 G 102 (sf102 k) := by
 intro as0' os0' lk r l h0'
 unfold sf102 at h0'
 obtain ⟨v0, as1', rfl, h1'⟩ := lH_runs h0'; obtain ⟨rfl, h2'⟩ := lT_runs h1'; obtain ⟨x0, os1', rfl, h3'⟩ := lH_runs h2'; obtain ⟨rfl, h4'⟩ := lT_runs h3'; obtain ⟨b1', e1, h5'⟩ := argX_runs h4'; obtain ⟨y2', r2', e2, h6'⟩ := argH_runs h5'; obtain ⟨y3', r3', e3, h7'⟩ := argH_runs h6'; obtain ⟨e4, h8'⟩ := argT_runs h7'; obtain ⟨o0_0, e5, h9'⟩ := argL_runs h8'; obtain ⟨o0_1, e6, h10'⟩ := argI_runs h9'; obtain ⟨e7, h11'⟩ := argV_runs h10'; obtain ⟨z', hz', h⟩ := call_runs h11'
 obtain ⟨rfl, rfl⟩ := runs_ret.1 h; exact ⟨rfl, by simp only [List.map_cons, List.map_nil, e1, e2, e3, e4, e5, e6, e7]; exact f102_ok hz'⟩
end Go.Proofs.Ytfjoamlgbegpgaa.P
namespace Go.Proofs.Ytfjoamlgbegpgaa.P
open Go Go.Proofs.Ytfjoamlgbegpgaa.PM Go.Proofs.Ytfjoamlgbegpgaa.PN Go.Proofs
set_option maxRecDepth 100000
set_option linter.unusedVariables false
def envf63 (k : Nat) : Ev El := envOf CC0 [(102, sf102 k)]
theorem envf63_ok (k : Nat) : EvOk Try.prog CC0 P0 G (envf63 k) := env_ok (sums_cons (sf102_ok k) (sums_nil))
def ktf63 : Nat → Nat → Nat := fun rid q => 0
theorem f63_ok {k : Nat} {a1_0 : Int} {o0_0 : List Int} {o0_1 : Int} {r : Int × Int} (h : f63 k a1_0 o0_0 o0_1 = some r) : callT Try.prog CC0 P0 63 (List.map (denV G) [.ptr 0 (.l 0) 0, .id .i64 2 a1_0]) (List.map (denO G) [.box true true 0 2 true [.sl 0 o0_0 [], .id .i64 0 o0_1]]) = some (denV G (f63.o a1_0 o0_0 o0_1 r).1, List.map (denO G) (f63.o a1_0 o0_0 o0_1 r).2) :=
 fn_ok0 (k := k) (E := envf63) (kt := ktf63) (start := f63.start k a1_0 o0_0 o0_1) (o := f63.o a1_0 o0_0 o0_1) (h0 := .all) (objs := [.box true true 0 2 true [.sl 0 o0_0 [], .id .i64 0 o0_1]]) G_ok envf63_ok rfl Try.func63 rfl (by kernel_rfl) (by kernel_rfl) rfl (Nat.le_of_ble_eq_true (by kernel_rfl)) (by kernel_rfl) ((by kernel_rfl : (f63.start k a1_0 o0_0 o0_1).run Empty.elim = f63 k a1_0 o0_0 o0_1).trans h)
theorem sf63_ok (k : Nat) : SumOk Try.prog CC0 P0 G 63 (sf63 k) := by
 intro as0' os0' lk r l h0'
 unfold sf63 at h0'
 obtain ⟨v0, as1', rfl, h1'⟩ := lH_runs h0'; obtain ⟨v1, as2', rfl, h2'⟩ := lH_runs h1'; obtain ⟨rfl, h3'⟩ := lT_runs h2'; obtain ⟨x0, os1', rfl, h4'⟩ := lH_runs h3'; obtain ⟨rfl, h5'⟩ := lT_runs h4'; obtain ⟨b1', e1, h6'⟩ := argX_runs h5'; obtain ⟨y2', r2', e2, h7'⟩ := argH_runs h6'; obtain ⟨y3', r3', e3, h8'⟩ := argH_runs h7'; obtain ⟨e4, h9'⟩ := argT_runs h8'; obtain ⟨o0_0, e5, h10'⟩ := argL_runs h9'; obtain ⟨o0_1, e6, h11'⟩ := argI_runs h10'; obtain ⟨e7, h12'⟩ := argV_runs h11'; obtain ⟨a1_0, e8, h13'⟩ := argI_runs h12'; obtain ⟨z', hz', h⟩ := call_runs h13'
 obtain ⟨rfl, rfl⟩ := runs_ret.1 h; exact ⟨rfl, by simp only [List.map_cons, List.map_nil, e1, e2, e3, e4, e5, e6, e7, e8]; exact f63_ok hz'⟩
end Go.Proofs.Ytfjoamlgbegpgaa.P
namespace Go.Proofs.Ytfjoamlgbegpgaa.P
open Go Go.Proofs.Ytfjoamlgbegpgaa.PM Go.Proofs.Ytfjoamlgbegpgaa.PN Go.Proofs
set_option maxRecDepth 100000
set_option linter.unusedVariables false
def envf56 (k : Nat) : Ev El := envOf CC0 [(63, sf63 k)]
theorem envf56_ok (k : Nat) : EvOk Try.prog CC0 P0 G (envf56 k) := env_ok (sums_cons (sf63_ok k) (sums_nil))
def ktf56 : Nat → Nat → Nat := fun rid q => 0
theorem f56_ok {k : Nat} {a1_0 : Int} {o0_0 : List Int} {o0_1 : Int} {r : Bool × Int} (h : f56 k a1_0 o0_0 o0_1 = some r) : callT Try.prog CC0 P0 56 (List.map (denV G) [.ptr 0 (.l 0) 0, .id .i64 2 a1_0]) (List.map (denO G) [.box true true 0 2 true [.sl 0 o0_0 [], .id .i64 0 o0_1]]) = some (denV G (f56.o a1_0 o0_0 o0_1 r).1, List.map (denO G) (f56.o a1_0 o0_0 o0_1 r).2) :=
 fn_ok0 (k := k) (E := envf56) (kt := ktf56) (start := f56.start k a1_0 o0_0 o0_1) (o := f56.o a1_0 o0_0 o0_1) (h0 := .all) (objs := [.box true true 0 2 true [.sl 0 o0_0 [], .id .i64 0 o0_1]]) G_ok envf56_ok rfl Try.func56 rfl (by kernel_rfl) (by kernel_rfl) rfl (Nat.le_of_ble_eq_true (by kernel_rfl)) (by kernel_rfl) ((by kernel_rfl : (f56.start k a1_0 o0_0 o0_1).run Empty.elim = f56 k a1_0 o0_0 o0_1).trans h)
theorem sf56_ok (k : Nat) : SumOk Try.prog CC0 P0 G 56 (sf56 k) := by
 intro as0' os0' lk r l h0'
 unfold sf56 at h0'
 obtain ⟨v0, as1', rfl, h1'⟩ := lH_runs h0'; obtain ⟨v1, as2', rfl, h2'⟩ := lH_runs h1'; obtain ⟨rfl, h3'⟩ := lT_runs h2'; obtain ⟨x0, os1', rfl, h4'⟩ := lH_runs h3'; obtain ⟨rfl, h5'⟩ := lT_runs h4'; obtain ⟨b1', e1, h6'⟩ := argX_runs h5'; obtain ⟨y2', r2', e2, h7'⟩ := argH_runs h6'; obtain ⟨y3', r3', e3, h8'⟩ := argH_runs h7'; obtain ⟨e4, h9'⟩ := argT_runs h8'; obtain ⟨o0_0, e5, h10'⟩ := argL_runs h9'; obtain ⟨o0_1, e6, h11'⟩ := argI_runs h10'; obtain ⟨e7, h12'⟩ := argV_runs h11'; obtain ⟨a1_0, e8, h13'⟩ := argI_runs h12'; obtain ⟨z', hz', h⟩ := call_runs h13'
 obtain ⟨rfl, rfl⟩ := runs_ret.1 h; exact ⟨rfl, by simp only [List.map_cons, List.map_nil, e1, e2, e3, e4, e5, e6, e7, e8]; exact f56_ok hz'⟩
end Go.Proofs.Ytfjoamlgbegpgaa.P
namespace Go.Proofs.Ytfjoamlgbegpgaa.P
open Go Go.Proofs.Ytfjoamlgbegpgaa.PM Go.Proofs.Ytfjoamlgbegpgaa.PN Go.Proofs
set_option maxRecDepth 100000
set_option linter.unusedVariables false
def envf95 (k : Nat) : Ev El := envOf CC0 [(63, sf63 k)]
theorem envf95_ok (k : Nat) : EvOk Try.prog CC0 P0 G (envf95 k) := env_ok (sums_cons (sf63_ok k) (sums_nil))
def ktf95 : Nat → Nat → Nat := fun rid q => 0
theorem f95_ok {k : Nat} {a1_0 : Int} {a2_0 : Int} {o0_0 : List Int} {o0_1 : Int} {r : Int × Int} (h : f95 k a1_0 a2_0 o0_0 o0_1 = some r) : callT Try.prog CC0 P0 95 (List.map (denV G) [.ptr 0 (.l 0) 0, .id .i64 2 a1_0, .id .i64 3 a2_0]) (List.map (denO G) [.box true true 0 2 true [.sl 0 o0_0 [], .id .i64 0 o0_1]]) = some (denV G (f95.o a1_0 a2_0 o0_0 o0_1 r).1, List.map (denO G) (f95.o a1_0 a2_0 o0_0 o0_1 r).2) :=
 fn_ok0 (k := k) (E := envf95) (kt := ktf95) (start := f95.start k a1_0 a2_0 o0_0 o0_1) (o := f95.o a1_0 a2_0 o0_0 o0_1) (h0 := .all) (objs := [.box true true 0 2 true [.sl 0 o0_0 [], .id .i64 0 o0_1]]) G_ok envf95_ok rfl Try.func95 rfl (by kernel_rfl) (by kernel_rfl) rfl (Nat.le_of_ble_eq_true (by kernel_rfl)) (by kernel_rfl) ((by kernel_rfl : (f95.start k a1_0 a2_0 o0_0 o0_1).run Empty.elim = f95 k a1_0 a2_0 o0_0 o0_1).trans h)
theorem sf95_ok (k : Nat) : SumOk Try.prog CC0 P0 G 95 (sf95 k) := by
 intro as0' os0' lk r l h0'
 unfold sf95 at h0'
 obtain ⟨v0, as1', rfl, h1'⟩ := lH_runs h0'; obtain ⟨v1, as2', rfl, h2'⟩ := lH_runs h1'; obtain ⟨v2, as3', rfl, h3'⟩ := lH_runs h2'; obtain ⟨rfl, h4'⟩ := lT_runs h3'; obtain ⟨x0, os1', rfl, h5'⟩ := lH_runs h4'; obtain ⟨rfl, h6'⟩ := lT_runs h5'; obtain ⟨b1', e1, h7'⟩ := argX_runs h6'; obtain ⟨y2', r2', e2, h8'⟩ := argH_runs h7'; obtain ⟨y3', r3', e3, h9'⟩ := argH_runs h8'; obtain ⟨e4, h10'⟩ := argT_runs h9'; obtain ⟨o0_0, e5, h11'⟩ := argL_runs h10'; obtain ⟨o0_1, e6, h12'⟩ := argI_runs h11'; obtain ⟨e7, h13'⟩ := argV_runs h12'; obtain ⟨a1_0, e8, h14'⟩ := argI_runs h13'; obtain ⟨a2_0, e9, h15'⟩ := argI_runs h14'; obtain ⟨z', hz', h⟩ := call_runs h15'
 obtain ⟨rfl, rfl⟩ := runs_ret.1 h; exact ⟨rfl, by simp only [List.map_cons, List.map_nil, e1, e2, e3, e4, e5, e6, e7, e8, e9]; exact f95_ok hz'⟩
end Go.Proofs.Ytfjoamlgbegpgaa.P
namespace Go.Proofs.Ytfjoamlgbegpgaa.P
open Go Go.Proofs.Ytfjoamlgbegpgaa.PM Go.Proofs.Ytfjoamlgbegpgaa.PN Go.Proofs
set_option maxRecDepth 100000
set_option linter.unusedVariables false
def envf66 (k : Nat) : Ev El := envOf CC0 []
theorem envf66_ok (k : Nat) : EvOk Try.prog CC0 P0 G (envf66 k) := env_ok (sums_nil)
def ktf66 : Nat → Nat → Nat := fun rid q => 0
theorem f66_ok {k : Nat} {a0_0 : List S80} {a0_1 : List S80} {a0_2 : List S73} {r : (List S80) × (List S80) × (List S73)} (h : f66 k a0_0 a0_1 a0_2 = some r) : callT Try.prog CC0 P0 66 (List.map (denV G) [.agg [.sl 1 a0_0 [], .sl 1 a0_1 [], .sl 2 a0_2 []]]) (List.map (denO G) []) = some (denV G (f66.o a0_0 a0_1 a0_2 r).1, List.map (denO G) (f66.o a0_0 a0_1 a0_2 r).2) :=
 fn_ok0 (k := k) (E := envf66) (kt := ktf66) (start := f66.start k a0_0 a0_1 a0_2) (o := f66.o a0_0 a0_1 a0_2) (h0 := .all) (objs := []) G_ok envf66_ok rfl Try.func66 rfl (by kernel_rfl) (by kernel_rfl) rfl (Nat.le_of_ble_eq_true (by kernel_rfl)) (by kernel_rfl) ((by kernel_rfl : (f66.start k a0_0 a0_1 a0_2).run Empty.elim = f66 k a0_0 a0_1 a0_2).trans h)
theorem sf66_ok (k : Nat) : SumOk Try.prog CC0 P0 G 66 (sf66 k) := by
 intro as0' os0' lk r l h0'
 unfold sf66 at h0'
 obtain ⟨v0, as1', rfl, h1'⟩ := lH_runs h0'; obtain ⟨rfl, h2'⟩ := lT_runs h1'; obtain ⟨rfl, h3'⟩ := lT_runs h2'; obtain ⟨b1', e1, h4'⟩ := argA_runs h3'; obtain ⟨y2', r2', e2, h5'⟩ := argH_runs h4'; obtain ⟨y3', r3', e3, h6'⟩ := argH_runs h5'; obtain ⟨y4', r4', e4, h7'⟩ := argH_runs h6'; obtain ⟨e5, h8'⟩ := argT_runs h7'; obtain ⟨a0_0, e6, h9'⟩ := argL_runs h8'; obtain ⟨a0_1, e7, h10'⟩ := argL_runs h9'; obtain ⟨a0_2, e8, h11'⟩ := argL_runs h10'; obtain ⟨z', hz', h⟩ := call_runs h11'
 obtain ⟨rfl, rfl⟩ := runs_ret.1 h; exact ⟨rfl, by simp only [List.map_cons, List.map_nil, e1, e2, e3, e4, e5, e6, e7, e8]; exact f66_ok hz'⟩
end Go.Proofs.Ytfjoamlgbegpgaa.P
namespace Go.Proofs.Ytfjoamlgbegpgaa.P
open Go Go.Proofs.Ytfjoamlgbegpgaa.PM Go.Proofs.Ytfjoamlgbegpgaa.PN Go.Proofs
set_option maxRecDepth 100000
set_option linter.unusedVariables false
def envf65 (k : Nat) : Ev El := envOf CC0 [(43, sf43 k), (44, sf44 k), (45, sf45 k), (66, sf66 k)]
theorem envf65_ok (k : Nat) : EvOk Try.prog CC0 P0 G (envf65 k) := env_ok (sums_cons (sf43_ok k) (sums_cons (sf44_ok k) (sums_cons (sf45_ok k) (sums_cons (sf66_ok k) (sums_nil)))))
def ktf65 : Nat → Nat → Nat := fun rid q => 0
theorem f65_ok {k : Nat} {a0_0 : List S80} {a0_1 : List S80} {a0_2 : List S73} {a1_0 : Int} {a1_1 : ByteArray} {a1_2 : ByteArray} {a1_3 : ByteArray} {r : Int × (List S80) × (List S80) × (List S73)} (h : f65 k a0_0 a0_1 a0_2 a1_0 a1_1 a1_2 a1_3 = some r) : callT Try.prog CC0 P0 65 (List.map (denV G) [.agg [.sl 1 a0_0 [], .sl 1 a0_1 [], .sl 2 a0_2 []], .agg [.id .i64 0 a1_0, .s a1_1, .s a1_2, .s a1_3]]) (List.map (denO G) []) = some (denV G (f65.o a0_0 a0_1 a0_2 a1_0 a1_1 a1_2 a1_3 r).1, List.map (denO G) (f65.o a0_0 a0_1 a0_2 a1_0 a1_1 a1_2 a1_3 r).2) :=
 fn_ok0 (k := k) (E := envf65) (kt := ktf65) (start := f65.start k a0_0 a0_1 a0_2 a1_0 a1_1 a1_2 a1_3) (o := f65.o a0_0 a0_1 a0_2 a1_0 a1_1 a1_2 a1_3) (h0 := (.skip (.both (.skip (.both (.both (.l (.l (.l .all))) (.r (.skip (.r (.r .all))))) .all)) .all))) (objs := []) G_ok envf65_ok rfl Try.func65 rfl (by kernel_rfl) (by kernel_rfl) rfl (Nat.le_of_ble_eq_true (by kernel_rfl)) (by kernel_rfl) ((by kernel_rfl : (f65.start k a0_0 a0_1 a0_2 a1_0 a1_1 a1_2 a1_3).run Empty.elim = f65 k a0_0 a0_1 a0_2 a1_0 a1_1 a1_2 a1_3).trans h)
theorem sf65_ok (k : Nat) : SumOk Try.prog CC0 P0 G 65 (sf65 k) := by
 intro as0' os0' lk r l h0'
 unfold sf65 at h0'
 obtain ⟨v0, as1', rfl, h1'⟩ := lH_runs h0'; obtain ⟨v1, as2', rfl, h2'⟩ := lH_runs h1'; obtain ⟨rfl, h3'⟩ := lT_runs h2'; obtain ⟨rfl, h4'⟩ := lT_runs h3'; obtain ⟨b1', e1, h5'⟩ := argA_runs h4'; obtain ⟨y2', r2', e2, h6'⟩ := argH_runs h5'; obtain ⟨y3', r3', e3, h7'⟩ := argH_runs h6'; obtain ⟨y4', r4', e4, h8'⟩ := argH_runs h7'; obtain ⟨e5, h9'⟩ := argT_runs h8'; obtain ⟨a0_0, e6, h10'⟩ := argL_runs h9'; obtain ⟨a0_1, e7, h11'⟩ := argL_runs h10'; obtain ⟨a0_2, e8, h12'⟩ := argL_runs h11'; obtain ⟨b5', e9, h13'⟩ := argA_runs h12'; obtain ⟨y6', r6', e10, h14'⟩ := argH_runs h13'; obtain ⟨y7', r7', e11, h15'⟩ := argH_runs h14'; obtain ⟨y8', r8', e12, h16'⟩ := argH_runs h15'; obtain ⟨y9', r9', e13, h17'⟩ := argH_runs h16'; obtain ⟨e14, h18'⟩ := argT_runs h17'; obtain ⟨a1_0, e15, h19'⟩ := argI_runs h18'; obtain ⟨a1_1, e16, h20'⟩ := argS_runs h19'; obtain ⟨a1_2, e17, h21'⟩ := argS_runs h20'; obtain ⟨a1_3, e18, h22'⟩ := argS_runs h21'; obtain ⟨z', hz', h⟩ := call_runs h22'
 obtain ⟨rfl, rfl⟩ := runs_ret.1 h; exact ⟨rfl, by simp only [List.map_cons, List.map_nil, e1, e2, e3, e4, e5, e6, e7, e8, e9, e10, e11, e12, e13, e14, e15, e16, e17, e18]; exact f65_ok hz'⟩
end Go.Proofs.Ytfjoamlgbegpgaa.P
namespace Go.Proofs.Ytfjoamlgbegpgaa.P
open Go Go.Proofs.Ytfjoamlgbegpgaa.PM Go.Proofs.Ytfjoamlgbegpgaa.PN Go.Proofs
set_option maxRecDepth 100000
set_option linter.unusedVariables false
def envf96 (k : Nat) : Ev El := envOf CC0 [(13, sf13 k), (65, sf65 k)]
theorem envf96_ok (k : Nat) : EvOk Try.prog CC0 P0 G (envf96 k) := env_ok (sums_cons (sf13_ok k) (sums_cons (sf65_ok k) (sums_nil)))
def ktf96 : Nat → Nat → Nat := fun rid q => 0
theorem f96_ok {k : Nat} {a0_0 : List S80} {a0_1 : List S80} {a0_2 : List S73} {a1_0 : Int} {a1_1 : ByteArray} {a1_2 : ByteArray} {a1_3 : ByteArray} {r : Int × (List S80) × (List S80) × (List S73)} (h : f96 k a0_0 a0_1 a0_2 a1_0 a1_1 a1_2 a1_3 = some r) : callT Try.prog CC0 P0 96 (List.map (denV G) [.agg [.sl 1 a0_0 [], .sl 1 a0_1 [], .sl 2 a0_2 []], .agg [.id .i64 0 a1_0, .s a1_1, .s a1_2, .s a1_3]]) (List.map (denO G) []) = some (denV G (f96.o a0_0 a0_1 a0_2 a1_0 a1_1 a1_2 a1_3 r).1, List.map (denO G) (f96.o a0_0 a0_1 a0_2 a1_0 a1_1 a1_2 a1_3 r).2) :=
 fn_ok0 (k := k) (E := envf96) (kt := ktf96) (start := f96.start k a0_0 a0_1 a0_2 a1_0 a1_1 a1_2 a1_3) (o := f96.o a0_0 a0_1 a0_2 a1_0 a1_1 a1_2 a1_3) (h0 := .all) (objs := []) G_ok envf96_ok rfl Try.func96 rfl (by kernel_rfl) (by kernel_rfl) rfl (Nat.le_of_ble_eq_true (by kernel_rfl)) (by kernel_rfl) ((by kernel_rfl : (f96.start k a0_0 a0_1 a0_2 a1_0 a1_1 a1_2 a1_3).run Empty.elim = f96 k a0_0 a0_1 a0_2 a1_0 a1_1 a1_2 a1_3).trans h)
theorem sf96_ok (k : Nat) : SumOk Try.prog CC0 P0 G 96 (sf96 k) := by
 intro as0' os0' lk r l h0'
 unfold sf96 at h0'
 obtain ⟨v0, as1', rfl, h1'⟩ := lH_runs h0'; obtain ⟨v1, as2', rfl, h2'⟩ := lH_runs h1'; obtain ⟨rfl, h3'⟩ := lT_runs h2'; obtain ⟨rfl, h4'⟩ := lT_runs h3'; obtain ⟨b1', e1, h5'⟩ := argA_runs h4'; obtain ⟨y2', r2', e2, h6'⟩ := argH_runs h5'; obtain ⟨y3', r3', e3, h7'⟩ := argH_runs h6'; obtain ⟨y4', r4', e4, h8'⟩ := argH_runs h7'; obtain ⟨e5, h9'⟩ := argT_runs h8'; obtain ⟨a0_0, e6, h10'⟩ := argL_runs h9'; obtain ⟨a0_1, e7, h11'⟩ := argL_runs h10'; obtain ⟨a0_2, e8, h12'⟩ := argL_runs h11'; obtain ⟨b5', e9, h13'⟩ := argA_runs h12'; obtain ⟨y6', r6', e10, h14'⟩ := argH_runs h13'; obtain ⟨y7', r7', e11, h15'⟩ := argH_runs h14'; obtain ⟨y8', r8', e12, h16'⟩ := argH_runs h15'; obtain ⟨y9', r9', e13, h17'⟩ := argH_runs h16'; obtain ⟨e14, h18'⟩ := argT_runs h17'; obtain ⟨a1_0, e15, h19'⟩ := argI_runs h18'; obtain ⟨a1_1, e16, h20'⟩ := argS_runs h19'; obtain ⟨a1_2, e17, h21'⟩ := argS_runs h20'; obtain ⟨a1_3, e18, h22'⟩ := argS_runs h21'; obtain ⟨z', hz', h⟩ := call_runs h22'
 obtain ⟨rfl, rfl⟩ := runs_ret.1 h; exact ⟨rfl, by simp only [List.map_cons, List.map_nil, e1, e2, e3, e4, e5, e6, e7, e8, e9, e10, e11, e12, e13, e14, e15, e16, e17, e18]; exact f96_ok hz'⟩
end Go.Proofs.Ytfjoamlgbegpgaa.P
namespace Go.Proofs.Ytfjoamlgbegpgaa.P
open Go Go.Proofs.Ytfjoamlgbegpgaa.PM Go.Proofs.Ytfjoamlgbegpgaa.PN Go.Proofs
set_option maxRecDepth 100000
set_option linter.unusedVariables false
def envf64 (k : Nat) : Ev El := envOf CC0 [(63, sf63 k)]
theorem envf64_ok (k : Nat) : EvOk Try.prog CC0 P0 G (envf64 k) := env_ok (sums_cons (sf63_ok k) (sums_nil))
def ktf64 : Nat → Nat → Nat := fun rid q => 0
theorem f64_ok {k : Nat} {o0_0 : List Int} {o0_1 : Int} {r : ByteArray × Int} (h : f64 k o0_0 o0_1 = some r) : callT Try.prog CC0 P0 64 (List.map (denV G) [.ptr 0 (.l 0) 0]) (List.map (denO G) [.box true true 0 2 true [.sl 0 o0_0 [], .id .i64 0 o0_1]]) = some (denV G (f64.o o0_0 o0_1 r).1, List.map (denO G) (f64.o o0_0 o0_1 r).2) :=
 fn_ok0 (k := k) (E := envf64) (kt := ktf64) (start := f64.start k o0_0 o0_1) (o := f64.o o0_0 o0_1) (h0 := .all) (objs := [.box true true 0 2 true [.sl 0 o0_0 [], .id .i64 0 o0_1]]) G_ok envf64_ok rfl Try.func64 rfl (by kernel_rfl) (by kernel_rfl) rfl (Nat.le_of_ble_eq_true (by kernel_rfl)) (by kernel_rfl) ((by kernel_rfl : (f64.start k o0_0 o0_1).run Empty.elim = f64 k o0_0 o0_1).trans h)
theorem sf64_ok (k : Nat) : SumOk Try.prog CC0 P0 G 64 (sf64 k) := by
 intro as0' os0' lk r l h0'
 unfold sf64 at h0'
 obtain ⟨v0, as1', rfl, h1'⟩ := lH_runs h0'; obtain ⟨rfl, h2'⟩ := lT_runs h1'; obtain ⟨x0, os1', rfl, h3'⟩ := lH_runs h2'; obtain ⟨rfl, h4'⟩ := lT_runs h3'; obtain ⟨b1', e1, h5'⟩ := argX_runs h4'; obtain ⟨y2', r2', e2, h6'⟩ := argH_runs h5'; obtain ⟨y3', r3', e3, h7'⟩ := argH_runs h6'; obtain ⟨e4, h8'⟩ := argT_runs h7'; obtain ⟨o0_0, e5, h9'⟩ := argL_runs h8'; obtain ⟨o0_1, e6, h10'⟩ := argI_runs h9'; obtain ⟨e7, h11'⟩ := argV_runs h10'; obtain ⟨z', hz', h⟩ := call_runs h11'
 obtain ⟨rfl, rfl⟩ := runs_ret.1 h; exact ⟨rfl, by simp only [List.map_cons, List.map_nil, e1, e2, e3, e4, e5, e6, e7]; exact f64_ok hz'⟩
end Go.Proofs.Ytfjoamlgbegpgaa.P
namespace Go.Proofs.Ytfjoamlgbegpgaa.P
open Go Go.Proofs.Ytfjoamlgbegpgaa.PM Go.Proofs.Ytfjoamlgbegpgaa.PN Go.Proofs
set_option maxRecDepth 100000
set_option linter.unusedVariables false
def envf97 (k : Nat) : Ev El := envOf CC0 [(63, sf63 k), (64, sf64 k)]
theorem envf97_ok (k : Nat) : EvOk Try.prog CC0 P0 G (envf97 k) := env_ok (sums_cons (sf63_ok k) (sums_cons (sf64_ok k) (sums_nil)))
def ktf97 : Nat → Nat → Nat := fun rid q => 0
theorem f97_ok {k : Nat} {o0_0 : List Int} {o0_1 : Int} {r : Int × ByteArray × ByteArray × ByteArray × Int} (h : f97 k o0_0 o0_1 = some r) : callT Try.prog CC0 P0 97 (List.map (denV G) [.ptr 0 (.l 0) 0]) (List.map (denO G) [.box true true 0 2 true [.sl 0 o0_0 [], .id .i64 0 o0_1]]) = some (denV G (f97.o o0_0 o0_1 r).1, List.map (denO G) (f97.o o0_0 o0_1 r).2) :=
 fn_ok0 (k := k) (E := envf97) (kt := ktf97) (start := f97.start k o0_0 o0_1) (o := f97.o o0_0 o0_1) (h0 := .all) (objs := [.box true true 0 2 true [.sl 0 o0_0 [], .id .i64 0 o0_1]]) G_ok envf97_ok rfl Try.func97 rfl (by kernel_rfl) (by kernel_rfl) rfl (Nat.le_of_ble_eq_true (by kernel_rfl)) (by kernel_rfl) ((by kernel_rfl : (f97.start k o0_0 o0_1).run Empty.elim = f97 k o0_0 o0_1).trans h)
theorem sf97_ok (k : Nat) : SumOk Try.prog CC0 P0 G 97 (sf97 k) := by
 intro as0' os0' lk r l h0'
 unfold sf97 at h0'
 obtain ⟨v0, as1', rfl, h1'⟩ := lH_runs h0'; obtain ⟨rfl, h2'⟩ := lT_runs h1'; obtain ⟨x0, os1', rfl, h3'⟩ := lH_runs h2'; obtain ⟨rfl, h4'⟩ := lT_runs h3'; obtain ⟨b1', e1, h5'⟩ := argX_runs h4'; obtain ⟨y2', r2', e2, h6'⟩ := argH_runs h5'; obtain ⟨y3', r3', e3, h7'⟩ := argH_runs h6'; obtain ⟨e4, h8'⟩ := argT_runs h7'; obtain ⟨o0_0, e5, h9'⟩ := argL_runs h8'; obtain ⟨o0_1, e6, h10'⟩ := argI_runs h9'; obtain ⟨e7, h11'⟩ := argV_runs h10'; obtain ⟨z', hz', h⟩ := call_runs h11'
 obtain ⟨rfl, rfl⟩ := runs_ret.1 h; exact ⟨rfl, by simp only [List.map_cons, List.map_nil, e1, e2, e3, e4, e5, e6, e7]; exact f97_ok hz'⟩
end Go.Proofs.Ytfjoamlgbegpgaa.P
namespace Go.Proofs.Ytfjoamlgbegpgaa.P
open Go Go.Proofs.Ytfjoamlgbegpgaa.PM Go.Proofs.Ytfjoamlgbegpgaa.PN Go.Proofs
set_option maxRecDepth 100000
set_option linter.unusedVariables false
def envf55 (k : Nat) : Ev El := envOf CC0 [(28, sf28 k), (56, sf56 k), (63, sf63 k), (95, sf95 k), (96, sf96 k), (97, sf97 k)]
theorem envf55_ok (k : Nat) : EvOk Try.prog CC0 P0 G (envf55 k) := env_ok (sums_cons (sf28_ok k) (sums_cons (sf56_ok k) (sums_cons (sf63_ok k) (sums_cons (sf95_ok k) (sums_cons (sf96_ok k) (sums_cons (sf97_ok k) (sums_nil)))))))
def ktf55 : Nat → Nat → Nat := fun rid q => 0
theorem f55_ok {k : Nat} {o0_0 : List Int} {o0_1 : Int} {r : (List S80) × (List S80) × (List S73) × (List Int) × Int} (h : f55 k o0_0 o0_1 = some r) : callT Try.prog CC0 P0 55 (List.map (denV G) [.ptr 0 (.l 0) 0]) (List.map (denO G) [.box true true 0 2 true [.sl 0 o0_0 [], .id .i64 0 o0_1]]) = some (denV G (f55.o o0_0 o0_1 r).1, List.map (denO G) (f55.o o0_0 o0_1 r).2) :=
 fn_ok (k := k) (E := envf55) (kt := ktf55) (start := f55.start k o0_0 o0_1) (stt := f55.st) (o := f55.o o0_0 o0_1) (h0 := .all) (D := f55.D) (blk := f55.blk) (hint := f55.hint) (objs := [.box true true 0 2 true [.sl 0 o0_0 [], .id .i64 0 o0_1]]) G_ok envf55_ok rfl Try.func55 rfl (by kernel_rfl) (by kernel_rfl) rfl (Nat.le_of_ble_eq_true (by kernel_rfl)) (fun x => by cases x <;> kernel_rfl) (fun k x => by cases x <;> kernel_rfl) (fun k x => by cases x <;> kernel_rfl) (by kernel_rfl) ((by kernel_rfl : (f55.start k o0_0 o0_1).run (f55.D k) = f55 k o0_0 o0_1).trans h)
theorem sf55_ok (k : Nat) : SumOk Try.prog CC0 P0 G 55 (sf55 k) := by
 intro as0' os0' lk r l h0'
 unfold sf55 at h0'
 obtain ⟨v0, as1', rfl, h1'⟩ := lH_runs h0'; obtain ⟨rfl, h2'⟩ := lT_runs h1'; obtain ⟨x0, os1', rfl, h3'⟩ := lH_runs h2'; obtain ⟨rfl, h4'⟩ := lT_runs h3'; obtain ⟨b1', e1, h5'⟩ := argX_runs h4'; obtain ⟨y2', r2', e2, h6'⟩ := argH_runs h5'; obtain ⟨y3', r3', e3, h7'⟩ := argH_runs h6'; obtain ⟨e4, h8'⟩ := argT_runs h7'; obtain ⟨o0_0, e5, h9'⟩ := argL_runs h8'; obtain ⟨o0_1, e6, h10'⟩ := argI_runs h9'; obtain ⟨e7, h11'⟩ := argV_runs h10'; obtain ⟨z', hz', h⟩ := call_runs h11'
 obtain ⟨rfl, rfl⟩ := runs_ret.1 h; exact ⟨rfl, by simp only [List.map_cons, List.map_nil, e1, e2, e3, e4, e5, e6, e7]; exact f55_ok hz'⟩
end Go.Proofs.Ytfjoamlgbegpgaa.P
namespace Go.Proofs.Ytfjoamlgbegpgaa.P
open Go Go.Proofs.Ytfjoamlgbegpgaa.PM Go.Proofs.Ytfjoamlgbegpgaa.PN Go.Proofs
set_option maxRecDepth 100000
set_option linter.unusedVariables false
def envf25 (k : Nat) : Ev El := envOf CC0 [(54, sf54 k), (55, sf55 k), (56, sf56 k), (63, sf63 k), (64, sf64 k)]
theorem envf25_ok (k : Nat) : EvOk Try.prog CC0 P0 G (envf25 k) := env_ok (sums_cons (sf54_ok k) (sums_cons (sf55_ok k) (sums_cons (sf56_ok k) (sums_cons (sf63_ok k) (sums_cons (sf64_ok k) (sums_nil))))))
def ktf25 : Nat → Nat → Nat := fun rid q => 0
theorem f25_ok {k : Nat} {a0_0 : List Int} {r : (List S80) × (List S80) × (List S73) × ByteArray × ByteArray} (h : f25 k a0_0 = some r) : callT Try.prog CC0 P0 25 (List.map (denV G) [.sl 0 a0_0 []]) (List.map (denO G) []) = some (denV G (f25.o a0_0 r).1, List.map (denO G) (f25.o a0_0 r).2) :=
 fn_ok0 (k := k) (E := envf25) (kt := ktf25) (start := f25.start k a0_0) (o := f25.o a0_0) (h0 := .all) (objs := []) G_ok envf25_ok rfl Try.func25 rfl (by kernel_rfl) (by kernel_rfl) rfl (Nat.le_of_ble_eq_true (by kernel_rfl)) (by kernel_rfl) ((by kernel_rfl : (f25.start k a0_0).run Empty.elim = f25 k a0_0).trans h)
theorem sf25_ok (k : Nat) : SumOk Try.prog CC0 P0 G 25 (sf25 k) := by
 intro as0' os0' lk r l h0'
 unfold sf25 at h0'
 obtain ⟨v0, as1', rfl, h1'⟩ := lH_runs h0'; obtain ⟨rfl, h2'⟩ := lT_runs h1'; obtain ⟨rfl, h3'⟩ := lT_runs h2'; obtain ⟨a0_0, e1, h4'⟩ := argL_runs h3'; obtain ⟨z', hz', h⟩ := call_runs h4'
 obtain ⟨rfl, rfl⟩ := runs_ret.1 h; exact ⟨rfl, by simp only [List.map_cons, List.map_nil, e1]; exact f25_ok hz'⟩
end Go.Proofs.Ytfjoamlgbegpgaa.P
namespace Go.Proofs.Ytfjoamlgbegpgaa.P
open Go Go.Proofs.Ytfjoamlgbegpgaa.PM Go.Proofs.Ytfjoamlgbegpgaa.PN Go.Proofs
set_option maxRecDepth 100000
set_option linter.unusedVariables false
def envf26 (k : Nat) : Ev El := envOf CC0 [(13, sf13 k), (52, sf52 k), (65, sf65 k), (66, sf66 k)]
theorem envf26_ok (k : Nat) : EvOk Try.prog CC0 P0 G (envf26 k) := env_ok (sums_cons (sf13_ok k) (sums_cons (sf52_ok k) (sums_cons (sf65_ok k) (sums_cons (sf66_ok k) (sums_nil)))))
def ktf26 : Nat → Nat → Nat := fun rid q => 0
theorem f26_ok {k : Nat} {a0_0 : List S80} {a0_1 : List S80} {a0_2 : List S73} {a1_0 : ByteArray} {a2_0 : ByteArray} {r : Int × (List S80) × (List S80) × (List S73)} (h : f26 k a0_0 a0_1 a0_2 a1_0 a2_0 = some r) : callT Try.prog CC0 P0 26 (List.map (denV G) [.agg [.sl 1 a0_0 [], .sl 1 a0_1 [], .sl 2 a0_2 []], .s a1_0, .s a2_0]) (List.map (denO G) []) = some (denV G (f26.o a0_0 a0_1 a0_2 a1_0 a2_0 r).1, List.map (denO G) (f26.o a0_0 a0_1 a0_2 a1_0 a2_0 r).2) :=
 fn_ok0 (k := k) (E := envf26) (kt := ktf26) (start := f26.start k a0_0 a0_1 a0_2 a1_0 a2_0) (o := f26.o a0_0 a0_1 a0_2 a1_0 a2_0) (h0 := (.skip (.both (.skip (.both (.skip (.both (.skip (.both .all (.r .all))) (.r (.r .all)))) (.skip (.both .all (.r .all))))) .all))) (objs := []) G_ok envf26_ok rfl Try.func26 rfl (by kernel_rfl) (by kernel_rfl) rfl (Nat.le_of_ble_eq_true (by kernel_rfl)) (by kernel_rfl) ((by kernel_rfl : (f26.start k a0_0 a0_1 a0_2 a1_0 a2_0).run Empty.elim = f26 k a0_0 a0_1 a0_2 a1_0 a2_0).trans h)
theorem sf26_ok (k : Nat) : SumOk Try.prog CC0 P0 G 26 (sf26 k) := by
 intro as0' os0' lk r l h0'
 unfold sf26 at h0'
 obtain ⟨v0, as1', rfl, h1'⟩ := lH_runs h0'; obtain ⟨v1, as2', rfl, h2'⟩ := lH_runs h1'; obtain ⟨v2, as3', rfl, h3'⟩ := lH_runs h2'; obtain ⟨rfl, h4'⟩ := lT_runs h3'; obtain ⟨rfl, h5'⟩ := lT_runs h4'; obtain ⟨b1', e1, h6'⟩ := argA_runs h5'; obtain ⟨y2', r2', e2, h7'⟩ := argH_runs h6'; obtain ⟨y3', r3', e3, h8'⟩ := argH_runs h7'; obtain ⟨y4', r4', e4, h9'⟩ := argH_runs h8'; obtain ⟨e5, h10'⟩ := argT_runs h9'; obtain ⟨a0_0, e6, h11'⟩ := argL_runs h10'; obtain ⟨a0_1, e7, h12'⟩ := argL_runs h11'; obtain ⟨a0_2, e8, h13'⟩ := argL_runs h12'; obtain ⟨a1_0, e9, h14'⟩ := argS_runs h13'; obtain ⟨a2_0, e10, h15'⟩ := argS_runs h14'; obtain ⟨z', hz', h⟩ := call_runs h15'
 obtain ⟨rfl, rfl⟩ := runs_ret.1 h; exact ⟨rfl, by simp only [List.map_cons, List.map_nil, e1, e2, e3, e4, e5, e6, e7, e8, e9, e10]; exact f26_ok hz'⟩
end Go.Proofs.Ytfjoamlgbegpgaa.P
namespace Go.Proofs.Ytfjoamlgbegpgaa.P
open Go Go.Proofs.Ytfjoamlgbegpgaa.PM Go.Proofs.Ytfjoamlgbegpgaa.PN Go.Proofs
set_option maxRecDepth 100000
set_option linter.unusedVariables false
theorem f103_ok {k : Nat} {a1_0 : Int} {o0 : List S73} {o1 : List S73} {r : (List S73)} (h : f103 k a1_0 o0 o1 = some r) : callT Try.prog CC0 P0 103 [T.win 0 0 o0.length, T.sc (.int .i64 a1_0), T.win 1 0 o1.length] [Ob.mkRow 4 (List.map e73 o0), Ob.mkRow 4 (List.map e73 o1)] = some (T.win 2 0 r.length, [(⟨true, false, true, true, 0, 4, List.map e73 o0⟩ : Ob), Ob.mkRow 4 (List.map e73 o1), Ob.mkRow 4 (List.map e73 r)]) := by
 unfold f103 at h
 obtain ⟨⟨h0, h1, h2, h3, h4⟩, h⟩ := ite_l h
 obtain rfl := Option.some.inj h
 obtain ⟨y, rfl⟩ := List.length_eq_one_iff.1 h2
 refine callT_prim (d := insD 4 56) rfl ?_
 have hl : (o0.take a1_0.toNat ++ ([y] ++ o0.drop a1_0.toNat)).length = o0.length + 1 := by simp only [List.length_append, List.length_take, List.length_cons, List.length_nil, List.length_drop]; omega
 show insD 4 56 [.win 0 0 o0.length, .sc (.int .i64 a1_0), .win 1 0 1] [Ob.mkRow 4 (o0.map e73), Ob.mkRow 4 [e73 y]] = _
 rw [insD_eq, if_pos (by simp only [w73, beq_self_eq_true, Bool.true_and, List.length_map, Bool.and_eq_true, decide_eq_true_eq]; exact ⟨by simp [e73, T.width, T.cells], h0, by omega, by trivial, by unfold most; omega, by unfold most; omega⟩), hl]
 simp [Ob.mkRow]
theorem sf103_ok (k : Nat) : SumOk Try.prog CC0 P0 G 103 (sf103 k) := by
 intro as0' os0' lk r l h0'
 unfold sf103 at h0'
 obtain ⟨v0, as1', rfl, h1'⟩ := lH_runs h0'; obtain ⟨v1, as2', rfl, h2'⟩ := lH_runs h1'; obtain ⟨v2, as3', rfl, h3'⟩ := lH_runs h2'; obtain ⟨rfl, h4'⟩ := lT_runs h3'; obtain ⟨x0, os1', rfl, h5'⟩ := lH_runs h4'; obtain ⟨x1, os2', rfl, h6'⟩ := lH_runs h5'; obtain ⟨rfl, h7'⟩ := lT_runs h6'; obtain ⟨o0, e1, h8'⟩ := argR_runs h7'; obtain ⟨o1, e2, h9'⟩ := argR_runs h8'; obtain ⟨e3, h10'⟩ := argW_runs h9'; obtain ⟨a1_0, e4, h11'⟩ := argI_runs h10'; obtain ⟨e5, h12'⟩ := argW_runs h11'; obtain ⟨z', hz', h⟩ := call_runs h12'
 obtain ⟨rfl, rfl⟩ := runs_ret.1 h; exact ⟨rfl, by simp only [List.map_cons, List.map_nil, e1, e2, e3, e4, e5]; exact f103_ok hz'⟩
end Go.Proofs.Ytfjoamlgbegpgaa.P
namespace Go.Proofs.Ytfjoamlgbegpgaa.P
open Go Go.Proofs.Ytfjoamlgbegpgaa.PM Go.Proofs.Ytfjoamlgbegpgaa.PN Go.Proofs
set_option maxRecDepth 100000
set_option linter.unusedVariables false
def envf79 (k : Nat) : Ev El := envOf CC0 [(59, sf59 k)]
theorem envf79_ok (k : Nat) : EvOk Try.prog CC0 P0 G (envf79 k) := env_ok (sums_cons (sf59_ok k) (sums_nil))
def ktf79 : Nat → Nat → Nat := fun rid q => 0
theorem f79_ok {k : Nat} {a0_0 : List S80} {a0_1 : List S80} {a0_2 : List S73} {r : (List S80) × (List S80) × (List S73)} (h : f79 k a0_0 a0_1 a0_2 = some r) : callT Try.prog CC0 P0 79 (List.map (denV G) [.agg [.sl 1 a0_0 [], .sl 1 a0_1 [], .sl 2 a0_2 []]]) (List.map (denO G) []) = some (denV G (f79.o a0_0 a0_1 a0_2 r).1, List.map (denO G) (f79.o a0_0 a0_1 a0_2 r).2) :=
 fn_ok0 (k := k) (E := envf79) (kt := ktf79) (start := f79.start k a0_0 a0_1 a0_2) (o := f79.o a0_0 a0_1 a0_2) (h0 := .all) (objs := []) G_ok envf79_ok rfl Try.func79 rfl (by kernel_rfl) (by kernel_rfl) rfl (Nat.le_of_ble_eq_true (by kernel_rfl)) (by kernel_rfl) ((by kernel_rfl : (f79.start k a0_0 a0_1 a0_2).run Empty.elim = f79 k a0_0 a0_1 a0_2).trans h)
theorem sf79_ok (k : Nat) : SumOk Try.prog CC0 P0 G 79 (sf79 k) := by
 intro as0' os0' lk r l h0'
 unfold sf79 at h0'
 obtain ⟨v0, as1', rfl, h1'⟩ := lH_runs h0'; obtain ⟨rfl, h2'⟩ := lT_runs h1'; obtain ⟨rfl, h3'⟩ := lT_runs h2'; obtain ⟨b1', e1, h4'⟩ := argA_runs h3'; obtain ⟨y2', r2', e2, h5'⟩ := argH_runs h4'; obtain ⟨y3', r3', e3, h6'⟩ := argH_runs h5'; obtain ⟨y4', r4', e4, h7'⟩ := argH_runs h6'; obtain ⟨e5, h8'⟩ := argT_runs h7'; obtain ⟨a0_0, e6, h9'⟩ := argL_runs h8'; obtain ⟨a0_1, e7, h10'⟩ := argL_runs h9'; obtain ⟨a0_2, e8, h11'⟩ := argL_runs h10'; obtain ⟨z', hz', h⟩ := call_runs h11'
 obtain ⟨rfl, rfl⟩ := runs_ret.1 h; exact ⟨rfl, by simp only [List.map_cons, List.map_nil, e1, e2, e3, e4, e5, e6, e7, e8]; exact f79_ok hz'⟩
end Go.Proofs.Ytfjoamlgbegpgaa.P
namespace Go.Proofs.Ytfjoamlgbegpgaa.P
open Go Go.Proofs.Ytfjoamlgbegpgaa.PM Go.Proofs.Ytfjoamlgbegpgaa.PN Go.Proofs
set_option maxRecDepth 100000
set_option linter.unusedVariables false
def envf104 (k : Nat) : Ev El := envOf CC0 [(59, sf59 k), (61, sf61 k), (62, sf62 k), (79, sf79 k), (89, sf89 k)]
theorem envf104_ok (k : Nat) : EvOk Try.prog CC0 P0 G (envf104 k) := env_ok (sums_cons (sf59_ok k) (sums_cons (sf61_ok k) (sums_cons (sf62_ok k) (sums_cons (sf79_ok k) (sums_cons (sf89_ok k) (sums_nil))))))
def ktf104 : Nat → Nat → Nat := fun rid q => 0
theorem f104_ok {k : Nat} {a0_0 : List S80} {a0_1 : List S80} {a0_2 : List S73} {a1_0 : Int} {a1_1 : ByteArray} {a1_2 : ByteArray} {a1_3 : ByteArray} {r : Int × (List S80) × (List S80) × (List S73)} (h : f104 k a0_0 a0_1 a0_2 a1_0 a1_1 a1_2 a1_3 = some r) : callT Try.prog CC0 P0 104 (List.map (denV G) [.agg [.sl 1 a0_0 [], .sl 1 a0_1 [], .sl 2 a0_2 []], .agg [.id .i64 0 a1_0, .s a1_1, .s a1_2, .s a1_3]]) (List.map (denO G) []) = some (denV G (f104.o a0_0 a0_1 a0_2 a1_0 a1_1 a1_2 a1_3 r).1, List.map (denO G) (f104.o a0_0 a0_1 a0_2 a1_0 a1_1 a1_2 a1_3 r).2) :=
 fn_ok0 (k := k) (E := envf104) (kt := ktf104) (start := f104.start k a0_0 a0_1 a0_2 a1_0 a1_1 a1_2 a1_3) (o := f104.o a0_0 a0_1 a0_2 a1_0 a1_1 a1_2 a1_3) (h0 := (.skip (.both (.two (.both (.l (.l (.l .all))) (.r (.skip (.r (.r .all))))) .all) .all))) (objs := []) G_ok envf104_ok rfl Try.func104 rfl (by kernel_rfl) (by kernel_rfl) rfl (Nat.le_of_ble_eq_true (by kernel_rfl)) (by kernel_rfl) ((by kernel_rfl : (f104.start k a0_0 a0_1 a0_2 a1_0 a1_1 a1_2 a1_3).run Empty.elim = f104 k a0_0 a0_1 a0_2 a1_0 a1_1 a1_2 a1_3).trans h)
theorem sf104_ok (k : Nat) : SumOk Try.prog CC0 P0 G 104 (sf104 k) := by
 intro as0' os0' lk r l h0'
 unfold sf104 at h0'
 obtain ⟨v0, as1', rfl, h1'⟩ := lH_runs h0'; obtain ⟨v1, as2', rfl, h2'⟩ := lH_runs h1'; obtain ⟨rfl, h3'⟩ := lT_runs h2'; obtain ⟨rfl, h4'⟩ := lT_runs h3'; obtain ⟨b1', e1, h5'⟩ := argA_runs h4'; obtain ⟨y2', r2', e2, h6'⟩ := argH_runs h5'; obtain ⟨y3', r3', e3, h7'⟩ := argH_runs h6'; obtain ⟨y4', r4', e4, h8'⟩ := argH_runs h7'; obtain ⟨e5, h9'⟩ := argT_runs h8'; obtain ⟨a0_0, e6, h10'⟩ := argL_runs h9'; obtain ⟨a0_1, e7, h11'⟩ := argL_runs h10'; obtain ⟨a0_2, e8, h12'⟩ := argL_runs h11'; obtain ⟨b5', e9, h13'⟩ := argA_runs h12'; obtain ⟨y6', r6', e10, h14'⟩ := argH_runs h13'; obtain ⟨y7', r7', e11, h15'⟩ := argH_runs h14'; obtain ⟨y8', r8', e12, h16'⟩ := argH_runs h15'; obtain ⟨y9', r9', e13, h17'⟩ := argH_runs h16'; obtain ⟨e14, h18'⟩ := argT_runs h17'; obtain ⟨a1_0, e15, h19'⟩ := argI_runs h18'; obtain ⟨a1_1, e16, h20'⟩ := argS_runs h19'; obtain ⟨a1_2, e17, h21'⟩ := argS_runs h20'; obtain ⟨a1_3, e18, h22'⟩ := argS_runs h21'; obtain ⟨z', hz', h⟩ := call_runs h22'
 obtain ⟨rfl, rfl⟩ := runs_ret.1 h; exact ⟨rfl, by simp only [List.map_cons, List.map_nil, e1, e2, e3, e4, e5, e6, e7, e8, e9, e10, e11, e12, e13, e14, e15, e16, e17, e18]; exact f104_ok hz'⟩
end Go.Proofs.Ytfjoamlgbegpgaa.P
namespace Go.Proofs.Ytfjoamlgbegpgaa.P
open Go Go.Proofs.Ytfjoamlgbegpgaa.PM Go.Proofs.Ytfjoamlgbegpgaa.PN Go.Proofs
set_option maxRecDepth 100000
set_option linter.unusedVariables false
def envf67 (k : Nat) : Ev El := envOf CC0 [(49, sf49 k), (53, sf53 k), (79, sf79 k), (103, sf103 k), (104, sf104 k)]
theorem envf67_ok (k : Nat) : EvOk Try.prog CC0 P0 G (envf67 k) := env_ok (sums_cons (sf49_ok k) (sums_cons (sf53_ok k) (sums_cons (sf79_ok k) (sums_cons (sf103_ok k) (sums_cons (sf104_ok k) (sums_nil))))))
def ktf67 : Nat → Nat → Nat := fun rid q => 0
theorem f67_ok {k : Nat} {a0_0 : List S80} {a0_1 : List S80} {a0_2 : List S73} {a1_0 : ByteArray} {a2_0 : ByteArray} {r : Int × (List S80) × (List S80) × (List S73)} (h : f67 k a0_0 a0_1 a0_2 a1_0 a2_0 = some r) : callT Try.prog CC0 P0 67 (List.map (denV G) [.agg [.sl 1 a0_0 [], .sl 1 a0_1 [], .sl 2 a0_2 []], .s a1_0, .s a2_0]) (List.map (denO G) []) = some (denV G (f67.o a0_0 a0_1 a0_2 a1_0 a2_0 r).1, List.map (denO G) (f67.o a0_0 a0_1 a0_2 a1_0 a2_0 r).2) :=
 fn_ok (k := k) (E := envf67) (kt := ktf67) (start := f67.start k a0_0 a0_1 a0_2 a1_0 a2_0) (stt := f67.st) (o := f67.o a0_0 a0_1 a0_2 a1_0 a2_0) (h0 := .all) (D := f67.D) (blk := f67.blk) (hint := f67.hint) (objs := []) G_ok envf67_ok rfl Try.func67 rfl (by kernel_rfl) (by kernel_rfl) rfl (Nat.le_of_ble_eq_true (by kernel_rfl)) (fun x => by cases x <;> kernel_rfl) (fun k x => by cases x <;> kernel_rfl) (fun k x => by cases x <;> kernel_rfl) (by kernel_rfl) ((by kernel_rfl : (f67.start k a0_0 a0_1 a0_2 a1_0 a2_0).run (f67.D k) = f67 k a0_0 a0_1 a0_2 a1_0 a2_0).trans h)
theorem sf67_ok (k : Nat) : SumOk Try.prog CC0 P0 G 67 (sf67 k) := by
 intro as0' os0' lk r l h0'
 unfold sf67 at h0'
 obtain ⟨v0, as1', rfl, h1'⟩ := lH_runs h0'; obtain ⟨v1, as2', rfl, h2'⟩ := lH_runs h1'; obtain ⟨v2, as3', rfl, h3'⟩ := lH_runs h2'; obtain ⟨rfl, h4'⟩ := lT_runs h3'; obtain ⟨rfl, h5'⟩ := lT_runs h4'; obtain ⟨b1', e1, h6'⟩ := argA_runs h5'; obtain ⟨y2', r2', e2, h7'⟩ := argH_runs h6'; obtain ⟨y3', r3', e3, h8'⟩ := argH_runs h7'; obtain ⟨y4', r4', e4, h9'⟩ := argH_runs h8'; obtain ⟨e5, h10'⟩ := argT_runs h9'; obtain ⟨a0_0, e6, h11'⟩ := argL_runs h10'; obtain ⟨a0_1, e7, h12'⟩ := argL_runs h11'; obtain ⟨a0_2, e8, h13'⟩ := argL_runs h12'; obtain ⟨a1_0, e9, h14'⟩ := argS_runs h13'; obtain ⟨a2_0, e10, h15'⟩ := argS_runs h14'; obtain ⟨z', hz', h⟩ := call_runs h15'
 obtain ⟨rfl, rfl⟩ := runs_ret.1 h; exact ⟨rfl, by simp only [List.map_cons, List.map_nil, e1, e2, e3, e4, e5, e6, e7, e8, e9, e10]; exact f67_ok hz'⟩
end Go.Proofs.Ytfjoamlgbegpgaa.P
namespace Go.Proofs.Ytfjoamlgbegpgaa.P
open Go Go.Proofs.Ytfjoamlgbegpgaa.PM Go.Proofs.Ytfjoamlgbegpgaa.PN Go.Proofs
set_option maxRecDepth 100000
set_option linter.unusedVariables false
def envf27 (k : Nat) : Ev El := envOf CC0 [(67, sf67 k)]
theorem envf27_ok (k : Nat) : EvOk Try.prog CC0 P0 G (envf27 k) := env_ok (sums_cons (sf67_ok k) (sums_nil))
def ktf27 : Nat → Nat → Nat := fun rid q => 0
theorem f27_ok {k : Nat} {a0_0 : List S80} {a0_1 : List S80} {a0_2 : List S73} {a1_0 : ByteArray} {a2_0 : ByteArray} {r : Int × (List S80) × (List S80) × (List S73)} (h : f27 k a0_0 a0_1 a0_2 a1_0 a2_0 = some r) : callT Try.prog CC0 P0 27 (List.map (denV G) [.agg [.sl 1 a0_0 [], .sl 1 a0_1 [], .sl 2 a0_2 []], .s a1_0, .s a2_0]) (List.map (denO G) []) = some (denV G (f27.o a0_0 a0_1 a0_2 a1_0 a2_0 r).1, List.map (denO G) (f27.o a0_0 a0_1 a0_2 a1_0 a2_0 r).2) :=
 fn_ok0 (k := k) (E := envf27) (kt := ktf27) (start := f27.start k a0_0 a0_1 a0_2 a1_0 a2_0) (o := f27.o a0_0 a0_1 a0_2 a1_0 a2_0) (h0 := .all) (objs := []) G_ok envf27_ok rfl Try.func27 rfl (by kernel_rfl) (by kernel_rfl) rfl (Nat.le_of_ble_eq_true (by kernel_rfl)) (by kernel_rfl) ((by kernel_rfl : (f27.start k a0_0 a0_1 a0_2 a1_0 a2_0).run Empty.elim = f27 k a0_0 a0_1 a0_2 a1_0 a2_0).trans h)
theorem sf27_ok (k : Nat) : SumOk Try.prog CC0 P0 G 27 (sf27 k) := by
 intro as0' os0' lk r l h0'
 unfold sf27 at h0'
 obtain ⟨v0, as1', rfl, h1'⟩ := lH_runs h0'; obtain ⟨v1, as2', rfl, h2'⟩ := lH_runs h1'; obtain ⟨v2, as3', rfl, h3'⟩ := lH_runs h2'; obtain ⟨rfl, h4'⟩ := lT_runs h3'; obtain ⟨rfl, h5'⟩ := lT_runs h4'; obtain ⟨b1', e1, h6'⟩ := argA_runs h5'; obtain ⟨y2', r2', e2, h7'⟩ := argH_runs h6'; obtain ⟨y3', r3', e3, h8'⟩ := argH_runs h7'; obtain ⟨y4', r4', e4, h9'⟩ := argH_runs h8'; obtain ⟨e5, h10'⟩ := argT_runs h9'; obtain ⟨a0_0, e6, h11'⟩ := argL_runs h10'; obtain ⟨a0_1, e7, h12'⟩ := argL_runs h11'; obtain ⟨a0_2, e8, h13'⟩ := argL_runs h12'; obtain ⟨a1_0, e9, h14'⟩ := argS_runs h13'; obtain ⟨a2_0, e10, h15'⟩ := argS_runs h14'; obtain ⟨z', hz', h⟩ := call_runs h15'
 obtain ⟨rfl, rfl⟩ := runs_ret.1 h; exact ⟨rfl, by simp only [List.map_cons, List.map_nil, e1, e2, e3, e4, e5, e6, e7, e8, e9, e10]; exact f27_ok hz'⟩
end Go.Proofs.Ytfjoamlgbegpgaa.P
namespace Go.Proofs.Ytfjoamlgbegpgaa.P
open Go Go.Proofs.Ytfjoamlgbegpgaa.PM Go.Proofs.Ytfjoamlgbegpgaa.PN Go.Proofs
set_option maxRecDepth 100000
set_option linter.unusedVariables false
def envf6 (k : Nat) : Ev El := envOf CC0 [(13, sf13 k), (17, sf17 k), (18, sf18 k), (19, sf19 k), (22, sf22 k), (24, sf24 k), (25, sf25 k), (26, sf26 k), (27, sf27 k)]
theorem envf6_ok (k : Nat) : EvOk Try.prog CC0 P0 G (envf6 k) := env_ok (sums_cons (sf13_ok k) (sums_cons (sf17_ok k) (sums_cons (sf18_ok k) (sums_cons (sf19_ok k) (sums_cons (sf22_ok k) (sums_cons (sf24_ok k) (sums_cons (sf25_ok k) (sums_cons (sf26_ok k) (sums_cons (sf27_ok k) (sums_nil))))))))))
def ktf6 : Nat → Nat → Nat := fun rid q => 0
theorem f6_ok {k : Nat} {a0_0 : List Int} {r : Bool} (h : f6 k a0_0 = some r) : callT Try.prog CC0 P0 6 (List.map (denV G) [.sl 0 a0_0 []]) (List.map (denO G) []) = some (denV G (f6.o a0_0 r).1, List.map (denO G) (f6.o a0_0 r).2) :=
 fn_ok (k := k) (E := envf6) (kt := ktf6) (start := f6.start k a0_0) (stt := f6.st) (o := f6.o a0_0) (h0 := (.skip (.both .all (.skip (.skip (.skip (.both (.skip (.both (.skip (.skip (.both .all (.skip (.skip (.both (.skip (.both (.l (.l (.l .all))) (.r (.r (.r .all))))) .all)))))) .all)) .all))))))) (D := f6.D) (blk := f6.blk) (hint := f6.hint) (objs := []) G_ok envf6_ok rfl Try.func6 rfl (by kernel_rfl) (by kernel_rfl) rfl (Nat.le_of_ble_eq_true (by kernel_rfl)) (fun x => by cases x <;> kernel_rfl) (fun k x => by cases x <;> kernel_rfl) (fun k x => by cases x <;> kernel_rfl) (by kernel_rfl) ((by kernel_rfl : (f6.start k a0_0).run (f6.D k) = f6 k a0_0).trans h)
theorem f6_okT {k : Nat} {a0_0 : List Int} {r : Bool} (h : f6 k a0_0 = some r) : callT Try.prog CC0 P0 6 [T.sl (List.map e_u8 a0_0) []] [] = some (denV G (f6.o a0_0 r).1, []) := f6_ok h
theorem sf6_ok (k : Nat) : SumOk Try.prog CC0 P0 G 6 (sf6 k) := by
 intro as0' os0' lk r l h0'
 unfold sf6 at h0'
 obtain ⟨v0, as1', rfl, h1'⟩ := lH_runs h0'; obtain ⟨rfl, h2'⟩ := lT_runs h1'; obtain ⟨rfl, h3'⟩ := lT_runs h2'; obtain ⟨a0_0, e1, h4'⟩ := argL_runs h3'; obtain ⟨z', hz', h⟩ := call_runs h4'
 obtain ⟨rfl, rfl⟩ := runs_ret.1 h; exact ⟨rfl, by simp only [List.map_cons, List.map_nil, e1]; exact f6_ok hz'⟩
end Go.Proofs.Ytfjoamlgbegpgaa.P
namespace Go.Proofs.Ytfjoamlgbegpgaa.P
open Go Go.Proofs.Ytfjoamlgbegpgaa.PM Go.Proofs Go.RowKit
theorem info_split {P : Program} {e : TypeId} {z : Value} {k b : Nat} (h : (P.info? e).map (fun i => (i.zero, i.size, i.bytes)) = some (some z, k, b)) : ∃ i, P.info? e = some i ∧ i.zero = some z ∧ i.size = k ∧ i.bytes = b := by
  cases hi : P.info? e with
  | none => rw [hi] at h; cases h
  | some i => rw [hi] at h; simp only [Option.map_some, Option.some.injEq, Prod.mk.injEq] at h; exact ⟨i, rfl, h.1, h.2.1, h.2.2⟩
theorem info_File : (Try.prog.info? 80).map (fun i => (i.zero, i.size, i.bytes)) = some (some (.agg #[(.string ⟨#[]⟩), (.string ⟨#[]⟩)]), 2, 32) := by kernel_rfl

set_option maxHeartbeats 4000000 in
set_option maxRecDepth 100000 in
theorem delW_File (g c i n : Nat) (C : Array Value) (w : World) (hR : RowC w 2 g C) (hcap : c * 2 ≤ C.size) (hnc : n ≤ c) (hjn : i + 1 ≤ n) (h1c : ∀ q u, q < n * 2 → C[q]? = some u → u.oneCell' = true) :
    Calls Try.prog 100 #[.slice (some ⟨g, 0, none⟩) n c, .int .i64 i, .int .i64 ((i + 1 : Nat) : Int)] w fun e w' => e = .returned (.slice (some ⟨g, 0, none⟩) (n - 1) c) ∧
      w' = (w.drew.setCells g (i * 2) ((C.toList.take (n * 2)).drop ((i + 1) * 2))).setCells g ((n - 1) * 2) (Builtin.zeroCells (Value.cells (.agg #[(.string ⟨#[]⟩), (.string ⟨#[]⟩)])) 1).toList := by
  obtain ⟨j, hj⟩ : ∃ j, j = i + 1 := ⟨_, rfl⟩
  rw [← hj]
  have hu := Try.underlying28
  obtain ⟨i0, hi0, hz0, hzs, hzb⟩ := info_split info_File
  have hC : C.toList.length = C.size := Array.length_toList
  obtain ⟨news, hnews⟩ : ∃ news, news = (C.toList.take (n * 2)).drop (j * 2) := ⟨_, rfl⟩
  have hdl : news.length = (n - j) * 2 := by rw [hnews, List.length_drop, List.length_take]; omega
  have hng : ∀ q u, news[q]? = some u → C[j * 2 + q]? = some u ∧ j * 2 + q < n * 2 := fun q u hq => by
    have hlt : q < news.length := (List.getElem?_eq_some_iff.1 hq).1
    rw [hnews, List.getElem?_drop, List.getElem?_take_of_lt (by omega)] at hq
    exact ⟨by simpa using hq, by omega⟩
  obtain ⟨A, hA, hsrc⟩ : ∃ A : Addr, (if c = j then some (⟨g, 0, none⟩ : Addr) else some ⟨g, j * 2, none⟩) = some A ∧ Aside0 (∀ t u, news[t]? = some u → w.drew.cell? (A.add t) = some u) := by
    by_cases h : c = j
    · refine ⟨⟨g, 0, none⟩, by simp [h], ⟨fun t u hu => ?_⟩⟩
      have h0 : news.length = 0 := by rw [hdl]; omega
      rw [List.length_eq_zero_iff.1 h0] at hu
      simp at hu
    · refine ⟨⟨g, j * 2, none⟩, by simp [h], ⟨fun t u hu => ?_⟩⟩
      rw [Addr.add_lit, hR.drew.cell]
      exact (hng t u hu).1
  have h1n : ∀ u ∈ news, u.oneCell' = true := fun u hu => by
    obtain ⟨q, hq⟩ := List.getElem?_of_mem hu
    obtain ⟨h1, h2⟩ := hng q u hq
    exact h1c _ u h2 h1
  obtain ⟨C1, hR1, hs1, _, _⟩ := hR.drew.set (i * 2) news
  have hz1 : ∀ m, ∀ v ∈ (Builtin.zeroCells (Value.cells (.agg #[(.string ⟨#[]⟩), (.string ⟨#[]⟩)])) m).toList, v.oneCell' = true := fun m v hv => by
    simp only [Builtin.zeroCells, Array.toList_map, List.mem_map] at hv
    obtain ⟨q, _, rfl⟩ := hv
    have : q % (Value.cells (.agg #[(.string ⟨#[]⟩), (.string ⟨#[]⟩)])).size < 2 := Nat.mod_lt _ (by decide)
    generalize q % (Value.cells (.agg #[(.string ⟨#[]⟩), (.string ⟨#[]⟩)])).size = r at this
    match r, this with
    | 0, _ => rfl
    | 1, _ => rfl
    | r + 2, h => exact absurd h (by omega)
  have hzl : ∀ m, (Builtin.zeroCells (Value.cells (.agg #[(.string ⟨#[]⟩), (.string ⟨#[]⟩)])) m).toList.length = m * 2 := fun m => by rw [Array.length_toList]; simp [Builtin.zeroCells, Value.cells]
  have hcl2 : ∀ ty, (Builtin.clear_ #[28] ty #[.slice (some ⟨g, (i + (n - j)) * 2, none⟩) (n - (i + (n - j))) (c - (i + (n - j)))]).run Try.prog (w.drew.setCells g (i * 2) news) = .ok (.tuple #[]) ((w.drew.setCells g (i * 2) news).setCells g ((n - 1) * 2) (Builtin.zeroCells (Value.cells (.agg #[(.string ⟨#[]⟩), (.string ⟨#[]⟩)])) 1).toList) := fun ty => by
    rw [show i + (n - j) = n - 1 by omega, show n - (n - 1) = 1 by omega]
    exact run_clear_cells (P := Try.prog) _ 28 80 ty (.agg #[(.string ⟨#[]⟩), (.string ⟨#[]⟩)]) hu Try.zeroValue80 g ((n - 1) * 2) 1 (c - (n - 1)) (by decide) (fun q hq => by rw [hzl] at hq; rw [hR1.cell, Array.getElem?_eq_getElem (by omega)]; rfl)
      (fun q hq => by rw [hzl] at hq; obtain ⟨E, fr, _, hf⟩ := hR1; exact hf _ (.inl (by omega))) (hz1 1)
  have s1 := Aside0.mk hdl
  have s2 := Aside0.mk h1n
  have s3 : Aside0 (∀ t, t < news.length → (w.drew.cell? ⟨g, 0 + i * 2 + t, none⟩).isSome = true ∧ w.drew.frozen? ⟨g, 0 + i * 2 + t, none⟩ = false) := ⟨fun t ht => by
    rw [hdl] at ht
    obtain ⟨E, fr, _, hf⟩ := hR.drew
    refine ⟨?_, hf _ (.inl (by omega))⟩
    rw [hR.drew.cell, Array.getElem?_eq_getElem (by omega)]
    rfl⟩

  have hic : i ≤ c := by omega
  have hjc : j ≤ c := by omega
  have hne : ¬ ((i : Int) = (j : Int)) := by omega
  have FIN : Aside0 ((w.drew.setCells g (i * 2) news).setCells g ((n - 1) * 2) (Builtin.zeroCells (Value.cells (.agg #[(.string ⟨#[]⟩), (.string ⟨#[]⟩)])) 1).toList = (w.drew.setCells g (i * 2) ((C.toList.take (n * 2)).drop (j * 2))).setCells g ((n - 1) * 2) (Builtin.zeroCells (Value.cells (.agg #[(.string ⟨#[]⟩), (.string ⟨#[]⟩)])) 1).toList) := ⟨by rw [hnews]⟩
  have hij : i < j := by omega
  have hji : j ≤ i + 1 := by omega
  have hjn' : j ≤ n := by omega
  clear hR1 hs1 hz1 hzl hng hC hnews hdl h1n hR hcap hz0 hzb h1c hj hjn
  go_enter Try.func100, Try.ntmps100
  go_wp2_with fail
  go_region_law (refine step_append_room rfl (.tmp 22) (.tmp 25) 28 rfl 80 i0 2 hu hi0 hzs g 0 i c (by simp [Act.eval, Act.put]) A (n - j) (c - j) news (by simp [Act.eval, Act.put]) (by have := s1.out; omega) hsrc.out s2.out (by omega) (by simpa using s3.out) ?_; (try simp only [Nat.mul_one]))
  go_wp2
  go_ret
  exact ⟨by rw [show n - 1 = i + (n - j) by omega]; rfl, FIN.out⟩

set_option maxHeartbeats 4000000 in
set_option maxRecDepth 100000 in
theorem insRoom_File (g c i n : Nat) (C : Array Value) (vs : List Value) (vb vc : Nat) (V : Array Value) (w : World) (hR : RowC w 2 g C) (hcap : c * 2 ≤ C.size) (hin : i < n) (hroom : n + 1 ≤ c) (hbig : (n + 1) * 32 ≤ 140737488355328)
    (h1c : ∀ q u, q < n * 2 → C[q]? = some u → u.oneCell' = true) (hV : RowC w 2 vb V) (hvs : ∀ (j : Nat) (u : Value), vs[j]? = some u → V[j]? = some u) (hvl : vs.length = 2) (h1v : ∀ u ∈ vs, u.oneCell' = true) (hne : vb ≠ g) :
    Calls Try.prog 121 #[.slice (some ⟨g, 0, none⟩) n c, .int .i64 i, .slice (some ⟨vb, 0, none⟩) 1 vc] w fun e w' => ∃ b' cap' C', e = .returned (.slice (some ⟨b', 0, none⟩) (n + 1) cap') ∧ InsR w w' 2 g i n C vs b' cap' C' := by
  have hu := Try.underlying28
  obtain ⟨i0, hi0, hz0, hzs, hzb⟩ := info_split info_File
  have hsz : (Try.prog.info? 80).map (·.size) = some 2 := by rw [hi0]; simp [hzs]
  have hC : C.toList.length = C.size := Array.length_toList
  have hsa : ∃ tA, w.shape? vb = some (tA, V.size) := by obtain ⟨E, fr, h, _⟩ := hV; exact ⟨E, by simp [World.shape?, h]⟩
  have hsb : ∃ tB, w.shape? g = some (tB, C.size) := by obtain ⟨E, fr, h, _⟩ := hR; exact ⟨E, by simp [World.shape?, h]⟩
  have hfv : ∀ q, w.frozen? ⟨vb, q, none⟩ = false := by obtain ⟨E, fr, _, h⟩ := hV; exact fun q => h q (.inr (by decide))
  obtain ⟨tA, hsa⟩ := hsa
  obtain ⟨tB, hsb⟩ := hsb
  have hov : ∀ lb cb, (callFunc 133 #[.slice (some ⟨vb, 0, none⟩) 1 vc, .slice (some ⟨g, (i + 1) * 2, none⟩) lb cb]).run Try.prog w = .ok (.value (.bool false)) w := fun lb cb => by
    rw [run_callFunc_extern Try.func133 (by kernel_rfl) (by kernel_rfl) (by kernel_rfl) (e := Extern.SlicesOverlaps.overlaps #[28, 28] #[4]) (by kernel_rfl),
      Lib.run_overlaps_apart w 28 4 80 hu 2 Try.sizeOf80 ⟨vb, 0, none⟩ ⟨g, (i + 1) * 2, none⟩ 1 vc lb cb hne tA tB V.size C.size hsa hsb (by omega) (hfv 0) (hfv V.size)]
    rfl
  obtain ⟨news, hnews⟩ : ∃ news, news = (C.toList.take (n * 2)).drop (i * 2) := ⟨_, rfl⟩
  have hdl : news.length = (n - i) * 2 := by rw [hnews, List.length_drop, List.length_take]; omega
  have hng : ∀ q, q < news.length → news[q]? = C[i * 2 + q]? := fun q hq => by
    rw [hnews, List.getElem?_drop, List.getElem?_take_of_lt (by omega)]
    simp
  have h1n : ∀ u ∈ news, u.oneCell' = true := fun u hu => by
    obtain ⟨q, hq⟩ := List.getElem?_of_mem hu
    have hlt : q < news.length := (List.getElem?_eq_some_iff.1 hq).1
    rw [hng q hlt] at hq
    exact h1c _ u (by omega) hq
  obtain ⟨C1, hR1, hs1, ho1, hi1⟩ := hR.drew.set ((i + 1) * 2) news
  obtain ⟨C2, hR2, hs2, ho2, hi2⟩ := hR1.set (i * 2) vs
  have hcp1 : ∀ (W : World), W.heap = w.heap → ∀ ty dc sc, (Builtin.copy_ #[28, 28] ty #[.slice (some ⟨g, (i + 1) * 2, none⟩) (n - i) dc, .slice (some ⟨g, i * 2, none⟩) (n + 1 - i) sc]).run Try.prog W = .ok (goInt ((n - i : Nat) : Int)) (W.setCells g ((i + 1) * 2) news) := fun W hW ty dc sc => by
    have hRW : RowC W 2 g C := by obtain ⟨E, fr, h1, h2⟩ := hR; exact ⟨E, fr, by rw [hW]; exact h1, fun q hq => by have := h2 q hq; simpa only [World.frozen?, hW] using this⟩
    have := run_copyC (P := Try.prog) W 28 28 ty 80 2 g ((i + 1) * 2) (n - i) dc ⟨g, i * 2, none⟩ (n + 1 - i) sc news hu hsz (by rw [hdl]; simp only [Nat.min_def]; split <;> omega)
      (fun j u hj => by
        have hlt : j < news.length := (List.getElem?_eq_some_iff.1 hj).1
        rw [Addr.add_lit, hRW.cell, ← hng j hlt]; exact hj)
      (fun q hq => by rw [hRW.cell, Array.getElem?_eq_getElem (by omega)]; rfl) (fun q hq => by obtain ⟨E, fr, _, hf⟩ := hRW; exact hf _ (.inr (by decide))) h1n
    rw [this, show Nat.min (n + 1 - i) (n - i) = n - i by simp only [Nat.min_def]; split <;> omega]
  have hcp2 : ∀ ty dc, (Builtin.copy_ #[28, 28] ty #[.slice (some ⟨g, i * 2, none⟩) (n + 1 - i) dc, .slice (some ⟨vb, 0, none⟩) 1 vc]).run Try.prog (w.drew.setCells g ((i + 1) * 2) news) = .ok (goInt ((1 : Nat) : Int)) ((w.drew.setCells g ((i + 1) * 2) news).setCells g (i * 2) vs) := fun ty dc => by
    have := run_copyC (P := Try.prog) (w.drew.setCells g ((i + 1) * 2) news) 28 28 ty 80 2 g (i * 2) (n + 1 - i) dc ⟨vb, 0, none⟩ 1 vc vs hu hsz (by rw [hvl]; simp only [Nat.min_def]; split <;> omega)
      (fun j u hj => by
        rw [Addr.add_lit, Nat.zero_add, World.cell?_of_block (w := w.drew) (a := ⟨vb, j, none⟩) (heap_setCells_ne g _ _ _ hne), hV.drew.cell]
        exact hvs j u hj)
      (fun q hq => by rw [hR1.cell, Array.getElem?_eq_getElem (by rw [hs1]; omega)]; rfl) (fun q hq => by obtain ⟨E, fr, _, hf⟩ := hR1; exact hf _ (.inr (by decide))) h1v
    rw [this, show Nat.min 1 (n + 1 - i) = 1 by simp only [Nat.min_def]; split <;> omega]
  have FIN : Aside0 (InsR w ((w.drew.setCells g ((i + 1) * 2) news).setCells g (i * 2) vs) 2 g i n C vs g c C2) := ⟨by
    refine ⟨hR2, by omega, hroom, .inl rfl, fun q hq => ?_, fun q hq => ?_, fun q h1 h2 => ?_, fun q _ hq => ?_, ?_, ?_, ?_, ?_⟩
    · rw [ho2 q (.inl hq), ho1 q (.inl (by omega))]
    · exact hi2 q (by omega) (by omega)
    · rw [ho2 _ (.inr (by omega))]
      obtain ⟨d, rfl⟩ : ∃ d, q = i * 2 + d := ⟨q - i * 2, by omega⟩
      rw [show i * 2 + d + 2 = (i + 1) * 2 + d by omega, hi1 d (by omega) (by show _ < C.size; omega), hng d (by omega)]
    · rw [heap_setCells_ne g _ _ _ hq, heap_setCells_ne g _ _ _ hq]; rfl
    · rw [heap_setCells_size, heap_setCells_size]; exact Nat.le_refl _
    · rw [World.os_setCells, World.os_setCells]; rfl
    · rw [tape_setCells, tape_setCells]; rfl
    · rw [World.output_setCells, World.output_setCells]; rfl⟩
  have hz2 : ¬ ((i : Int) = (n : Int)) := by omega
  have hw1 : IntKind.i64.wrap ((i : Int) + 1) = (i : Int) + 1 := by rw [IntKind.wrap_i64]; omega
  have hb1 : (0 : Int) ≤ (i : Int) + 1 := by omega
  have hin' : i ≤ n := by omega
  have htn : ((i : Int) + 1).toNat = i + 1 := by omega
  have hb2 : ¬ (c = i + 1) := by omega
  have hb3 : (i : Int) ≤ (n : Int) + 1 := by omega
  have hb4 : ¬ (c = i) := by omega
  have HC1 := Aside0.mk hcp1
  have HC2 := Aside0.mk hcp2
  clear hcp1 hcp2 hR1 hR2 hs1 hs2 ho1 ho2 hi1 hi2 hsa hsb hfv h1c h1v h1n hng hnews hdl hvs hR hV hC hcap hvl
  go_enter Try.func121, Try.ntmps121
  go_wp2_with (simp only [hov])
  go_region_law (refine step_copy_runI rfl _ _ 28 28 rfl _ _ (by simp [Act.eval, Act.put]) (by simp [Act.eval, Act.put]) (HC1.out w.drew rfl _ (c - (i + 1)) (c - i)) ?_)
  go_wp2_with fail
  rw [HC2.out]
  go_wp2
  go_ret
  exact ⟨g, c, C2, rfl, FIN.out⟩
set_option maxHeartbeats 4000000 in
set_option maxRecDepth 100000 in
theorem insGrow_File (g c i n : Nat) (C : Array Value) (vs : List Value) (vb vc : Nat) (V : Array Value) (w : World) (hR : RowC w 2 g C) (hcap : c * 2 ≤ C.size) (hin : i < n) (hnc : n ≤ c) (hroom : c < n + 1) (hbig : (n + 1) * 32 ≤ 140737488355328)
    (h1c : ∀ q u, q < n * 2 → C[q]? = some u → u.oneCell' = true) (hV : RowC w 2 vb V) (hvs : ∀ (j : Nat) (u : Value), vs[j]? = some u → V[j]? = some u) (hvl : vs.length = 2) (h1v : ∀ u ∈ vs, u.oneCell' = true) :
    Calls Try.prog 121 #[.slice (some ⟨g, 0, none⟩) n c, .int .i64 i, .slice (some ⟨vb, 0, none⟩) 1 vc] w fun e w' => ∃ b' cap' C', e = .returned (.slice (some ⟨b', 0, none⟩) (n + 1) cap') ∧ InsR w w' 2 g i n C vs b' cap' C' := by
  have hu := Try.underlying28
  have hui := Try.underlying3
  obtain ⟨i0, hi0, hz0, hzs, hzb⟩ := info_split info_File
  have hsz : (Try.prog.info? 80).map (·.size) = some 2 := by rw [hi0]; simp [hzs]
  have hC : C.toList.length = C.size := Array.length_toList
  have hgw : g < w.heap.size := hR.lt
  have hvw : vb < w.heap.size := hV.lt
  have hkk : (n : Int) + 1 - (i : Int) = ((n + 1 - i : Nat) : Int) := by omega
  have hik : i + (n + 1 - i) = n + 1 := by omega
  obtain ⟨olds, holds⟩ : ∃ olds, olds = C.toList.take (i * 2) := ⟨_, rfl⟩
  have hol : olds.length = i * 2 := by rw [holds, List.length_take]; omega
  have hog : ∀ q, q < i * 2 → olds[q]? = C[q]? := fun q hq => by rw [holds, List.getElem?_take_of_lt hq]; simp
  have hold : (Builtin.firstCells i0.size i (.slice (some ⟨g, 0, none⟩) i c)).run Try.prog w.drew = .ok olds.toArray w.drew := by
    rw [hzs]
    exact run_firstCells_some w.drew 2 i ⟨g, 0, none⟩ i c olds hol (fun j v hj => by
      have hlt : j < olds.length := (List.getElem?_eq_some_iff.1 hj).1
      rw [hog j (by omega)] at hj
      rw [Addr.add_lit, Nat.zero_add, hR.drew.cell]
      exact hj)
  obtain ⟨G, hG⟩ : ∃ G, G = grownCap w (n + 1) c 80 := ⟨_, rfl⟩
  obtain ⟨ROW, hROW⟩ : ∃ ROW : Array Value, ROW = olds.toArray ++ Builtin.zeroCells (Value.cells (.agg #[(.string ⟨#[]⟩), (.string ⟨#[]⟩)])) (n + 1 - i) ++ Builtin.zeroCells (Value.cells (.agg #[(.string ⟨#[]⟩), (.string ⟨#[]⟩)])) (G - (n + 1)) := ⟨_, rfl⟩
  have hrz : ∀ ty, (Builtin.append_ #[28, 3] ty #[.slice (some ⟨g, 0, none⟩) i c, .int .i64 ((n : Int) + 1 - (i : Int))]).run Try.prog w =
      .ok (.slice (some ⟨w.heap.size, 0, none⟩) (n + 1) G) (w.drew.alloc (.cells ROW 80)) := fun ty => by
    have h := Lib.run_append_grow_zeros w 28 3 ty 80 i0 _ .i64 .i64 hu hui hi0 hz0 (some ⟨g, 0, none⟩) i c olds hold (n + 1 - i) (by omega) (by omega) (by omega) (by omega) (by rw [hzb]; omega) (by rw [hzb, hik]; exact growslice_fits hroom hbig)
    rw [hik] at h
    rw [hkk, hROW, hG]
    exact h
  have hGn : n + 1 ≤ G := by rw [hG]; exact grownCap_ge w _ _ _
  have hRl : ROW.size = G * 2 := by
    rw [hROW]
    simp [Builtin.zeroCells, Value.cells, hol]
    omega
  obtain ⟨W0, hW0⟩ : ∃ W0, W0 = (w.alloc (.cells ROW 80)).drew := ⟨_, rfl⟩
  have hN0 : RowC W0 2 w.heap.size ROW := ⟨80, (0, 0), by rw [hW0]; show (w.heap.push (.cells ROW 80))[w.heap.size]? = _; simp, fun q _ => by
    have : W0.heap[w.heap.size]? = some (.cells ROW 80 (0, 0)) := by rw [hW0]; show (w.heap.push (.cells ROW 80))[w.heap.size]? = _; simp
    simp [World.frozen?, this]⟩
  have hold0 : ∀ q, q < w.heap.size → W0.heap[q]? = w.heap[q]? := fun q hq => by rw [hW0]; exact heap_alloc_old w _ hq
  have hgN : RowC W0 2 g C := by obtain ⟨E, fr, h1, h2⟩ := hR; exact ⟨E, fr, (hold0 g hgw).trans h1, fun q hq => by have := h2 q hq; simpa only [World.frozen?, hold0 g hgw] using this⟩
  have hvN : RowC W0 2 vb V := by obtain ⟨E, fr, h1, h2⟩ := hV; exact ⟨E, fr, (hold0 vb hvw).trans h1, fun q hq => by have := h2 q hq; simpa only [World.frozen?, hold0 vb hvw] using this⟩
  obtain ⟨news, hnews⟩ : ∃ news, news = (C.toList.take (n * 2)).drop (i * 2) := ⟨_, rfl⟩
  have hdl : news.length = (n - i) * 2 := by rw [hnews, List.length_drop, List.length_take]; omega
  have hng : ∀ q, q < news.length → news[q]? = C[i * 2 + q]? := fun q hq => by
    rw [hnews, List.getElem?_drop, List.getElem?_take_of_lt (by omega)]
    simp
  have h1n : ∀ u ∈ news, u.oneCell' = true := fun u hu => by
    obtain ⟨q, hq⟩ := List.getElem?_of_mem hu
    have hlt : q < news.length := (List.getElem?_eq_some_iff.1 hq).1
    rw [hng q hlt] at hq
    exact h1c _ u (by omega) hq
  have hR0g : ∀ q, q < i * 2 → ROW[q]? = C[q]? := fun q hq => by
    rw [← hog q hq, hROW]
    simp only [Array.append_assoc]
    rw [Array.getElem?_append_left (by simp [hol]; omega)]
    simp
  obtain ⟨C1, hR1, hs1, ho1, hi1⟩ := hN0.set (i * 2) vs
  obtain ⟨C2, hR2, hs2, ho2, hi2⟩ := hR1.drew.set ((i + 1) * 2) news
  have hcp1 : ∀ ty dc, (Builtin.copy_ #[28, 28] ty #[.slice (some ⟨w.heap.size, i * 2, none⟩) (n + 1 - i) dc, .slice (some ⟨vb, 0, none⟩) 1 vc]).run Try.prog W0 = .ok (goInt ((1 : Nat) : Int)) (W0.setCells w.heap.size (i * 2) vs) := fun ty dc => by
    have := run_copyC (P := Try.prog) W0 28 28 ty 80 2 w.heap.size (i * 2) (n + 1 - i) dc ⟨vb, 0, none⟩ 1 vc vs hu hsz (by rw [hvl]; simp only [Nat.min_def]; split <;> omega)
      (fun j u hj => by
        rw [Addr.add_lit, Nat.zero_add, hvN.cell]
        exact hvs j u hj)
      (fun q hq => by rw [hN0.cell, Array.getElem?_eq_getElem (by rw [hRl]; omega)]; rfl) (fun q hq => by obtain ⟨E, fr, _, hf⟩ := hN0; exact hf _ (.inr (by decide))) h1v
    rw [this, show Nat.min 1 (n + 1 - i) = 1 by simp only [Nat.min_def]; split <;> omega]
  have hcp2 : ∀ ty dc sc, (Builtin.copy_ #[28, 28] ty #[.slice (some ⟨w.heap.size, (i + 1) * 2, none⟩) (n - i) dc, .slice (some ⟨g, i * 2, none⟩) (n - i) sc]).run Try.prog (W0.setCells w.heap.size (i * 2) vs).drew = .ok (goInt ((n - i : Nat) : Int)) ((W0.setCells w.heap.size (i * 2) vs).drew.setCells w.heap.size ((i + 1) * 2) news) := fun ty dc sc => by
    have := run_copyC (P := Try.prog) (W0.setCells w.heap.size (i * 2) vs).drew 28 28 ty 80 2 w.heap.size ((i + 1) * 2) (n - i) dc ⟨g, i * 2, none⟩ (n - i) sc news hu hsz (by rw [hdl]; simp only [Nat.min_def]; split <;> omega)
      (fun j u hj => by
        have hlt : j < news.length := (List.getElem?_eq_some_iff.1 hj).1
        rw [Addr.add_lit]
        show (W0.setCells w.heap.size (i * 2) vs).cell? _ = _
        rw [World.cell?_of_block (w := W0) (a := ⟨g, i * 2 + j, none⟩) (heap_setCells_ne w.heap.size _ _ _ (by show g ≠ _; omega)), hgN.cell, ← hng j hlt]
        exact hj)
      (fun q hq => by rw [hR1.drew.cell, Array.getElem?_eq_getElem (by rw [hs1, hRl]; omega)]; rfl) (fun q hq => by obtain ⟨E, fr, _, hf⟩ := hR1.drew; exact hf _ (.inr (by decide))) h1n
    rw [this, show Nat.min (n - i) (n - i) = n - i by simp only [Nat.min_def]; split <;> omega]
  have FIN : Aside0 (InsR w ((W0.setCells w.heap.size (i * 2) vs).drew.setCells w.heap.size ((i + 1) * 2) news) 2 g i n C vs w.heap.size G C2) := ⟨by
    refine ⟨hR2, by omega, hGn, .inr (Nat.le_refl _), fun q hq => ?_, fun q hq => ?_, fun q h1 h2 => ?_, fun q hlt hq => ?_, ?_, ?_, ?_, ?_⟩
    · rw [ho2 q (.inl (by omega)), ho1 q (.inl hq), hR0g q hq]
    · rw [ho2 _ (.inl (by omega))]
      exact hi1 q (by omega) (by omega)
    · obtain ⟨d, rfl⟩ : ∃ d, q = i * 2 + d := ⟨q - i * 2, by omega⟩
      rw [show i * 2 + d + 2 = (i + 1) * 2 + d by omega, hi2 d (by omega) (by omega), hng d (by omega)]
    · rw [heap_setCells_ne _ _ _ _ (by omega)]
      show (W0.setCells _ _ _).heap[q]? = _
      rw [heap_setCells_ne _ _ _ _ (by omega)]
      exact hold0 q hlt
    · rw [heap_setCells_size]
      show _ ≤ (W0.setCells _ _ _).heap.size
      rw [heap_setCells_size, hW0]
      show _ ≤ (w.alloc _).heap.size
      simp [World.alloc_eq]
    · rw [World.os_setCells]
      show (W0.setCells _ _ _).os = _
      rw [World.os_setCells, hW0]; rfl
    · rw [tape_setCells]
      show (W0.setCells _ _ _).tape = _
      rw [tape_setCells, hW0]; rfl
    · rw [World.output_setCells]
      show (W0.setCells _ _ _).output = _
      rw [World.output_setCells, hW0]; rfl⟩
  have hz2 : ¬ ((i : Int) = (n : Int)) := by omega
  have hz3 : (c : Int) < (n : Int) + 1 := by omega
  have hw1 : IntKind.i64.wrap ((i : Int) + 1) = (i : Int) + 1 := by rw [IntKind.wrap_i64]; omega
  have hb1 : (0 : Int) ≤ (i : Int) + 1 := by omega
  have hin' : i ≤ n := by omega
  have htn : ((i : Int) + 1).toNat = i + 1 := by omega
  have hGi : ¬ (G = i) := by omega
  have hGim : ¬ (G = i + 1) := by omega
  have hci : ¬ (c = i) := by omega
  have hb3 : (i : Int) ≤ (n : Int) := by omega
  have hn63 : n ≤ 4611686018427387904 := by omega
  have HC1 := Aside0.mk hcp1
  have HC2 := Aside0.mk hcp2
  have HW := Aside0.mk hW0
  clear hcp1 hcp2 hR1 hR2 hs1 hs2 ho1 ho2 hi1 hi2 h1c h1v h1n hng hnews hdl hvs hR hV hC hcap hvl hR0g hN0 hold0 hgN hvN hRl hROW hG hold hog hol holds hkk hik hgw hvw hW0
  go_enter Try.func121, Try.ntmps121
  go_wp2_with (at_builtin; refine Lib.wpList_append_run _ rfl _ _ _ _ rfl _ _ rfl rfl _ _ (hrz _) ?_)
  rw [← HW.out, HC1.out]
  go_wp2
  go_region_law (refine step_copy_runI rfl _ _ 28 28 rfl _ _ (by simp [Act.eval, Act.put]) (by simp [Act.eval, Act.put]) (HC2.out _ (G - (i + 1)) (c - i)) ?_)
  go_wp2
  go_ret
  exact ⟨_, _, _, rfl, FIN.out⟩

theorem cmpW (a b : ByteArray) (w : World) : Calls Try.prog 132 #[.string a, .string b] w fun e w' => e = .returned (.int .i64 (cmpS a b)) ∧ w' = w := by
  have hx : (callFunc 140 #[.string a, .string b]).run Try.prog w = .ok (.value (.int .i64 (cmpS a b))) w := by
    rw [run_callFunc_extern Try.func140 (by kernel_rfl) (by kernel_rfl) (by kernel_rfl) (e := Extern.BytealgCompare.compare) (by kernel_rfl), Lib.run_compareString]
    rfl
  go_enter Try.func132, Try.ntmps132
  go_wp2_with (simp only [hx])
  go_ret
  exact ⟨rfl, rfl⟩

end Go.Proofs.Ytfjoamlgbegpgaa.P
namespace Go.Proofs.Ytfjoamlgbegpgaa.P
open Go Go.Proofs.Ytfjoamlgbegpgaa.PM Go.Proofs Go.RowKit
theorem info_DOp : (Try.prog.info? 73).map (fun i => (i.zero, i.size, i.bytes)) = some (some (.agg #[(.int .i64 0), (.string ⟨#[]⟩), (.string ⟨#[]⟩), (.string ⟨#[]⟩)]), 4, 56) := by kernel_rfl

set_option maxHeartbeats 4000000 in
set_option maxRecDepth 100000 in
theorem insRoom_DOp (g c i n : Nat) (C : Array Value) (vs : List Value) (vb vc : Nat) (V : Array Value) (w : World) (hR : RowC w 4 g C) (hcap : c * 4 ≤ C.size) (hin : i < n) (hroom : n + 1 ≤ c) (hbig : (n + 1) * 56 ≤ 140737488355328)
    (h1c : ∀ q u, q < n * 4 → C[q]? = some u → u.oneCell' = true) (hV : RowC w 4 vb V) (hvs : ∀ (j : Nat) (u : Value), vs[j]? = some u → V[j]? = some u) (hvl : vs.length = 4) (h1v : ∀ u ∈ vs, u.oneCell' = true) (hne : vb ≠ g) :
    Calls Try.prog 103 #[.slice (some ⟨g, 0, none⟩) n c, .int .i64 i, .slice (some ⟨vb, 0, none⟩) 1 vc] w fun e w' => ∃ b' cap' C', e = .returned (.slice (some ⟨b', 0, none⟩) (n + 1) cap') ∧ InsR w w' 4 g i n C vs b' cap' C' := by
  have hu := Try.underlying29
  obtain ⟨i0, hi0, hz0, hzs, hzb⟩ := info_split info_DOp
  have hsz : (Try.prog.info? 73).map (·.size) = some 4 := by rw [hi0]; simp [hzs]
  have hC : C.toList.length = C.size := Array.length_toList
  have hsa : ∃ tA, w.shape? vb = some (tA, V.size) := by obtain ⟨E, fr, h, _⟩ := hV; exact ⟨E, by simp [World.shape?, h]⟩
  have hsb : ∃ tB, w.shape? g = some (tB, C.size) := by obtain ⟨E, fr, h, _⟩ := hR; exact ⟨E, by simp [World.shape?, h]⟩
  have hfv : ∀ q, w.frozen? ⟨vb, q, none⟩ = false := by obtain ⟨E, fr, _, h⟩ := hV; exact fun q => h q (.inr (by decide))
  obtain ⟨tA, hsa⟩ := hsa
  obtain ⟨tB, hsb⟩ := hsb
  have hov : ∀ lb cb, (callFunc 122 #[.slice (some ⟨vb, 0, none⟩) 1 vc, .slice (some ⟨g, (i + 1) * 4, none⟩) lb cb]).run Try.prog w = .ok (.value (.bool false)) w := fun lb cb => by
    rw [run_callFunc_extern Try.func122 (by kernel_rfl) (by kernel_rfl) (by kernel_rfl) (e := Extern.SlicesOverlaps.overlaps #[29, 29] #[4]) (by kernel_rfl),
      Lib.run_overlaps_apart w 29 4 73 hu 4 Try.sizeOf73 ⟨vb, 0, none⟩ ⟨g, (i + 1) * 4, none⟩ 1 vc lb cb hne tA tB V.size C.size hsa hsb (by omega) (hfv 0) (hfv V.size)]
    rfl
  obtain ⟨news, hnews⟩ : ∃ news, news = (C.toList.take (n * 4)).drop (i * 4) := ⟨_, rfl⟩
  have hdl : news.length = (n - i) * 4 := by rw [hnews, List.length_drop, List.length_take]; omega
  have hng : ∀ q, q < news.length → news[q]? = C[i * 4 + q]? := fun q hq => by
    rw [hnews, List.getElem?_drop, List.getElem?_take_of_lt (by omega)]
    simp
  have h1n : ∀ u ∈ news, u.oneCell' = true := fun u hu => by
    obtain ⟨q, hq⟩ := List.getElem?_of_mem hu
    have hlt : q < news.length := (List.getElem?_eq_some_iff.1 hq).1
    rw [hng q hlt] at hq
    exact h1c _ u (by omega) hq
  obtain ⟨C1, hR1, hs1, ho1, hi1⟩ := hR.drew.set ((i + 1) * 4) news
  obtain ⟨C2, hR2, hs2, ho2, hi2⟩ := hR1.set (i * 4) vs
  have hcp1 : ∀ (W : World), W.heap = w.heap → ∀ ty dc sc, (Builtin.copy_ #[29, 29] ty #[.slice (some ⟨g, (i + 1) * 4, none⟩) (n - i) dc, .slice (some ⟨g, i * 4, none⟩) (n + 1 - i) sc]).run Try.prog W = .ok (goInt ((n - i : Nat) : Int)) (W.setCells g ((i + 1) * 4) news) := fun W hW ty dc sc => by
    have hRW : RowC W 4 g C := by obtain ⟨E, fr, h1, h2⟩ := hR; exact ⟨E, fr, by rw [hW]; exact h1, fun q hq => by have := h2 q hq; simpa only [World.frozen?, hW] using this⟩
    have := run_copyC (P := Try.prog) W 29 29 ty 73 4 g ((i + 1) * 4) (n - i) dc ⟨g, i * 4, none⟩ (n + 1 - i) sc news hu hsz (by rw [hdl]; simp only [Nat.min_def]; split <;> omega)
      (fun j u hj => by
        have hlt : j < news.length := (List.getElem?_eq_some_iff.1 hj).1
        rw [Addr.add_lit, hRW.cell, ← hng j hlt]; exact hj)
      (fun q hq => by rw [hRW.cell, Array.getElem?_eq_getElem (by omega)]; rfl) (fun q hq => by obtain ⟨E, fr, _, hf⟩ := hRW; exact hf _ (.inr (by decide))) h1n
    rw [this, show Nat.min (n + 1 - i) (n - i) = n - i by simp only [Nat.min_def]; split <;> omega]
  have hcp2 : ∀ ty dc, (Builtin.copy_ #[29, 29] ty #[.slice (some ⟨g, i * 4, none⟩) (n + 1 - i) dc, .slice (some ⟨vb, 0, none⟩) 1 vc]).run Try.prog (w.drew.setCells g ((i + 1) * 4) news) = .ok (goInt ((1 : Nat) : Int)) ((w.drew.setCells g ((i + 1) * 4) news).setCells g (i * 4) vs) := fun ty dc => by
    have := run_copyC (P := Try.prog) (w.drew.setCells g ((i + 1) * 4) news) 29 29 ty 73 4 g (i * 4) (n + 1 - i) dc ⟨vb, 0, none⟩ 1 vc vs hu hsz (by rw [hvl]; simp only [Nat.min_def]; split <;> omega)
      (fun j u hj => by
        rw [Addr.add_lit, Nat.zero_add, World.cell?_of_block (w := w.drew) (a := ⟨vb, j, none⟩) (heap_setCells_ne g _ _ _ hne), hV.drew.cell]
        exact hvs j u hj)
      (fun q hq => by rw [hR1.cell, Array.getElem?_eq_getElem (by rw [hs1]; omega)]; rfl) (fun q hq => by obtain ⟨E, fr, _, hf⟩ := hR1; exact hf _ (.inr (by decide))) h1v
    rw [this, show Nat.min 1 (n + 1 - i) = 1 by simp only [Nat.min_def]; split <;> omega]
  have FIN : Aside0 (InsR w ((w.drew.setCells g ((i + 1) * 4) news).setCells g (i * 4) vs) 4 g i n C vs g c C2) := ⟨by
    refine ⟨hR2, by omega, hroom, .inl rfl, fun q hq => ?_, fun q hq => ?_, fun q h1 h2 => ?_, fun q _ hq => ?_, ?_, ?_, ?_, ?_⟩
    · rw [ho2 q (.inl hq), ho1 q (.inl (by omega))]
    · exact hi2 q (by omega) (by omega)
    · rw [ho2 _ (.inr (by omega))]
      obtain ⟨d, rfl⟩ : ∃ d, q = i * 4 + d := ⟨q - i * 4, by omega⟩
      rw [show i * 4 + d + 4 = (i + 1) * 4 + d by omega, hi1 d (by omega) (by show _ < C.size; omega), hng d (by omega)]
    · rw [heap_setCells_ne g _ _ _ hq, heap_setCells_ne g _ _ _ hq]; rfl
    · rw [heap_setCells_size, heap_setCells_size]; exact Nat.le_refl _
    · rw [World.os_setCells, World.os_setCells]; rfl
    · rw [tape_setCells, tape_setCells]; rfl
    · rw [World.output_setCells, World.output_setCells]; rfl⟩
  have hz2 : ¬ ((i : Int) = (n : Int)) := by omega
  have hw1 : IntKind.i64.wrap ((i : Int) + 1) = (i : Int) + 1 := by rw [IntKind.wrap_i64]; omega
  have hb1 : (0 : Int) ≤ (i : Int) + 1 := by omega
  have hin' : i ≤ n := by omega
  have htn : ((i : Int) + 1).toNat = i + 1 := by omega
  have hb2 : ¬ (c = i + 1) := by omega
  have hb3 : (i : Int) ≤ (n : Int) + 1 := by omega
  have hb4 : ¬ (c = i) := by omega
  have HC1 := Aside0.mk hcp1
  have HC2 := Aside0.mk hcp2
  clear hcp1 hcp2 hR1 hR2 hs1 hs2 ho1 ho2 hi1 hi2 hsa hsb hfv h1c h1v h1n hng hnews hdl hvs hR hV hC hcap hvl
  go_enter Try.func103, Try.ntmps103
  go_wp2_with (simp only [hov])
  go_region_law (refine step_copy_runI rfl _ _ 29 29 rfl _ _ (by simp [Act.eval, Act.put]) (by simp [Act.eval, Act.put]) (HC1.out w.drew rfl _ (c - (i + 1)) (c - i)) ?_)
  go_wp2_with fail
  rw [HC2.out]
  go_wp2
  go_ret
  exact ⟨g, c, C2, rfl, FIN.out⟩
set_option maxHeartbeats 4000000 in
set_option maxRecDepth 100000 in
theorem insGrow_DOp (g c i n : Nat) (C : Array Value) (vs : List Value) (vb vc : Nat) (V : Array Value) (w : World) (hR : RowC w 4 g C) (hcap : c * 4 ≤ C.size) (hin : i < n) (hnc : n ≤ c) (hroom : c < n + 1) (hbig : (n + 1) * 56 ≤ 140737488355328)
    (h1c : ∀ q u, q < n * 4 → C[q]? = some u → u.oneCell' = true) (hV : RowC w 4 vb V) (hvs : ∀ (j : Nat) (u : Value), vs[j]? = some u → V[j]? = some u) (hvl : vs.length = 4) (h1v : ∀ u ∈ vs, u.oneCell' = true) :
    Calls Try.prog 103 #[.slice (some ⟨g, 0, none⟩) n c, .int .i64 i, .slice (some ⟨vb, 0, none⟩) 1 vc] w fun e w' => ∃ b' cap' C', e = .returned (.slice (some ⟨b', 0, none⟩) (n + 1) cap') ∧ InsR w w' 4 g i n C vs b' cap' C' := by
  have hu := Try.underlying29
  have hui := Try.underlying3
  obtain ⟨i0, hi0, hz0, hzs, hzb⟩ := info_split info_DOp
  have hsz : (Try.prog.info? 73).map (·.size) = some 4 := by rw [hi0]; simp [hzs]
  have hC : C.toList.length = C.size := Array.length_toList
  have hgw : g < w.heap.size := hR.lt
  have hvw : vb < w.heap.size := hV.lt
  have hkk : (n : Int) + 1 - (i : Int) = ((n + 1 - i : Nat) : Int) := by omega
  have hik : i + (n + 1 - i) = n + 1 := by omega
  obtain ⟨olds, holds⟩ : ∃ olds, olds = C.toList.take (i * 4) := ⟨_, rfl⟩
  have hol : olds.length = i * 4 := by rw [holds, List.length_take]; omega
  have hog : ∀ q, q < i * 4 → olds[q]? = C[q]? := fun q hq => by rw [holds, List.getElem?_take_of_lt hq]; simp
  have hold : (Builtin.firstCells i0.size i (.slice (some ⟨g, 0, none⟩) i c)).run Try.prog w.drew = .ok olds.toArray w.drew := by
    rw [hzs]
    exact run_firstCells_some w.drew 4 i ⟨g, 0, none⟩ i c olds hol (fun j v hj => by
      have hlt : j < olds.length := (List.getElem?_eq_some_iff.1 hj).1
      rw [hog j (by omega)] at hj
      rw [Addr.add_lit, Nat.zero_add, hR.drew.cell]
      exact hj)
  obtain ⟨G, hG⟩ : ∃ G, G = grownCap w (n + 1) c 73 := ⟨_, rfl⟩
  obtain ⟨ROW, hROW⟩ : ∃ ROW : Array Value, ROW = olds.toArray ++ Builtin.zeroCells (Value.cells (.agg #[(.int .i64 0), (.string ⟨#[]⟩), (.string ⟨#[]⟩), (.string ⟨#[]⟩)])) (n + 1 - i) ++ Builtin.zeroCells (Value.cells (.agg #[(.int .i64 0), (.string ⟨#[]⟩), (.string ⟨#[]⟩), (.string ⟨#[]⟩)])) (G - (n + 1)) := ⟨_, rfl⟩
  have hrz : ∀ ty, (Builtin.append_ #[29, 3] ty #[.slice (some ⟨g, 0, none⟩) i c, .int .i64 ((n : Int) + 1 - (i : Int))]).run Try.prog w =
      .ok (.slice (some ⟨w.heap.size, 0, none⟩) (n + 1) G) (w.drew.alloc (.cells ROW 73)) := fun ty => by
    have h := Lib.run_append_grow_zeros w 29 3 ty 73 i0 _ .i64 .i64 hu hui hi0 hz0 (some ⟨g, 0, none⟩) i c olds hold (n + 1 - i) (by omega) (by omega) (by omega) (by omega) (by rw [hzb]; omega) (by rw [hzb, hik]; exact growslice_fits hroom hbig)
    rw [hik] at h
    rw [hkk, hROW, hG]
    exact h
  have hGn : n + 1 ≤ G := by rw [hG]; exact grownCap_ge w _ _ _
  have hRl : ROW.size = G * 4 := by
    rw [hROW]
    simp [Builtin.zeroCells, Value.cells, hol]
    omega
  obtain ⟨W0, hW0⟩ : ∃ W0, W0 = (w.alloc (.cells ROW 73)).drew := ⟨_, rfl⟩
  have hN0 : RowC W0 4 w.heap.size ROW := ⟨73, (0, 0), by rw [hW0]; show (w.heap.push (.cells ROW 73))[w.heap.size]? = _; simp, fun q _ => by
    have : W0.heap[w.heap.size]? = some (.cells ROW 73 (0, 0)) := by rw [hW0]; show (w.heap.push (.cells ROW 73))[w.heap.size]? = _; simp
    simp [World.frozen?, this]⟩
  have hold0 : ∀ q, q < w.heap.size → W0.heap[q]? = w.heap[q]? := fun q hq => by rw [hW0]; exact heap_alloc_old w _ hq
  have hgN : RowC W0 4 g C := by obtain ⟨E, fr, h1, h2⟩ := hR; exact ⟨E, fr, (hold0 g hgw).trans h1, fun q hq => by have := h2 q hq; simpa only [World.frozen?, hold0 g hgw] using this⟩
  have hvN : RowC W0 4 vb V := by obtain ⟨E, fr, h1, h2⟩ := hV; exact ⟨E, fr, (hold0 vb hvw).trans h1, fun q hq => by have := h2 q hq; simpa only [World.frozen?, hold0 vb hvw] using this⟩
  obtain ⟨news, hnews⟩ : ∃ news, news = (C.toList.take (n * 4)).drop (i * 4) := ⟨_, rfl⟩
  have hdl : news.length = (n - i) * 4 := by rw [hnews, List.length_drop, List.length_take]; omega
  have hng : ∀ q, q < news.length → news[q]? = C[i * 4 + q]? := fun q hq => by
    rw [hnews, List.getElem?_drop, List.getElem?_take_of_lt (by omega)]
    simp
  have h1n : ∀ u ∈ news, u.oneCell' = true := fun u hu => by
    obtain ⟨q, hq⟩ := List.getElem?_of_mem hu
    have hlt : q < news.length := (List.getElem?_eq_some_iff.1 hq).1
    rw [hng q hlt] at hq
    exact h1c _ u (by omega) hq
  have hR0g : ∀ q, q < i * 4 → ROW[q]? = C[q]? := fun q hq => by
    rw [← hog q hq, hROW]
    simp only [Array.append_assoc]
    rw [Array.getElem?_append_left (by simp [hol]; omega)]
    simp
  obtain ⟨C1, hR1, hs1, ho1, hi1⟩ := hN0.set (i * 4) vs
  obtain ⟨C2, hR2, hs2, ho2, hi2⟩ := hR1.drew.set ((i + 1) * 4) news
  have hcp1 : ∀ ty dc, (Builtin.copy_ #[29, 29] ty #[.slice (some ⟨w.heap.size, i * 4, none⟩) (n + 1 - i) dc, .slice (some ⟨vb, 0, none⟩) 1 vc]).run Try.prog W0 = .ok (goInt ((1 : Nat) : Int)) (W0.setCells w.heap.size (i * 4) vs) := fun ty dc => by
    have := run_copyC (P := Try.prog) W0 29 29 ty 73 4 w.heap.size (i * 4) (n + 1 - i) dc ⟨vb, 0, none⟩ 1 vc vs hu hsz (by rw [hvl]; simp only [Nat.min_def]; split <;> omega)
      (fun j u hj => by
        rw [Addr.add_lit, Nat.zero_add, hvN.cell]
        exact hvs j u hj)
      (fun q hq => by rw [hN0.cell, Array.getElem?_eq_getElem (by rw [hRl]; omega)]; rfl) (fun q hq => by obtain ⟨E, fr, _, hf⟩ := hN0; exact hf _ (.inr (by decide))) h1v
    rw [this, show Nat.min 1 (n + 1 - i) = 1 by simp only [Nat.min_def]; split <;> omega]
  have hcp2 : ∀ ty dc sc, (Builtin.copy_ #[29, 29] ty #[.slice (some ⟨w.heap.size, (i + 1) * 4, none⟩) (n - i) dc, .slice (some ⟨g, i * 4, none⟩) (n - i) sc]).run Try.prog (W0.setCells w.heap.size (i * 4) vs).drew = .ok (goInt ((n - i : Nat) : Int)) ((W0.setCells w.heap.size (i * 4) vs).drew.setCells w.heap.size ((i + 1) * 4) news) := fun ty dc sc => by
    have := run_copyC (P := Try.prog) (W0.setCells w.heap.size (i * 4) vs).drew 29 29 ty 73 4 w.heap.size ((i + 1) * 4) (n - i) dc ⟨g, i * 4, none⟩ (n - i) sc news hu hsz (by rw [hdl]; simp only [Nat.min_def]; split <;> omega)
      (fun j u hj => by
        have hlt : j < news.length := (List.getElem?_eq_some_iff.1 hj).1
        rw [Addr.add_lit]
        show (W0.setCells w.heap.size (i * 4) vs).cell? _ = _
        rw [World.cell?_of_block (w := W0) (a := ⟨g, i * 4 + j, none⟩) (heap_setCells_ne w.heap.size _ _ _ (by show g ≠ _; omega)), hgN.cell, ← hng j hlt]
        exact hj)
      (fun q hq => by rw [hR1.drew.cell, Array.getElem?_eq_getElem (by rw [hs1, hRl]; omega)]; rfl) (fun q hq => by obtain ⟨E, fr, _, hf⟩ := hR1.drew; exact hf _ (.inr (by decide))) h1n
    rw [this, show Nat.min (n - i) (n - i) = n - i by simp only [Nat.min_def]; split <;> omega]
  have FIN : Aside0 (InsR w ((W0.setCells w.heap.size (i * 4) vs).drew.setCells w.heap.size ((i + 1) * 4) news) 4 g i n C vs w.heap.size G C2) := ⟨by
    refine ⟨hR2, by omega, hGn, .inr (Nat.le_refl _), fun q hq => ?_, fun q hq => ?_, fun q h1 h2 => ?_, fun q hlt hq => ?_, ?_, ?_, ?_, ?_⟩
    · rw [ho2 q (.inl (by omega)), ho1 q (.inl hq), hR0g q hq]
    · rw [ho2 _ (.inl (by omega))]
      exact hi1 q (by omega) (by omega)
    · obtain ⟨d, rfl⟩ : ∃ d, q = i * 4 + d := ⟨q - i * 4, by omega⟩
      rw [show i * 4 + d + 4 = (i + 1) * 4 + d by omega, hi2 d (by omega) (by omega), hng d (by omega)]
    · rw [heap_setCells_ne _ _ _ _ (by omega)]
      show (W0.setCells _ _ _).heap[q]? = _
      rw [heap_setCells_ne _ _ _ _ (by omega)]
      exact hold0 q hlt
    · rw [heap_setCells_size]
      show _ ≤ (W0.setCells _ _ _).heap.size
      rw [heap_setCells_size, hW0]
      show _ ≤ (w.alloc _).heap.size
      simp [World.alloc_eq]
    · rw [World.os_setCells]
      show (W0.setCells _ _ _).os = _
      rw [World.os_setCells, hW0]; rfl
    · rw [tape_setCells]
      show (W0.setCells _ _ _).tape = _
      rw [tape_setCells, hW0]; rfl
    · rw [World.output_setCells]
      show (W0.setCells _ _ _).output = _
      rw [World.output_setCells, hW0]; rfl⟩
  have hz2 : ¬ ((i : Int) = (n : Int)) := by omega
  have hz3 : (c : Int) < (n : Int) + 1 := by omega
  have hw1 : IntKind.i64.wrap ((i : Int) + 1) = (i : Int) + 1 := by rw [IntKind.wrap_i64]; omega
  have hb1 : (0 : Int) ≤ (i : Int) + 1 := by omega
  have hin' : i ≤ n := by omega
  have htn : ((i : Int) + 1).toNat = i + 1 := by omega
  have hGi : ¬ (G = i) := by omega
  have hGim : ¬ (G = i + 1) := by omega
  have hci : ¬ (c = i) := by omega
  have hb3 : (i : Int) ≤ (n : Int) := by omega
  have hn63 : n ≤ 4611686018427387904 := by omega
  have HC1 := Aside0.mk hcp1
  have HC2 := Aside0.mk hcp2
  have HW := Aside0.mk hW0
  clear hcp1 hcp2 hR1 hR2 hs1 hs2 ho1 ho2 hi1 hi2 h1c h1v h1n hng hnews hdl hvs hR hV hC hcap hvl hR0g hN0 hold0 hgN hvN hRl hROW hG hold hog hol holds hkk hik hgw hvw hW0
  go_enter Try.func103, Try.ntmps103
  go_wp2_with (at_builtin; refine Lib.wpList_append_run _ rfl _ _ _ _ rfl _ _ rfl rfl _ _ (hrz _) ?_)
  rw [← HW.out, HC1.out]
  go_wp2
  go_region_law (refine step_copy_runI rfl _ _ 29 29 rfl _ _ (by simp [Act.eval, Act.put]) (by simp [Act.eval, Act.put]) (HC2.out _ (G - (i + 1)) (c - i)) ?_)
  go_wp2
  go_ret
  exact ⟨_, _, _, rfl, FIN.out⟩

end Go.Proofs.Ytfjoamlgbegpgaa.P
namespace Go.Proofs.Ytfjoamlgbegpgaa.P
open Go Go.Proofs.Ytfjoamlgbegpgaa.PM Go.Proofs
attribute [local simp] execK_seq execK_region execK_ret execK_skip execK_exit execK_block execK_cond condK_bool seqK_normal seqK_ret seqK_exit blockK_normal blockK_ret blockK_exit giveK_normal giveK_ret regionK clearK_none clearK_some normR_mk normR_def freshR fresh1 nextK_normal nextK_ret nextK_exit
  regionR runOps stepR wantR opR evalT lift lift1 Rd.run Rd.run_bind wrOk putT putAll putIn lookIn guardR Rd.ofOption obj buildSliceR mapR close close1 view1 plainB T.width T.cells room appendR strR newsR elemsR setAll most Ob.kill Ob.gone pure findK FCert.predsOf logsR Log.bare meets
  loadR storeR takeCells closeIf cellT splice T.withCells buildR fillR chk undT giveR resR outAll outOne outCell outCells outMany reachN refs refs1 posIn srcN validB mapV mapA mapC mapOb pickTmps lenR sliceR bound hiB loB makeSliceR copyR
  ev_add ev_sub ev_mul ev_quo ev_rem ev_sadd ev_eql ev_neq ev_lss ev_leq ev_gtr ev_geq ev_seql ev_sneq ev_slss ev_sleq ev_sgtr ev_sgeq ev_not ev_neg ev_unxor ev_conv scOf bsize_mk bytesOf bytesOf_map bytesOf_append eqSc eqFs strOf ev_min ev_and ev_or ev_xor ev_andNot ev_shl ev_shr indexAddrR intOf callR passAll passT pass1 reach passOb backN backS noSrc flatL verOf at_map byteAt_eq wid_append wid_nil wid_cons List.take_of_length_le wStr w_i64 w_u8 eStr eBool e_i64 e_u8 List.range_succ bytesL
  sz2 ag2 by2 ze2 sz3 ag3 by3 ze3 sz4 ag4 by4 ze4 sz5 ag5 by5 ze5 sz9 ag9 by9 ze9 sz22 ag22 by22 ze22 el22 sz23 ag23 by23 ze23 el23 sz25 ag25 by25 ze25 fs25 sz28 ag28 by28 ze28 el28 sz29 ag29 by29 ze29 el29 sz31 ag31 by31 ze31 fs31 sz38 ag38 by38 ze38 el38 sz40 ag40 by40 ze40 el40 sz51 ag51 by51 ze51 sz58 ag58 by58 ze58 el58 sz60 ag60 by60 ze60 fs60 sz73 ag73 by73 ze73 fs73 sz80 ag80 by80 ze80 fs80 sz81 ag81 by81 sz89 ag89 by89 ze89 el89 sz104 ag104 by104 ze104 fs104 sz106 ag106 by106 ze106 fs106 sz108 ag108 by108 ze108 fs108 sz120 ag120 by120 ze120 fs120 sz128 ag128 by128 ze128 el128 sz136 ag136 by136 ze136 fs136 sz141 ag141 by141 ze141 fs141 sz143 ag143 by143 ze143 sz145 ag145 by145 ze145 ck2 ck3 ck4 ck9 ck28 ck29 ck31 ck38 ck40 ck58 ck60 ck73 ck80 ck81 ck104 ck128 ck136 ck143 ck145 eq80 ft25_0 ft25_1 ft25_2 ft31_0 ft31_1 ft31_2 ft60_0 ft60_1 ft60_2 ft73_0 ft73_1 ft73_2 ft73_3 ft80_0 ft80_1 ft104_0 ft104_1 ft106_0 ft106_1 ft108_0 ft108_1 ft108_2 ft108_3 ft120_0 ft120_1 ft136_0 ft136_1 ft136_2 Try.underlying2 Try.underlying3 Try.underlying4 Try.underlying5 Try.underlying9 Try.underlying22 Try.underlying23 Try.underlying28 Try.underlying29 Try.underlying38 Try.underlying40 Try.underlying51 Try.underlying58 Try.underlying128 Try.underlying143 Try.underlying145 w73 w80 w104 w106 w108 w136 e73 e80 e104 e106 e108 e136
attribute [local simp] get_Int get_Str get_Bool get_byte g73 g80 g104 g106 g108 g136
set_option maxRecDepth 100000
set_option maxHeartbeats 4000000
def cend121 : FCert := ⟨[true, false, true], true, [], [(11, [[], [], [], [], [], [], [], [], [4, 7]]), (15, [[], [], [], [], [], [], [], [], [4, 7]])]⟩
theorem okend121 : okCode cend121 Try.f121.body.get! = true := by kernel_rfl
theorem end121 (xs : List T) (y : T) (hw : wid 2 xs = true) (hy : y.width = 2) (h1 : (xs.length + 1) * 32 ≤ most) (h2 : xs.length + 1 ≤ most) : callT Try.prog (fun _ => cend121) (fun _ => none) 121 [.win 0 0 xs.length, .sc (.int .i64 xs.length), .win 1 0 1] [Ob.mkRow 2 xs, Ob.mkRow 2 [y]] = some (.win 2 0 (xs.length + 1), [⟨true, false, true, true, 0, 2, xs⟩, Ob.mkRow 2 [y], Ob.mkRow 2 (xs ++ [y])]) := by
 unfold most at h1 h2
 rw [callK_eq rfl Try.func121 rfl okend121]
 cases y with
 | agg cs =>
  have hy' : cs.length = 2 := hy
  simp [cend121, Try.f121, hw, hy', h1, h2]
 | _ => exact absurd hy (by simp [T.width, T.cells])
def cend103 : FCert := ⟨[true, false, true], true, [], [(11, [[], [], [], [], [], [], [], [], [4, 7]]), (15, [[], [], [], [], [], [], [], [], [4, 7]])]⟩
theorem okend103 : okCode cend103 Try.f103.body.get! = true := by kernel_rfl
theorem end103 (xs : List T) (y : T) (hw : wid 4 xs = true) (hy : y.width = 4) (h1 : (xs.length + 1) * 56 ≤ most) (h2 : xs.length + 1 ≤ most) : callT Try.prog (fun _ => cend103) (fun _ => none) 103 [.win 0 0 xs.length, .sc (.int .i64 xs.length), .win 1 0 1] [Ob.mkRow 4 xs, Ob.mkRow 4 [y]] = some (.win 2 0 (xs.length + 1), [⟨true, false, true, true, 0, 4, xs⟩, Ob.mkRow 4 [y], Ob.mkRow 4 (xs ++ [y])]) := by
 unfold most at h1 h2
 rw [callK_eq rfl Try.func103 rfl okend103]
 cases y with
 | agg cs =>
  have hy' : cs.length = 4 := hy
  simp [cend103, Try.f103, hw, hy', h1, h2]
 | _ => exact absurd hy (by simp [T.width, T.cells])
theorem fnOk_of {P : Program} {f : FuncId} {fn : Func} (h : P.funcs[f]? = some fn) (h1 : (fn.name == "runtime.NumGoroutine") = false) (h2 : fn.body.isNone = false) : FnOk P f := ⟨fn, h, h1, h2⟩
theorem prims_ok : PrimOk Try.prog P0 := by
 intro f D hD args objs r objs' h
 unfold P0 at hD
 split at hD
 · rename_i hf
   subst hf
   obtain rfl := Option.some.inj hD
   exact cmp_ok (fnOk_of Try.func132 rfl rfl) cmpW h
 split at hD
 · rename_i hf
   subst hf
   obtain rfl := Option.some.inj hD
   exact ins_ok (by decide) (fnOk_of Try.func121 rfl rfl) (fun xs y hw hy h1 h2 => let ⟨m, hm⟩ := callT_some.1 (end121 xs y hw hy h1 h2); (callF_ok (by kernel_rfl) (by kernel_rfl) prim_none m _ _ _ _ _ hm).2) (fun g c i n C vs vb vc V w a1 a2 a3 a4 a5 a6 a7 a8 a9 a10 a11 => by
   unfold most at a5
   by_cases hr : n + 1 ≤ c
   · exact insRoom_File g c i n C vs vb vc V w a1 a2 a3 hr (by omega) a6 a7 a8 a9 a10 a11
   · exact insGrow_File g c i n C vs vb vc V w a1 a2 a3 a4 (by omega) (by omega) a6 a7 a8 a9 a10) h
 split at hD
 · rename_i hf
   subst hf
   obtain rfl := Option.some.inj hD
   exact del_ok (by decide) (fnOk_of Try.func100 rfl rfl) (fun g c i n C w h1 h2 h3 h4 h5 => delW_File g c i n C w h1 h2 h3 h4 h5) h
 split at hD
 · rename_i hf
   subst hf
   obtain rfl := Option.some.inj hD
   exact ins_ok (by decide) (fnOk_of Try.func103 rfl rfl) (fun xs y hw hy h1 h2 => let ⟨m, hm⟩ := callT_some.1 (end103 xs y hw hy h1 h2); (callF_ok (by kernel_rfl) (by kernel_rfl) prim_none m _ _ _ _ _ hm).2) (fun g c i n C vs vb vc V w a1 a2 a3 a4 a5 a6 a7 a8 a9 a10 a11 => by
   unfold most at a5
   by_cases hr : n + 1 ≤ c
   · exact insRoom_DOp g c i n C vs vb vc V w a1 a2 a3 hr (by omega) a6 a7 a8 a9 a10 a11
   · exact insGrow_DOp g c i n C vs vb vc V w a1 a2 a3 a4 (by omega) (by omega) a6 a7 a8 a9 a10) h
 cases hD
end Go.Proofs.Ytfjoamlgbegpgaa.P
