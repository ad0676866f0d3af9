/- Part of the proof of FnExactSaveVote: no statement of its own. -/
import Derived.ArgAppend
import Derived.Below
import Derived.BigQuiet
import Derived.ChangeArms
import Derived.ChangeOld
import Derived.DataElems
import Derived.DataReads
import Derived.Deep.AppendLies
import Derived.Deep.CutBlock
import Derived.Deep.DeepCutAuto
import Derived.Deep.Draws
import Derived.Deep.LoopGhost
import Derived.Deep.OwnRows
import Derived.Deep.QuietTactic
import Derived.Deep.RegionHeld3
import Derived.Deep.RegionLaw
import Derived.Deep.RegionWith
import Derived.Deep.Slices
import Derived.JoinedTies
import Derived.KernelRfl
import Derived.Laws.BitsLemmas
import Derived.Laws.BytesArg
import Derived.Laws.CopyRow
import Derived.Laws.IdiomCopy
import Derived.Laws.MakeOwn
import Derived.Laws.NewBlocks
import Derived.Laws.OwnMore
import Derived.Laws.Rows
import Derived.Laws.Slices
import Derived.Laws.StructEq
import Derived.Lib.AppendStr
import Derived.Lib.AppendZerosOnto
import Derived.Lib.Bytealg
import Derived.Lib.ConvBytes
import Derived.Lib.Overlaps
import Derived.Lib.Strings
import Derived.Maps.AppendAt
import Derived.OpenShut
import Derived.OrdersHeld
import Derived.OwnWalk
import Derived.ProofKit
import Derived.RowKit
import Derived.RowKit3
import Derived.Shelf.Abstract
import Derived.Shelf.Bin.LEUint32
import Derived.Shelf.Bin.ReadersZ
import Derived.Shelf.Small.Strs
import Derived.Shelf.Spec.SlicesInsert
import Derived.ShutString
import Derived.SizedLaws
import Derived.Tactics
import Derived.Test.YtfjoamlgbegpgaaProg
import Derived.WalkKit
import Derived.WideLaws
import Derived.Test.YtfjoamlgbegpgaaCFnExactSaveVote4
set_option linter.unusedVariables false
set_option linter.unusedSimpArgs false
namespace Go.Proofs.Ytfjoamlgbegpgaa.P
open Go Go.Proofs.Ytfjoamlgbegpgaa.PM Go.Proofs.Ytfjoamlgbegpgaa.PN Go.Proofs
set_option maxRecDepth 100000
set_option linter.unusedVariables false
def envf85 (k : Nat) : Ev El := envOf CC0 []
theorem envf85_ok (k : Nat) : EvOk Try.prog CC0 P0 G (envf85 k) := env_ok (sums_nil)
def ktf85 : Nat → Nat → Nat := fun rid q => 0
theorem f85_ok {k : Nat} {a0_0 : List S80} {a1_0 : ByteArray} {a2_0 : ByteArray} {r : (List S80)} (h : f85 k a0_0 a1_0 a2_0 = some r) : callT Try.prog CC0 P0 85 (List.map (denV G) [.sl 2 a0_0 [], .s a1_0, .s a2_0]) (List.map (denO G) []) = some (denV G (f85.o a0_0 a1_0 a2_0 r).1, List.map (denO G) (f85.o a0_0 a1_0 a2_0 r).2) :=
 fn_ok (k := k) (E := envf85) (kt := ktf85) (start := f85.start k a0_0 a1_0 a2_0) (stt := f85.st) (o := f85.o a0_0 a1_0 a2_0) (h0 := .all) (D := f85.D) (blk := f85.blk) (hint := f85.hint) (objs := []) G_ok envf85_ok rfl Try.func85 rfl (by kernel_rfl) (by kernel_rfl) rfl (Nat.le_of_ble_eq_true (by kernel_rfl)) (fun x => by cases x <;> kernel_rfl) (fun k x => by cases x <;> kernel_rfl) (fun k x => by cases x <;> kernel_rfl) (by kernel_rfl) ((by kernel_rfl : (f85.start k a0_0 a1_0 a2_0).run (f85.D k) = f85 k a0_0 a1_0 a2_0).trans h)
theorem sf85_ok (k : Nat) : SumOk Try.prog CC0 P0 G 85 (sf85 k) := by
 intro as0' os0' lk r l h0'
 unfold sf85 at h0'
 obtain ⟨v0, as1', rfl, h1'⟩ := lH_runs h0'; obtain ⟨v1, as2', rfl, h2'⟩ := lH_runs h1'; obtain ⟨v2, as3', rfl, h3'⟩ := lH_runs h2'; obtain ⟨rfl, h4'⟩ := lT_runs h3'; obtain ⟨rfl, h5'⟩ := lT_runs h4'; obtain ⟨a0_0, e1, h6'⟩ := argL_runs h5'; obtain ⟨a1_0, e2, h7'⟩ := argS_runs h6'; obtain ⟨a2_0, e3, h8'⟩ := argS_runs h7'; obtain ⟨z', hz', h⟩ := call_runs h8'
 obtain ⟨rfl, rfl⟩ := runs_ret.1 h; exact ⟨rfl, by simp only [List.map_cons, List.map_nil, e1, e2, e3]; exact f85_ok hz'⟩
end Go.Proofs.Ytfjoamlgbegpgaa.P
namespace Go.Proofs.Ytfjoamlgbegpgaa.P
open Go Go.Proofs.Ytfjoamlgbegpgaa.PM Go.Proofs.Ytfjoamlgbegpgaa.PN Go.Proofs
set_option maxRecDepth 100000
set_option linter.unusedVariables false
def envf86 (k : Nat) : Ev El := envOf CC0 []
theorem envf86_ok (k : Nat) : EvOk Try.prog CC0 P0 G (envf86 k) := env_ok (sums_nil)
def ktf86 : Nat → Nat → Nat := fun rid q => 0
theorem f86_ok {k : Nat} {a0_0 : List S80} {a1_0 : ByteArray} {r : (List S80)} (h : f86 k a0_0 a1_0 = some r) : callT Try.prog CC0 P0 86 (List.map (denV G) [.sl 2 a0_0 [], .s a1_0]) (List.map (denO G) []) = some (denV G (f86.o a0_0 a1_0 r).1, List.map (denO G) (f86.o a0_0 a1_0 r).2) :=
 fn_ok (k := k) (E := envf86) (kt := ktf86) (start := f86.start k a0_0 a1_0) (stt := f86.st) (o := f86.o a0_0 a1_0) (h0 := .all) (D := f86.D) (blk := f86.blk) (hint := f86.hint) (objs := []) G_ok envf86_ok rfl Try.func86 rfl (by kernel_rfl) (by kernel_rfl) rfl (Nat.le_of_ble_eq_true (by kernel_rfl)) (fun x => by cases x <;> kernel_rfl) (fun k x => by cases x <;> kernel_rfl) (fun k x => by cases x <;> kernel_rfl) (by kernel_rfl) ((by kernel_rfl : (f86.start k a0_0 a1_0).run (f86.D k) = f86 k a0_0 a1_0).trans h)
theorem sf86_ok (k : Nat) : SumOk Try.prog CC0 P0 G 86 (sf86 k) := by
 intro as0' os0' lk r l h0'
 unfold sf86 at h0'
 obtain ⟨v0, as1', rfl, h1'⟩ := lH_runs h0'; obtain ⟨v1, as2', rfl, h2'⟩ := lH_runs h1'; obtain ⟨rfl, h3'⟩ := lT_runs h2'; obtain ⟨rfl, h4'⟩ := lT_runs h3'; obtain ⟨a0_0, e1, h5'⟩ := argL_runs h4'; obtain ⟨a1_0, e2, h6'⟩ := argS_runs h5'; obtain ⟨z', hz', h⟩ := call_runs h6'
 obtain ⟨rfl, rfl⟩ := runs_ret.1 h; exact ⟨rfl, by simp only [List.map_cons, List.map_nil, e1, e2]; exact f86_ok hz'⟩
end Go.Proofs.Ytfjoamlgbegpgaa.P
namespace Go.Proofs.Ytfjoamlgbegpgaa.P
open Go Go.Proofs.Ytfjoamlgbegpgaa.PM Go.Proofs.Ytfjoamlgbegpgaa.PN Go.Proofs
set_option maxRecDepth 100000
set_option linter.unusedVariables false
def envf44 (k : Nat) : Ev El := envOf CC0 [(52, sf52 k), (85, sf85 k), (86, sf86 k)]
theorem envf44_ok (k : Nat) : EvOk Try.prog CC0 P0 G (envf44 k) := env_ok (sums_cons (sf52_ok k) (sums_cons (sf85_ok k) (sums_cons (sf86_ok k) (sums_nil))))
def ktf44 : Nat → Nat → Nat := fun rid q => 0
theorem f44_ok {k : Nat} {a0_0 : List S80} {a1_0 : Int} {a1_1 : ByteArray} {a1_2 : ByteArray} {a1_3 : ByteArray} {r : Bool × (List S80)} (h : f44 k a0_0 a1_0 a1_1 a1_2 a1_3 = some r) : callT Try.prog CC0 P0 44 (List.map (denV G) [.sl 2 a0_0 [], .agg [.id .i64 0 a1_0, .s a1_1, .s a1_2, .s a1_3]]) (List.map (denO G) []) = some (denV G (f44.o a0_0 a1_0 a1_1 a1_2 a1_3 r).1, List.map (denO G) (f44.o a0_0 a1_0 a1_1 a1_2 a1_3 r).2) :=
 fn_ok0 (k := k) (E := envf44) (kt := ktf44) (start := f44.start k a0_0 a1_0 a1_1 a1_2 a1_3) (o := f44.o a0_0 a1_0 a1_1 a1_2 a1_3) (h0 := .all) (objs := []) G_ok envf44_ok rfl Try.func44 rfl (by kernel_rfl) (by kernel_rfl) rfl (Nat.le_of_ble_eq_true (by kernel_rfl)) (by kernel_rfl) ((by kernel_rfl : (f44.start k a0_0 a1_0 a1_1 a1_2 a1_3).run Empty.elim = f44 k a0_0 a1_0 a1_1 a1_2 a1_3).trans h)
theorem sf44_ok (k : Nat) : SumOk Try.prog CC0 P0 G 44 (sf44 k) := by
 intro as0' os0' lk r l h0'
 unfold sf44 at h0'
 obtain ⟨v0, as1', rfl, h1'⟩ := lH_runs h0'; obtain ⟨v1, as2', rfl, h2'⟩ := lH_runs h1'; obtain ⟨rfl, h3'⟩ := lT_runs h2'; obtain ⟨rfl, h4'⟩ := lT_runs h3'; obtain ⟨a0_0, e1, h5'⟩ := argL_runs h4'; obtain ⟨b1', e2, h6'⟩ := argA_runs h5'; obtain ⟨y2', r2', e3, h7'⟩ := argH_runs h6'; obtain ⟨y3', r3', e4, h8'⟩ := argH_runs h7'; obtain ⟨y4', r4', e5, h9'⟩ := argH_runs h8'; obtain ⟨y5', r5', e6, h10'⟩ := argH_runs h9'; obtain ⟨e7, h11'⟩ := argT_runs h10'; obtain ⟨a1_0, e8, h12'⟩ := argI_runs h11'; obtain ⟨a1_1, e9, h13'⟩ := argS_runs h12'; obtain ⟨a1_2, e10, h14'⟩ := argS_runs h13'; obtain ⟨a1_3, e11, h15'⟩ := argS_runs h14'; obtain ⟨z', hz', h⟩ := call_runs h15'
 obtain ⟨rfl, rfl⟩ := runs_ret.1 h; exact ⟨rfl, by simp only [List.map_cons, List.map_nil, e1, e2, e3, e4, e5, e6, e7, e8, e9, e10, e11]; exact f44_ok hz'⟩
end Go.Proofs.Ytfjoamlgbegpgaa.P
namespace Go.Proofs.Ytfjoamlgbegpgaa.P
open Go Go.Proofs.Ytfjoamlgbegpgaa.PM Go.Proofs.Ytfjoamlgbegpgaa.PN Go.Proofs
set_option maxRecDepth 100000
set_option linter.unusedVariables false
def envf58 (k : Nat) : Ev El := envOf CC0 []
theorem envf58_ok (k : Nat) : EvOk Try.prog CC0 P0 G (envf58 k) := env_ok (sums_nil)
def ktf58 : Nat → Nat → Nat := fun rid q => 0
theorem f58_ok {k : Nat} {a0_0 : Int} {a1_0 : Int} {a2_0 : Int} {r : Bool} (h : f58 k a0_0 a1_0 a2_0 = some r) : callT Try.prog CC0 P0 58 (List.map (denV G) [.id .i64 1 a0_0, .id .i64 2 a1_0, .id .i64 3 a2_0]) (List.map (denO G) []) = some (denV G (f58.o a0_0 a1_0 a2_0 r).1, List.map (denO G) (f58.o a0_0 a1_0 a2_0 r).2) :=
 fn_ok0 (k := k) (E := envf58) (kt := ktf58) (start := f58.start k a0_0 a1_0 a2_0) (o := f58.o a0_0 a1_0 a2_0) (h0 := (.both (.l (.l (.l .all))) (.r (.r (.r .all))))) (objs := []) G_ok envf58_ok rfl Try.func58 rfl (by kernel_rfl) (by kernel_rfl) rfl (Nat.le_of_ble_eq_true (by kernel_rfl)) (by kernel_rfl) ((by kernel_rfl : (f58.start k a0_0 a1_0 a2_0).run Empty.elim = f58 k a0_0 a1_0 a2_0).trans h)
theorem sf58_ok (k : Nat) : SumOk Try.prog CC0 P0 G 58 (sf58 k) := by
 intro as0' os0' lk r l h0'
 unfold sf58 at h0'
 obtain ⟨v0, as1', rfl, h1'⟩ := lH_runs h0'; obtain ⟨v1, as2', rfl, h2'⟩ := lH_runs h1'; obtain ⟨v2, as3', rfl, h3'⟩ := lH_runs h2'; obtain ⟨rfl, h4'⟩ := lT_runs h3'; obtain ⟨rfl, h5'⟩ := lT_runs h4'; obtain ⟨a0_0, e1, h6'⟩ := argI_runs h5'; obtain ⟨a1_0, e2, h7'⟩ := argI_runs h6'; obtain ⟨a2_0, e3, h8'⟩ := argI_runs h7'; obtain ⟨z', hz', h⟩ := call_runs h8'
 obtain ⟨rfl, rfl⟩ := runs_ret.1 h; exact ⟨rfl, by simp only [List.map_cons, List.map_nil, e1, e2, e3]; exact f58_ok hz'⟩
end Go.Proofs.Ytfjoamlgbegpgaa.P
namespace Go.Proofs.Ytfjoamlgbegpgaa.P
open Go Go.Proofs.Ytfjoamlgbegpgaa.PM Go.Proofs.Ytfjoamlgbegpgaa.PN Go.Proofs
set_option maxRecDepth 100000
set_option linter.unusedVariables false
def envf45 (k : Nat) : Ev El := envOf CC0 [(58, sf58 k), (84, sf84 k)]
theorem envf45_ok (k : Nat) : EvOk Try.prog CC0 P0 G (envf45 k) := env_ok (sums_cons (sf58_ok k) (sums_cons (sf84_ok k) (sums_nil)))
def ktf45 : Nat → Nat → Nat := fun rid q => 0
theorem f45_ok {k : Nat} {a0_0 : Int} {a0_1 : ByteArray} {a0_2 : ByteArray} {a0_3 : ByteArray} {r : Bool} (h : f45 k a0_0 a0_1 a0_2 a0_3 = some r) : callT Try.prog CC0 P0 45 (List.map (denV G) [.agg [.id .i64 0 a0_0, .s a0_1, .s a0_2, .s a0_3]]) (List.map (denO G) []) = some (denV G (f45.o a0_0 a0_1 a0_2 a0_3 r).1, List.map (denO G) (f45.o a0_0 a0_1 a0_2 a0_3 r).2) :=
 fn_ok0 (k := k) (E := envf45) (kt := ktf45) (start := f45.start k a0_0 a0_1 a0_2 a0_3) (o := f45.o a0_0 a0_1 a0_2 a0_3) (h0 := (.skip (.both (.l (.l (.skip (.l (.l (.both (.both (.skip (.both (.l (.l (.l .all))) (.r (.r (.r .all))))) (.both (.l (.l (.l (.both (.l (.l (.l (.l (.l .all))))) (.r (.r (.l (.r (.l .all))))))))) (.r (.r (.r (.r (.r .all))))))) .all)))))) (.r (.r (.r (.r .all))))))) (objs := []) G_ok envf45_ok rfl Try.func45 rfl (by kernel_rfl) (by kernel_rfl) rfl (Nat.le_of_ble_eq_true (by kernel_rfl)) (by kernel_rfl) ((by kernel_rfl : (f45.start k a0_0 a0_1 a0_2 a0_3).run Empty.elim = f45 k a0_0 a0_1 a0_2 a0_3).trans h)
theorem sf45_ok (k : Nat) : SumOk Try.prog CC0 P0 G 45 (sf45 k) := by
 intro as0' os0' lk r l h0'
 unfold sf45 at h0'
 obtain ⟨v0, as1', rfl, h1'⟩ := lH_runs h0'; obtain ⟨rfl, h2'⟩ := lT_runs h1'; obtain ⟨rfl, h3'⟩ := lT_runs h2'; obtain ⟨b1', e1, h4'⟩ := argA_runs h3'; obtain ⟨y2', r2', e2, h5'⟩ := argH_runs h4'; obtain ⟨y3', r3', e3, h6'⟩ := argH_runs h5'; obtain ⟨y4', r4', e4, h7'⟩ := argH_runs h6'; obtain ⟨y5', r5', e5, h8'⟩ := argH_runs h7'; obtain ⟨e6, h9'⟩ := argT_runs h8'; obtain ⟨a0_0, e7, h10'⟩ := argI_runs h9'; obtain ⟨a0_1, e8, h11'⟩ := argS_runs h10'; obtain ⟨a0_2, e9, h12'⟩ := argS_runs h11'; obtain ⟨a0_3, e10, h13'⟩ := argS_runs h12'; obtain ⟨z', hz', h⟩ := call_runs h13'
 obtain ⟨rfl, rfl⟩ := runs_ret.1 h; exact ⟨rfl, by simp only [List.map_cons, List.map_nil, e1, e2, e3, e4, e5, e6, e7, e8, e9, e10]; exact f45_ok hz'⟩
end Go.Proofs.Ytfjoamlgbegpgaa.P
namespace Go.Proofs.Ytfjoamlgbegpgaa.P
open Go Go.Proofs.Ytfjoamlgbegpgaa.PM Go.Proofs.Ytfjoamlgbegpgaa.PN Go.Proofs
set_option maxRecDepth 100000
set_option linter.unusedVariables false
def envf46 (k : Nat) : Ev El := envOf CC0 []
theorem envf46_ok (k : Nat) : EvOk Try.prog CC0 P0 G (envf46 k) := env_ok (sums_nil)
def ktf46 : Nat → Nat → Nat := fun rid q => 0
theorem f46_ok {k : Nat} {a0_0 : List S80} {a1_0 : List S80} {r : Bool} (h : f46 k a0_0 a1_0 = some r) : callT Try.prog CC0 P0 46 (List.map (denV G) [.sl 2 a0_0 [], .sl 2 a1_0 []]) (List.map (denO G) []) = some (denV G (f46.o a0_0 a1_0 r).1, List.map (denO G) (f46.o a0_0 a1_0 r).2) :=
 fn_ok (k := k) (E := envf46) (kt := ktf46) (start := f46.start k a0_0 a1_0) (stt := f46.st) (o := f46.o a0_0 a1_0) (h0 := .all) (D := f46.D) (blk := f46.blk) (hint := f46.hint) (objs := []) G_ok envf46_ok rfl Try.func46 rfl (by kernel_rfl) (by kernel_rfl) rfl (Nat.le_of_ble_eq_true (by kernel_rfl)) (fun x => by cases x <;> kernel_rfl) (fun k x => by cases x <;> kernel_rfl) (fun k x => by cases x <;> kernel_rfl) (by kernel_rfl) ((by kernel_rfl : (f46.start k a0_0 a1_0).run (f46.D k) = f46 k a0_0 a1_0).trans h)
theorem sf46_ok (k : Nat) : SumOk Try.prog CC0 P0 G 46 (sf46 k) := by
 intro as0' os0' lk r l h0'
 unfold sf46 at h0'
 obtain ⟨v0, as1', rfl, h1'⟩ := lH_runs h0'; obtain ⟨v1, as2', rfl, h2'⟩ := lH_runs h1'; obtain ⟨rfl, h3'⟩ := lT_runs h2'; obtain ⟨rfl, h4'⟩ := lT_runs h3'; obtain ⟨a0_0, e1, h5'⟩ := argL_runs h4'; obtain ⟨a1_0, e2, h6'⟩ := argL_runs h5'; obtain ⟨z', hz', h⟩ := call_runs h6'
 obtain ⟨rfl, rfl⟩ := runs_ret.1 h; exact ⟨rfl, by simp only [List.map_cons, List.map_nil, e1, e2]; exact f46_ok hz'⟩
end Go.Proofs.Ytfjoamlgbegpgaa.P
namespace Go.Proofs.Ytfjoamlgbegpgaa.P
open Go Go.Proofs.Ytfjoamlgbegpgaa.PM Go.Proofs.Ytfjoamlgbegpgaa.PN Go.Proofs
set_option maxRecDepth 100000
set_option linter.unusedVariables false
def envf13 (k : Nat) : Ev El := envOf CC0 [(43, sf43 k), (44, sf44 k), (45, sf45 k), (46, sf46 k)]
theorem envf13_ok (k : Nat) : EvOk Try.prog CC0 P0 G (envf13 k) := env_ok (sums_cons (sf43_ok k) (sums_cons (sf44_ok k) (sums_cons (sf45_ok k) (sums_cons (sf46_ok k) (sums_nil)))))
def ktf13 : Nat → Nat → Nat := fun rid q => if rid = 5 ∧ q = 3 then 2 else 0
theorem f13_ok {k : Nat} {a0_0 : List S80} {a0_1 : List S80} {a0_2 : List S73} {r : Bool} (h : f13 k a0_0 a0_1 a0_2 = some r) : callT Try.prog CC0 P0 13 (List.map (denV G) [.agg [.sl 2 a0_0 [], .sl 2 a0_1 [], .sl 3 a0_2 []]]) (List.map (denO G) []) = some (denV G (f13.o a0_0 a0_1 a0_2 r).1, List.map (denO G) (f13.o a0_0 a0_1 a0_2 r).2) :=
 fn_ok (k := k) (E := envf13) (kt := ktf13) (start := f13.start k a0_0 a0_1 a0_2) (stt := f13.st) (o := f13.o a0_0 a0_1 a0_2) (h0 := (.skip (.both (.l (.l (.skip (.l (.l (.both (.l (.l (.l (.l .all)))) (.r (.r (.r (.r .all)))))))))) (.r (.r (.r (.r .all))))))) (D := f13.D) (blk := f13.blk) (hint := f13.hint) (objs := []) G_ok envf13_ok rfl Try.func13 rfl (by kernel_rfl) (by kernel_rfl) rfl (Nat.le_of_ble_eq_true (by kernel_rfl)) (fun x => by cases x <;> kernel_rfl) (fun k x => by cases x <;> kernel_rfl) (fun k x => by cases x <;> kernel_rfl) (by kernel_rfl) ((by kernel_rfl : (f13.start k a0_0 a0_1 a0_2).run (f13.D k) = f13 k a0_0 a0_1 a0_2).trans h)
theorem sf13_ok (k : Nat) : SumOk Try.prog CC0 P0 G 13 (sf13 k) := by
 intro as0' os0' lk r l h0'
 unfold sf13 at h0'
 obtain ⟨v0, as1', rfl, h1'⟩ := lH_runs h0'; obtain ⟨rfl, h2'⟩ := lT_runs h1'; obtain ⟨rfl, h3'⟩ := lT_runs h2'; obtain ⟨b1', e1, h4'⟩ := argA_runs h3'; obtain ⟨y2', r2', e2, h5'⟩ := argH_runs h4'; obtain ⟨y3', r3', e3, h6'⟩ := argH_runs h5'; obtain ⟨y4', r4', e4, h7'⟩ := argH_runs h6'; obtain ⟨e5, h8'⟩ := argT_runs h7'; obtain ⟨a0_0, e6, h9'⟩ := argL_runs h8'; obtain ⟨a0_1, e7, h10'⟩ := argL_runs h9'; obtain ⟨a0_2, e8, h11'⟩ := argL_runs h10'; obtain ⟨z', hz', h⟩ := call_runs h11'
 obtain ⟨rfl, rfl⟩ := runs_ret.1 h; exact ⟨rfl, by simp only [List.map_cons, List.map_nil, e1, e2, e3, e4, e5, e6, e7, e8]; exact f13_ok hz'⟩
end Go.Proofs.Ytfjoamlgbegpgaa.P
namespace Go.Proofs.Ytfjoamlgbegpgaa.P
open Go Go.Proofs.Ytfjoamlgbegpgaa.PM Go.Proofs.Ytfjoamlgbegpgaa.PN Go.Proofs
set_option maxRecDepth 100000
set_option linter.unusedVariables false
def envf66 (k : Nat) : Ev El := envOf CC0 []
theorem envf66_ok (k : Nat) : EvOk Try.prog CC0 P0 G (envf66 k) := env_ok (sums_nil)
def ktf66 : Nat → Nat → Nat := fun rid q => 0
theorem f66_ok {k : Nat} {a0_0 : List S80} {a0_1 : List S80} {a0_2 : List S73} {r : (List S80) × (List S80) × (List S73)} (h : f66 k a0_0 a0_1 a0_2 = some r) : callT Try.prog CC0 P0 66 (List.map (denV G) [.agg [.sl 2 a0_0 [], .sl 2 a0_1 [], .sl 3 a0_2 []]]) (List.map (denO G) []) = some (denV G (f66.o a0_0 a0_1 a0_2 r).1, List.map (denO G) (f66.o a0_0 a0_1 a0_2 r).2) :=
 fn_ok0 (k := k) (E := envf66) (kt := ktf66) (start := f66.start k a0_0 a0_1 a0_2) (o := f66.o a0_0 a0_1 a0_2) (h0 := .all) (objs := []) G_ok envf66_ok rfl Try.func66 rfl (by kernel_rfl) (by kernel_rfl) rfl (Nat.le_of_ble_eq_true (by kernel_rfl)) (by kernel_rfl) ((by kernel_rfl : (f66.start k a0_0 a0_1 a0_2).run Empty.elim = f66 k a0_0 a0_1 a0_2).trans h)
theorem sf66_ok (k : Nat) : SumOk Try.prog CC0 P0 G 66 (sf66 k) := by
 intro as0' os0' lk r l h0'
 unfold sf66 at h0'
 obtain ⟨v0, as1', rfl, h1'⟩ := lH_runs h0'; obtain ⟨rfl, h2'⟩ := lT_runs h1'; obtain ⟨rfl, h3'⟩ := lT_runs h2'; obtain ⟨b1', e1, h4'⟩ := argA_runs h3'; obtain ⟨y2', r2', e2, h5'⟩ := argH_runs h4'; obtain ⟨y3', r3', e3, h6'⟩ := argH_runs h5'; obtain ⟨y4', r4', e4, h7'⟩ := argH_runs h6'; obtain ⟨e5, h8'⟩ := argT_runs h7'; obtain ⟨a0_0, e6, h9'⟩ := argL_runs h8'; obtain ⟨a0_1, e7, h10'⟩ := argL_runs h9'; obtain ⟨a0_2, e8, h11'⟩ := argL_runs h10'; obtain ⟨z', hz', h⟩ := call_runs h11'
 obtain ⟨rfl, rfl⟩ := runs_ret.1 h; exact ⟨rfl, by simp only [List.map_cons, List.map_nil, e1, e2, e3, e4, e5, e6, e7, e8]; exact f66_ok hz'⟩
end Go.Proofs.Ytfjoamlgbegpgaa.P
namespace Go.Proofs.Ytfjoamlgbegpgaa.P
open Go Go.Proofs.Ytfjoamlgbegpgaa.PM Go.Proofs.Ytfjoamlgbegpgaa.PN Go.Proofs
set_option maxRecDepth 100000
set_option linter.unusedVariables false
def envf65 (k : Nat) : Ev El := envOf CC0 [(43, sf43 k), (44, sf44 k), (45, sf45 k), (66, sf66 k)]
theorem envf65_ok (k : Nat) : EvOk Try.prog CC0 P0 G (envf65 k) := env_ok (sums_cons (sf43_ok k) (sums_cons (sf44_ok k) (sums_cons (sf45_ok k) (sums_cons (sf66_ok k) (sums_nil)))))
def ktf65 : Nat → Nat → Nat := fun rid q => 0
theorem f65_ok {k : Nat} {a0_0 : List S80} {a0_1 : List S80} {a0_2 : List S73} {a1_0 : Int} {a1_1 : ByteArray} {a1_2 : ByteArray} {a1_3 : ByteArray} {r : Int × (List S80) × (List S80) × (List S73)} (h : f65 k a0_0 a0_1 a0_2 a1_0 a1_1 a1_2 a1_3 = some r) : callT Try.prog CC0 P0 65 (List.map (denV G) [.agg [.sl 2 a0_0 [], .sl 2 a0_1 [], .sl 3 a0_2 []], .agg [.id .i64 0 a1_0, .s a1_1, .s a1_2, .s a1_3]]) (List.map (denO G) []) = some (denV G (f65.o a0_0 a0_1 a0_2 a1_0 a1_1 a1_2 a1_3 r).1, List.map (denO G) (f65.o a0_0 a0_1 a0_2 a1_0 a1_1 a1_2 a1_3 r).2) :=
 fn_ok0 (k := k) (E := envf65) (kt := ktf65) (start := f65.start k a0_0 a0_1 a0_2 a1_0 a1_1 a1_2 a1_3) (o := f65.o a0_0 a0_1 a0_2 a1_0 a1_1 a1_2 a1_3) (h0 := (.skip (.both (.skip (.both (.both (.l (.l (.l .all))) (.r (.skip (.r (.r .all))))) .all)) .all))) (objs := []) G_ok envf65_ok rfl Try.func65 rfl (by kernel_rfl) (by kernel_rfl) rfl (Nat.le_of_ble_eq_true (by kernel_rfl)) (by kernel_rfl) ((by kernel_rfl : (f65.start k a0_0 a0_1 a0_2 a1_0 a1_1 a1_2 a1_3).run Empty.elim = f65 k a0_0 a0_1 a0_2 a1_0 a1_1 a1_2 a1_3).trans h)
theorem sf65_ok (k : Nat) : SumOk Try.prog CC0 P0 G 65 (sf65 k) := by
 intro as0' os0' lk r l h0'
 unfold sf65 at h0'
 obtain ⟨v0, as1', rfl, h1'⟩ := lH_runs h0'; obtain ⟨v1, as2', rfl, h2'⟩ := lH_runs h1'; obtain ⟨rfl, h3'⟩ := lT_runs h2'; obtain ⟨rfl, h4'⟩ := lT_runs h3'; obtain ⟨b1', e1, h5'⟩ := argA_runs h4'; obtain ⟨y2', r2', e2, h6'⟩ := argH_runs h5'; obtain ⟨y3', r3', e3, h7'⟩ := argH_runs h6'; obtain ⟨y4', r4', e4, h8'⟩ := argH_runs h7'; obtain ⟨e5, h9'⟩ := argT_runs h8'; obtain ⟨a0_0, e6, h10'⟩ := argL_runs h9'; obtain ⟨a0_1, e7, h11'⟩ := argL_runs h10'; obtain ⟨a0_2, e8, h12'⟩ := argL_runs h11'; obtain ⟨b5', e9, h13'⟩ := argA_runs h12'; obtain ⟨y6', r6', e10, h14'⟩ := argH_runs h13'; obtain ⟨y7', r7', e11, h15'⟩ := argH_runs h14'; obtain ⟨y8', r8', e12, h16'⟩ := argH_runs h15'; obtain ⟨y9', r9', e13, h17'⟩ := argH_runs h16'; obtain ⟨e14, h18'⟩ := argT_runs h17'; obtain ⟨a1_0, e15, h19'⟩ := argI_runs h18'; obtain ⟨a1_1, e16, h20'⟩ := argS_runs h19'; obtain ⟨a1_2, e17, h21'⟩ := argS_runs h20'; obtain ⟨a1_3, e18, h22'⟩ := argS_runs h21'; obtain ⟨z', hz', h⟩ := call_runs h22'
 obtain ⟨rfl, rfl⟩ := runs_ret.1 h; exact ⟨rfl, by simp only [List.map_cons, List.map_nil, e1, e2, e3, e4, e5, e6, e7, e8, e9, e10, e11, e12, e13, e14, e15, e16, e17, e18]; exact f65_ok hz'⟩
end Go.Proofs.Ytfjoamlgbegpgaa.P
namespace Go.Proofs.Ytfjoamlgbegpgaa.P
open Go Go.Proofs.Ytfjoamlgbegpgaa.PM Go.Proofs.Ytfjoamlgbegpgaa.PN Go.Proofs
set_option maxRecDepth 100000
set_option linter.unusedVariables false
def envf26 (k : Nat) : Ev El := envOf CC0 [(13, sf13 k), (52, sf52 k), (65, sf65 k), (66, sf66 k)]
theorem envf26_ok (k : Nat) : EvOk Try.prog CC0 P0 G (envf26 k) := env_ok (sums_cons (sf13_ok k) (sums_cons (sf52_ok k) (sums_cons (sf65_ok k) (sums_cons (sf66_ok k) (sums_nil)))))
def ktf26 : Nat → Nat → Nat := fun rid q => 0
theorem f26_ok {k : Nat} {a0_0 : List S80} {a0_1 : List S80} {a0_2 : List S73} {a1_0 : ByteArray} {a2_0 : ByteArray} {r : Int × (List S80) × (List S80) × (List S73)} (h : f26 k a0_0 a0_1 a0_2 a1_0 a2_0 = some r) : callT Try.prog CC0 P0 26 (List.map (denV G) [.agg [.sl 2 a0_0 [], .sl 2 a0_1 [], .sl 3 a0_2 []], .s a1_0, .s a2_0]) (List.map (denO G) []) = some (denV G (f26.o a0_0 a0_1 a0_2 a1_0 a2_0 r).1, List.map (denO G) (f26.o a0_0 a0_1 a0_2 a1_0 a2_0 r).2) :=
 fn_ok0 (k := k) (E := envf26) (kt := ktf26) (start := f26.start k a0_0 a0_1 a0_2 a1_0 a2_0) (o := f26.o a0_0 a0_1 a0_2 a1_0 a2_0) (h0 := (.skip (.both (.skip (.both (.skip (.both (.skip (.both .all (.r .all))) (.r (.r .all)))) (.skip (.both .all (.r .all))))) .all))) (objs := []) G_ok envf26_ok rfl Try.func26 rfl (by kernel_rfl) (by kernel_rfl) rfl (Nat.le_of_ble_eq_true (by kernel_rfl)) (by kernel_rfl) ((by kernel_rfl : (f26.start k a0_0 a0_1 a0_2 a1_0 a2_0).run Empty.elim = f26 k a0_0 a0_1 a0_2 a1_0 a2_0).trans h)
theorem sf26_ok (k : Nat) : SumOk Try.prog CC0 P0 G 26 (sf26 k) := by
 intro as0' os0' lk r l h0'
 unfold sf26 at h0'
 obtain ⟨v0, as1', rfl, h1'⟩ := lH_runs h0'; obtain ⟨v1, as2', rfl, h2'⟩ := lH_runs h1'; obtain ⟨v2, as3', rfl, h3'⟩ := lH_runs h2'; obtain ⟨rfl, h4'⟩ := lT_runs h3'; obtain ⟨rfl, h5'⟩ := lT_runs h4'; obtain ⟨b1', e1, h6'⟩ := argA_runs h5'; obtain ⟨y2', r2', e2, h7'⟩ := argH_runs h6'; obtain ⟨y3', r3', e3, h8'⟩ := argH_runs h7'; obtain ⟨y4', r4', e4, h9'⟩ := argH_runs h8'; obtain ⟨e5, h10'⟩ := argT_runs h9'; obtain ⟨a0_0, e6, h11'⟩ := argL_runs h10'; obtain ⟨a0_1, e7, h12'⟩ := argL_runs h11'; obtain ⟨a0_2, e8, h13'⟩ := argL_runs h12'; obtain ⟨a1_0, e9, h14'⟩ := argS_runs h13'; obtain ⟨a2_0, e10, h15'⟩ := argS_runs h14'; obtain ⟨z', hz', h⟩ := call_runs h15'
 obtain ⟨rfl, rfl⟩ := runs_ret.1 h; exact ⟨rfl, by simp only [List.map_cons, List.map_nil, e1, e2, e3, e4, e5, e6, e7, e8, e9, e10]; exact f26_ok hz'⟩
end Go.Proofs.Ytfjoamlgbegpgaa.P
namespace Go.Proofs.Ytfjoamlgbegpgaa.P
open Go Go.Proofs.Ytfjoamlgbegpgaa.PM Go.Proofs.Ytfjoamlgbegpgaa.PN Go.Proofs
set_option maxRecDepth 100000
set_option linter.unusedVariables false
def envf28 (k : Nat) : Ev El := envOf CC0 [(13, sf13 k)]
theorem envf28_ok (k : Nat) : EvOk Try.prog CC0 P0 G (envf28 k) := env_ok (sums_cons (sf13_ok k) (sums_nil))
def ktf28 : Nat → Nat → Nat := fun rid q => 0
theorem f28_ok {k : Nat} {a0_0 : List S80} {a0_1 : List S80} {a0_2 : List S73} {r : (List S80) × (List S80) × (List S73)} (h : f28 k a0_0 a0_1 a0_2 = some r) : callT Try.prog CC0 P0 28 (List.map (denV G) [.agg [.sl 2 a0_0 [], .sl 2 a0_1 [], .sl 3 a0_2 []]]) (List.map (denO G) []) = some (denV G (f28.o a0_0 a0_1 a0_2 r).1, List.map (denO G) (f28.o a0_0 a0_1 a0_2 r).2) :=
 fn_ok0 (k := k) (E := envf28) (kt := ktf28) (start := f28.start k a0_0 a0_1 a0_2) (o := f28.o a0_0 a0_1 a0_2) (h0 := .all) (objs := []) G_ok envf28_ok rfl Try.func28 rfl (by kernel_rfl) (by kernel_rfl) rfl (Nat.le_of_ble_eq_true (by kernel_rfl)) (by kernel_rfl) ((by kernel_rfl : (f28.start k a0_0 a0_1 a0_2).run Empty.elim = f28 k a0_0 a0_1 a0_2).trans h)
theorem sf28_ok (k : Nat) : SumOk Try.prog CC0 P0 G 28 (sf28 k) := by
 intro as0' os0' lk r l h0'
 unfold sf28 at h0'
 obtain ⟨v0, as1', rfl, h1'⟩ := lH_runs h0'; obtain ⟨rfl, h2'⟩ := lT_runs h1'; obtain ⟨rfl, h3'⟩ := lT_runs h2'; obtain ⟨b1', e1, h4'⟩ := argA_runs h3'; obtain ⟨y2', r2', e2, h5'⟩ := argH_runs h4'; obtain ⟨y3', r3', e3, h6'⟩ := argH_runs h5'; obtain ⟨y4', r4', e4, h7'⟩ := argH_runs h6'; obtain ⟨e5, h8'⟩ := argT_runs h7'; obtain ⟨a0_0, e6, h9'⟩ := argL_runs h8'; obtain ⟨a0_1, e7, h10'⟩ := argL_runs h9'; obtain ⟨a0_2, e8, h11'⟩ := argL_runs h10'; obtain ⟨z', hz', h⟩ := call_runs h11'
 obtain ⟨rfl, rfl⟩ := runs_ret.1 h; exact ⟨rfl, by simp only [List.map_cons, List.map_nil, e1, e2, e3, e4, e5, e6, e7, e8]; exact f28_ok hz'⟩
end Go.Proofs.Ytfjoamlgbegpgaa.P
namespace Go.Proofs.Ytfjoamlgbegpgaa.P
open Go Go.Proofs.Ytfjoamlgbegpgaa.PM Go.Proofs.Ytfjoamlgbegpgaa.PN Go.Proofs
set_option maxRecDepth 100000
set_option linter.unusedVariables false
def envf131 (k : Nat) : Ev El := envOf CC0 []
theorem envf131_ok (k : Nat) : EvOk Try.prog CC0 P0 G (envf131 k) := env_ok (sums_nil)
def ktf131 : Nat → Nat → Nat := fun rid q => 0
theorem f131_ok {k : Nat} {a0_0 : ByteArray} {r : Int} (h : f131 k a0_0 = some r) : callT Try.prog CC0 P0 131 (List.map (denV G) [.s a0_0]) (List.map (denO G) []) = some (denV G (f131.o a0_0 r).1, List.map (denO G) (f131.o a0_0 r).2) :=
 fn_ok (k := k) (E := envf131) (kt := ktf131) (start := f131.start k a0_0) (stt := f131.st) (o := f131.o a0_0) (h0 := .all) (D := f131.D) (blk := f131.blk) (hint := f131.hint) (objs := []) G_ok envf131_ok rfl Try.func131 rfl (by kernel_rfl) (by kernel_rfl) rfl (Nat.le_of_ble_eq_true (by kernel_rfl)) (fun x => by cases x <;> kernel_rfl) (fun k x => by cases x <;> kernel_rfl) (fun k x => by cases x <;> kernel_rfl) (by kernel_rfl) ((by kernel_rfl : (f131.start k a0_0).run (f131.D k) = f131 k a0_0).trans h)
theorem sf131_ok (k : Nat) : SumOk Try.prog CC0 P0 G 131 (sf131 k) := by
 intro as0' os0' lk r l h0'
 unfold sf131 at h0'
 obtain ⟨v0, as1', rfl, h1'⟩ := lH_runs h0'; obtain ⟨rfl, h2'⟩ := lT_runs h1'; obtain ⟨rfl, h3'⟩ := lT_runs h2'; obtain ⟨a0_0, e1, h4'⟩ := argS_runs h3'; obtain ⟨z', hz', h⟩ := call_runs h4'
 obtain ⟨rfl, rfl⟩ := runs_ret.1 h; exact ⟨rfl, by simp only [List.map_cons, List.map_nil, e1]; exact f131_ok hz'⟩
end Go.Proofs.Ytfjoamlgbegpgaa.P
namespace Go.Proofs.Ytfjoamlgbegpgaa.P
open Go Go.Proofs.Ytfjoamlgbegpgaa.PM Go.Proofs.Ytfjoamlgbegpgaa.PN Go.Proofs
set_option maxRecDepth 100000
set_option linter.unusedVariables false
def envf136 (k : Nat) : Ev El := envOf CC0 []
theorem envf136_ok (k : Nat) : EvOk Try.prog CC0 P0 G (envf136 k) := env_ok (sums_nil)
def ktf136 : Nat → Nat → Nat := fun rid q => 0
theorem f136_ok {k : Nat} {a0_0 : ByteArray} {r : Int} (h : f136 k a0_0 = some r) : callT Try.prog CC0 P0 136 (List.map (denV G) [.s a0_0]) (List.map (denO G) []) = some (denV G (f136.o a0_0 r).1, List.map (denO G) (f136.o a0_0 r).2) :=
 fn_ok0 (k := k) (E := envf136) (kt := ktf136) (start := f136.start k a0_0) (o := f136.o a0_0) (h0 := .all) (objs := []) G_ok envf136_ok rfl Try.func136 rfl (by kernel_rfl) (by kernel_rfl) rfl (Nat.le_of_ble_eq_true (by kernel_rfl)) (by kernel_rfl) ((by kernel_rfl : (f136.start k a0_0).run Empty.elim = f136 k a0_0).trans h)
theorem sf136_ok (k : Nat) : SumOk Try.prog CC0 P0 G 136 (sf136 k) := by
 intro as0' os0' lk r l h0'
 unfold sf136 at h0'
 obtain ⟨v0, as1', rfl, h1'⟩ := lH_runs h0'; obtain ⟨rfl, h2'⟩ := lT_runs h1'; obtain ⟨rfl, h3'⟩ := lT_runs h2'; obtain ⟨a0_0, e1, h4'⟩ := argS_runs h3'; obtain ⟨z', hz', h⟩ := call_runs h4'
 obtain ⟨rfl, rfl⟩ := runs_ret.1 h; exact ⟨rfl, by simp only [List.map_cons, List.map_nil, e1]; exact f136_ok hz'⟩
end Go.Proofs.Ytfjoamlgbegpgaa.P
namespace Go.Proofs.Ytfjoamlgbegpgaa.P
open Go Go.Proofs.Ytfjoamlgbegpgaa.PM Go.Proofs.Ytfjoamlgbegpgaa.PN Go.Proofs
set_option maxRecDepth 100000
set_option linter.unusedVariables false
def envf124 (k : Nat) : Ev El := envOf CC0 [(58, sf58 k), (131, sf131 k), (136, sf136 k)]
theorem envf124_ok (k : Nat) : EvOk Try.prog CC0 P0 G (envf124 k) := env_ok (sums_cons (sf58_ok k) (sums_cons (sf131_ok k) (sums_cons (sf136_ok k) (sums_nil))))
def ktf124 : Nat → Nat → Nat := fun rid q => 0
theorem f124_ok {k : Nat} {a0_0 : ByteArray} {r : Int × ByteArray × Int × Int} (h : f124 k a0_0 = some r) : callT Try.prog CC0 P0 124 (List.map (denV G) [.s a0_0]) (List.map (denO G) []) = some (denV G (f124.o a0_0 r).1, List.map (denO G) (f124.o a0_0 r).2) :=
 fn_ok0 (k := k) (E := envf124) (kt := ktf124) (start := f124.start k a0_0) (o := f124.o a0_0) (h0 := .all) (objs := []) G_ok envf124_ok rfl Try.func124 rfl (by kernel_rfl) (by kernel_rfl) rfl (Nat.le_of_ble_eq_true (by kernel_rfl)) (by kernel_rfl) ((by kernel_rfl : (f124.start k a0_0).run Empty.elim = f124 k a0_0).trans h)
theorem sf124_ok (k : Nat) : SumOk Try.prog CC0 P0 G 124 (sf124 k) := by
 intro as0' os0' lk r l h0'
 unfold sf124 at h0'
 obtain ⟨v0, as1', rfl, h1'⟩ := lH_runs h0'; obtain ⟨rfl, h2'⟩ := lT_runs h1'; obtain ⟨rfl, h3'⟩ := lT_runs h2'; obtain ⟨a0_0, e1, h4'⟩ := argS_runs h3'; obtain ⟨z', hz', h⟩ := call_runs h4'
 obtain ⟨rfl, rfl⟩ := runs_ret.1 h; exact ⟨rfl, by simp only [List.map_cons, List.map_nil, e1]; exact f124_ok hz'⟩
end Go.Proofs.Ytfjoamlgbegpgaa.P
namespace Go.Proofs.Ytfjoamlgbegpgaa.P
open Go Go.Proofs.Ytfjoamlgbegpgaa.PM Go.Proofs.Ytfjoamlgbegpgaa.PN Go.Proofs
set_option maxRecDepth 100000
set_option linter.unusedVariables false
def envf106 (k : Nat) : Ev El := envOf CC0 [(124, sf124 k)]
theorem envf106_ok (k : Nat) : EvOk Try.prog CC0 P0 G (envf106 k) := env_ok (sums_cons (sf124_ok k) (sums_nil))
def ktf106 : Nat → Nat → Nat := fun rid q => 0
theorem f106_ok {k : Nat} {a0_0 : ByteArray} {r : Int × Int × (List S104)} (h : f106 k a0_0 = some r) : callT Try.prog CC0 P0 106 (List.map (denV G) [.s a0_0]) (List.map (denO G) []) = some (denV G (f106.o a0_0 r).1, List.map (denO G) (f106.o a0_0 r).2) :=
 fn_ok (k := k) (E := envf106) (kt := ktf106) (start := f106.start k a0_0) (stt := f106.st) (o := f106.o a0_0) (h0 := .all) (D := f106.D) (blk := f106.blk) (hint := f106.hint) (objs := []) G_ok envf106_ok rfl Try.func106 rfl (by kernel_rfl) (by kernel_rfl) rfl (Nat.le_of_ble_eq_true (by kernel_rfl)) (fun x => by cases x <;> kernel_rfl) (fun k x => by cases x <;> kernel_rfl) (fun k x => by cases x <;> kernel_rfl) (by kernel_rfl) ((by kernel_rfl : (f106.start k a0_0).run (f106.D k) = f106 k a0_0).trans h)
theorem sf106_ok (k : Nat) : SumOk Try.prog CC0 P0 G 106 (sf106 k) := by
 intro as0' os0' lk r l h0'
 unfold sf106 at h0'
 obtain ⟨v0, as1', rfl, h1'⟩ := lH_runs h0'; obtain ⟨rfl, h2'⟩ := lT_runs h1'; obtain ⟨rfl, h3'⟩ := lT_runs h2'; obtain ⟨a0_0, e1, h4'⟩ := argS_runs h3'; obtain ⟨z', hz', h⟩ := call_runs h4'
 obtain ⟨rfl, rfl⟩ := runs_ret.1 h; exact ⟨rfl, by simp only [List.map_cons, List.map_nil, e1]; exact f106_ok hz'⟩
end Go.Proofs.Ytfjoamlgbegpgaa.P
namespace Go.Proofs.Ytfjoamlgbegpgaa.P
open Go Go.Proofs.Ytfjoamlgbegpgaa.PM Go.Proofs.Ytfjoamlgbegpgaa.PN Go.Proofs
set_option maxRecDepth 100000
set_option linter.unusedVariables false
def envf107 (k : Nat) : Ev El := envOf CC0 []
theorem envf107_ok (k : Nat) : EvOk Try.prog CC0 P0 G (envf107 k) := env_ok (sums_nil)
def ktf107 : Nat → Nat → Nat := fun rid q => 0
theorem f107_ok {k : Nat} {a0_0 : ByteArray} {r : Int × ByteArray × Bool} (h : f107 k a0_0 = some r) : callT Try.prog CC0 P0 107 (List.map (denV G) [.s a0_0]) (List.map (denO G) []) = some (denV G (f107.o a0_0 r).1, List.map (denO G) (f107.o a0_0 r).2) :=
 fn_ok (k := k) (E := envf107) (kt := ktf107) (start := f107.start k a0_0) (stt := f107.st) (o := f107.o a0_0) (h0 := .all) (D := f107.D) (blk := f107.blk) (hint := f107.hint) (objs := []) G_ok envf107_ok rfl Try.func107 rfl (by kernel_rfl) (by kernel_rfl) rfl (Nat.le_of_ble_eq_true (by kernel_rfl)) (fun x => by cases x <;> kernel_rfl) (fun k x => by cases x <;> kernel_rfl) (fun k x => by cases x <;> kernel_rfl) (by kernel_rfl) ((by kernel_rfl : (f107.start k a0_0).run (f107.D k) = f107 k a0_0).trans h)
theorem sf107_ok (k : Nat) : SumOk Try.prog CC0 P0 G 107 (sf107 k) := by
 intro as0' os0' lk r l h0'
 unfold sf107 at h0'
 obtain ⟨v0, as1', rfl, h1'⟩ := lH_runs h0'; obtain ⟨rfl, h2'⟩ := lT_runs h1'; obtain ⟨rfl, h3'⟩ := lT_runs h2'; obtain ⟨a0_0, e1, h4'⟩ := argS_runs h3'; obtain ⟨z', hz', h⟩ := call_runs h4'
 obtain ⟨rfl, rfl⟩ := runs_ret.1 h; exact ⟨rfl, by simp only [List.map_cons, List.map_nil, e1]; exact f107_ok hz'⟩
end Go.Proofs.Ytfjoamlgbegpgaa.P
namespace Go.Proofs.Ytfjoamlgbegpgaa.P
open Go Go.Proofs.Ytfjoamlgbegpgaa.PM Go.Proofs.Ytfjoamlgbegpgaa.PN Go.Proofs
set_option maxRecDepth 100000
set_option linter.unusedVariables false
def envf137 (k : Nat) : Ev El := envOf CC0 [(107, sf107 k)]
theorem envf137_ok (k : Nat) : EvOk Try.prog CC0 P0 G (envf137 k) := env_ok (sums_cons (sf107_ok k) (sums_nil))
def ktf137 : Nat → Nat → Nat := fun rid q => 0
theorem f137_ok {k : Nat} {a0_0 : ByteArray} {r : ByteArray × ByteArray × Bool} (h : f137 k a0_0 = some r) : callT Try.prog CC0 P0 137 (List.map (denV G) [.s a0_0]) (List.map (denO G) []) = some (denV G (f137.o a0_0 r).1, List.map (denO G) (f137.o a0_0 r).2) :=
 fn_ok0 (k := k) (E := envf137) (kt := ktf137) (start := f137.start k a0_0) (o := f137.o a0_0) (h0 := (.skip (.both (.l (.l (.both (.l (.l (.l (.l .all)))) (.r (.r (.r (.r .all))))))) (.r (.r .all))))) (objs := []) G_ok envf137_ok rfl Try.func137 rfl (by kernel_rfl) (by kernel_rfl) rfl (Nat.le_of_ble_eq_true (by kernel_rfl)) (by kernel_rfl) ((by kernel_rfl : (f137.start k a0_0).run Empty.elim = f137 k a0_0).trans h)
theorem sf137_ok (k : Nat) : SumOk Try.prog CC0 P0 G 137 (sf137 k) := by
 intro as0' os0' lk r l h0'
 unfold sf137 at h0'
 obtain ⟨v0, as1', rfl, h1'⟩ := lH_runs h0'; obtain ⟨rfl, h2'⟩ := lT_runs h1'; obtain ⟨rfl, h3'⟩ := lT_runs h2'; obtain ⟨a0_0, e1, h4'⟩ := argS_runs h3'; obtain ⟨z', hz', h⟩ := call_runs h4'
 obtain ⟨rfl, rfl⟩ := runs_ret.1 h; exact ⟨rfl, by simp only [List.map_cons, List.map_nil, e1]; exact f137_ok hz'⟩
end Go.Proofs.Ytfjoamlgbegpgaa.P
namespace Go.Proofs.Ytfjoamlgbegpgaa.P
open Go Go.Proofs.Ytfjoamlgbegpgaa.PM Go.Proofs.Ytfjoamlgbegpgaa.PN Go.Proofs
set_option maxRecDepth 100000
set_option linter.unusedVariables false
def envf138 (k : Nat) : Ev El := envOf CC0 [(58, sf58 k)]
theorem envf138_ok (k : Nat) : EvOk Try.prog CC0 P0 G (envf138 k) := env_ok (sums_cons (sf58_ok k) (sums_nil))
def ktf138 : Nat → Nat → Nat := fun rid q => 0
theorem f138_ok {k : Nat} {a0_0 : Int} {a0_1 : Int} {a0_2 : ByteArray} {r : Bool} (h : f138 k a0_0 a0_1 a0_2 = some r) : callT Try.prog CC0 P0 138 (List.map (denV G) [.agg [.id .i64 0 a0_0, .id .i64 0 a0_1, .s a0_2]]) (List.map (denO G) []) = some (denV G (f138.o a0_0 a0_1 a0_2 r).1, List.map (denO G) (f138.o a0_0 a0_1 a0_2 r).2) :=
 fn_ok0 (k := k) (E := envf138) (kt := ktf138) (start := f138.start k a0_0 a0_1 a0_2) (o := f138.o a0_0 a0_1 a0_2) (h0 := (.skip (.both (.l (.l (.skip (.l (.both (.l (.l (.l (.l .all)))) (.r (.r (.r (.r .all))))))))) (.r (.r (.r .all)))))) (objs := []) G_ok envf138_ok rfl Try.func138 rfl (by kernel_rfl) (by kernel_rfl) rfl (Nat.le_of_ble_eq_true (by kernel_rfl)) (by kernel_rfl) ((by kernel_rfl : (f138.start k a0_0 a0_1 a0_2).run Empty.elim = f138 k a0_0 a0_1 a0_2).trans h)
theorem sf138_ok (k : Nat) : SumOk Try.prog CC0 P0 G 138 (sf138 k) := by
 intro as0' os0' lk r l h0'
 unfold sf138 at h0'
 obtain ⟨v0, as1', rfl, h1'⟩ := lH_runs h0'; obtain ⟨rfl, h2'⟩ := lT_runs h1'; obtain ⟨rfl, h3'⟩ := lT_runs h2'; obtain ⟨b1', e1, h4'⟩ := argA_runs h3'; obtain ⟨y2', r2', e2, h5'⟩ := argH_runs h4'; obtain ⟨y3', r3', e3, h6'⟩ := argH_runs h5'; obtain ⟨y4', r4', e4, h7'⟩ := argH_runs h6'; obtain ⟨e5, h8'⟩ := argT_runs h7'; obtain ⟨a0_0, e6, h9'⟩ := argI_runs h8'; obtain ⟨a0_1, e7, h10'⟩ := argI_runs h9'; obtain ⟨a0_2, e8, h11'⟩ := argS_runs h10'; obtain ⟨z', hz', h⟩ := call_runs h11'
 obtain ⟨rfl, rfl⟩ := runs_ret.1 h; exact ⟨rfl, by simp only [List.map_cons, List.map_nil, e1, e2, e3, e4, e5, e6, e7, e8]; exact f138_ok hz'⟩
end Go.Proofs.Ytfjoamlgbegpgaa.P
namespace Go.Proofs.Ytfjoamlgbegpgaa.P
open Go Go.Proofs.Ytfjoamlgbegpgaa.PM Go.Proofs.Ytfjoamlgbegpgaa.PN Go.Proofs
set_option maxRecDepth 100000
set_option linter.unusedVariables false
def envf125 (k : Nat) : Ev El := envOf CC0 [(107, sf107 k), (137, sf137 k), (138, sf138 k)]
theorem envf125_ok (k : Nat) : EvOk Try.prog CC0 P0 G (envf125 k) := env_ok (sums_cons (sf107_ok k) (sums_cons (sf137_ok k) (sums_cons (sf138_ok k) (sums_nil))))
def ktf125 : Nat → Nat → Nat := fun rid q => 0
theorem f125_ok {k : Nat} {a0_0 : Int} {a0_1 : ByteArray} {r : Int × Int × ByteArray × Bool} (h : f125 k a0_0 a0_1 = some r) : callT Try.prog CC0 P0 125 (List.map (denV G) [.agg [.id .i64 0 a0_0, .s a0_1]]) (List.map (denO G) []) = some (denV G (f125.o a0_0 a0_1 r).1, List.map (denO G) (f125.o a0_0 a0_1 r).2) :=
 fn_ok0 (k := k) (E := envf125) (kt := ktf125) (start := f125.start k a0_0 a0_1) (o := f125.o a0_0 a0_1) (h0 := (.skip (.skip (.skip (.both (.l (.both (.l (.both (.l (.both (.l (.l (.both (.l (.skip (.l .all))) (.r (.r .all))))) (.r (.r .all)))) (.r .all))) (.r .all))) (.r .all)))))) (objs := []) G_ok envf125_ok rfl Try.func125 rfl (by kernel_rfl) (by kernel_rfl) rfl (Nat.le_of_ble_eq_true (by kernel_rfl)) (by kernel_rfl) ((by kernel_rfl : (f125.start k a0_0 a0_1).run Empty.elim = f125 k a0_0 a0_1).trans h)
theorem sf125_ok (k : Nat) : SumOk Try.prog CC0 P0 G 125 (sf125 k) := by
 intro as0' os0' lk r l h0'
 unfold sf125 at h0'
 obtain ⟨v0, as1', rfl, h1'⟩ := lH_runs h0'; obtain ⟨rfl, h2'⟩ := lT_runs h1'; obtain ⟨rfl, h3'⟩ := lT_runs h2'; obtain ⟨b1', e1, h4'⟩ := argA_runs h3'; obtain ⟨y2', r2', e2, h5'⟩ := argH_runs h4'; obtain ⟨y3', r3', e3, h6'⟩ := argH_runs h5'; obtain ⟨e4, h7'⟩ := argT_runs h6'; obtain ⟨a0_0, e5, h8'⟩ := argI_runs h7'; obtain ⟨a0_1, e6, h9'⟩ := argS_runs h8'; obtain ⟨z', hz', h⟩ := call_runs h9'
 obtain ⟨rfl, rfl⟩ := runs_ret.1 h; exact ⟨rfl, by simp only [List.map_cons, List.map_nil, e1, e2, e3, e4, e5, e6]; exact f125_ok hz'⟩
end Go.Proofs.Ytfjoamlgbegpgaa.P
namespace Go.Proofs.Ytfjoamlgbegpgaa.P
open Go Go.Proofs.Ytfjoamlgbegpgaa.PM Go.Proofs.Ytfjoamlgbegpgaa.PN Go.Proofs
set_option maxRecDepth 100000
set_option linter.unusedVariables false
def envf130 (k : Nat) : Ev El := envOf CC0 []
theorem envf130_ok (k : Nat) : EvOk Try.prog CC0 P0 G (envf130 k) := env_ok (sums_nil)
def ktf130 : Nat → Nat → Nat := fun rid q => 0
theorem f130_ok {k : Nat} {a0_0 : Int} {r : ByteArray} (h : f130 k a0_0 = some r) : callT Try.prog CC0 P0 130 (List.map (denV G) [.id .u32 1 a0_0]) (List.map (denO G) []) = some (denV G (f130.o a0_0 r).1, List.map (denO G) (f130.o a0_0 r).2) :=
 fn_ok0 (k := k) (E := envf130) (kt := ktf130) (start := f130.start k a0_0) (o := f130.o a0_0) (h0 := .all) (objs := []) G_ok envf130_ok rfl Try.func130 rfl (by kernel_rfl) (by kernel_rfl) rfl (Nat.le_of_ble_eq_true (by kernel_rfl)) (by kernel_rfl) ((by kernel_rfl : (f130.start k a0_0).run Empty.elim = f130 k a0_0).trans h)
theorem sf130_ok (k : Nat) : SumOk Try.prog CC0 P0 G 130 (sf130 k) := by
 intro as0' os0' lk r l h0'
 unfold sf130 at h0'
 obtain ⟨v0, as1', rfl, h1'⟩ := lH_runs h0'; obtain ⟨rfl, h2'⟩ := lT_runs h1'; obtain ⟨rfl, h3'⟩ := lT_runs h2'; obtain ⟨a0_0, e1, h4'⟩ := argI_runs h3'; obtain ⟨z', hz', h⟩ := call_runs h4'
 obtain ⟨rfl, rfl⟩ := runs_ret.1 h; exact ⟨rfl, by simp only [List.map_cons, List.map_nil, e1]; exact f130_ok hz'⟩
end Go.Proofs.Ytfjoamlgbegpgaa.P
namespace Go.Proofs.Ytfjoamlgbegpgaa.P
open Go Go.Proofs.Ytfjoamlgbegpgaa.PM Go.Proofs.Ytfjoamlgbegpgaa.PN Go.Proofs
set_option maxRecDepth 100000
set_option linter.unusedVariables false
def envf113 (k : Nat) : Ev El := envOf CC0 [(58, sf58 k), (130, sf130 k), (131, sf131 k)]
theorem envf113_ok (k : Nat) : EvOk Try.prog CC0 P0 G (envf113 k) := env_ok (sums_cons (sf58_ok k) (sums_cons (sf130_ok k) (sums_cons (sf131_ok k) (sums_nil))))
def ktf113 : Nat → Nat → Nat := fun rid q => 0
theorem f113_ok {k : Nat} {a0_0 : Int} {a0_1 : ByteArray} {r : ByteArray} (h : f113 k a0_0 a0_1 = some r) : callT Try.prog CC0 P0 113 (List.map (denV G) [.agg [.id .i64 0 a0_0, .s a0_1]]) (List.map (denO G) []) = some (denV G (f113.o a0_0 a0_1 r).1, List.map (denO G) (f113.o a0_0 a0_1 r).2) :=
 fn_ok0 (k := k) (E := envf113) (kt := ktf113) (start := f113.start k a0_0 a0_1) (o := f113.o a0_0 a0_1) (h0 := (.skip (.both (.l (.l (.l (.l .all)))) (.r (.r (.r (.r .all))))))) (objs := []) G_ok envf113_ok rfl Try.func113 rfl (by kernel_rfl) (by kernel_rfl) rfl (Nat.le_of_ble_eq_true (by kernel_rfl)) (by kernel_rfl) ((by kernel_rfl : (f113.start k a0_0 a0_1).run Empty.elim = f113 k a0_0 a0_1).trans h)
theorem sf113_ok (k : Nat) : SumOk Try.prog CC0 P0 G 113 (sf113 k) := by
 intro as0' os0' lk r l h0'
 unfold sf113 at h0'
 obtain ⟨v0, as1', rfl, h1'⟩ := lH_runs h0'; obtain ⟨rfl, h2'⟩ := lT_runs h1'; obtain ⟨rfl, h3'⟩ := lT_runs h2'; obtain ⟨b1', e1, h4'⟩ := argA_runs h3'; obtain ⟨y2', r2', e2, h5'⟩ := argH_runs h4'; obtain ⟨y3', r3', e3, h6'⟩ := argH_runs h5'; obtain ⟨e4, h7'⟩ := argT_runs h6'; obtain ⟨a0_0, e5, h8'⟩ := argI_runs h7'; obtain ⟨a0_1, e6, h9'⟩ := argS_runs h8'; obtain ⟨z', hz', h⟩ := call_runs h9'
 obtain ⟨rfl, rfl⟩ := runs_ret.1 h; exact ⟨rfl, by simp only [List.map_cons, List.map_nil, e1, e2, e3, e4, e5, e6]; exact f113_ok hz'⟩
end Go.Proofs.Ytfjoamlgbegpgaa.P
namespace Go.Proofs.Ytfjoamlgbegpgaa.P
open Go Go.Proofs.Ytfjoamlgbegpgaa.PM Go.Proofs.Ytfjoamlgbegpgaa.PN Go.Proofs
set_option maxRecDepth 100000
set_option linter.unusedVariables false
def envf114 (k : Nat) : Ev El := envOf CC0 [(58, sf58 k)]
theorem envf114_ok (k : Nat) : EvOk Try.prog CC0 P0 G (envf114 k) := env_ok (sums_cons (sf58_ok k) (sums_nil))
def ktf114 : Nat → Nat → Nat := fun rid q => 0
theorem f114_ok {k : Nat} {a0_0 : Int} {r : ByteArray} (h : f114 k a0_0 = some r) : callT Try.prog CC0 P0 114 (List.map (denV G) [.id .i64 1 a0_0]) (List.map (denO G) []) = some (denV G (f114.o a0_0 r).1, List.map (denO G) (f114.o a0_0 r).2) :=
 fn_ok (k := k) (E := envf114) (kt := ktf114) (start := f114.start k a0_0) (stt := f114.st) (o := f114.o a0_0) (h0 := .all) (D := f114.D) (blk := f114.blk) (hint := f114.hint) (objs := []) G_ok envf114_ok rfl Try.func114 rfl (by kernel_rfl) (by kernel_rfl) rfl (Nat.le_of_ble_eq_true (by kernel_rfl)) (fun x => by cases x <;> kernel_rfl) (fun k x => by cases x <;> kernel_rfl) (fun k x => by cases x <;> kernel_rfl) (by kernel_rfl) ((by kernel_rfl : (f114.start k a0_0).run (f114.D k) = f114 k a0_0).trans h)
theorem sf114_ok (k : Nat) : SumOk Try.prog CC0 P0 G 114 (sf114 k) := by
 intro as0' os0' lk r l h0'
 unfold sf114 at h0'
 obtain ⟨v0, as1', rfl, h1'⟩ := lH_runs h0'; obtain ⟨rfl, h2'⟩ := lT_runs h1'; obtain ⟨rfl, h3'⟩ := lT_runs h2'; obtain ⟨a0_0, e1, h4'⟩ := argI_runs h3'; obtain ⟨z', hz', h⟩ := call_runs h4'
 obtain ⟨rfl, rfl⟩ := runs_ret.1 h; exact ⟨rfl, by simp only [List.map_cons, List.map_nil, e1]; exact f114_ok hz'⟩
end Go.Proofs.Ytfjoamlgbegpgaa.P
namespace Go.Proofs.Ytfjoamlgbegpgaa.P
open Go Go.Proofs.Ytfjoamlgbegpgaa.PM Go.Proofs.Ytfjoamlgbegpgaa.PN Go.Proofs
set_option maxRecDepth 100000
set_option linter.unusedVariables false
def envf139 (k : Nat) : Ev El := envOf CC0 [(114, sf114 k)]
theorem envf139_ok (k : Nat) : EvOk Try.prog CC0 P0 G (envf139 k) := env_ok (sums_cons (sf114_ok k) (sums_nil))
def ktf139 : Nat → Nat → Nat := fun rid q => 0
theorem f139_ok {k : Nat} {a0_0 : ByteArray} {r : ByteArray} (h : f139 k a0_0 = some r) : callT Try.prog CC0 P0 139 (List.map (denV G) [.s a0_0]) (List.map (denO G) []) = some (denV G (f139.o a0_0 r).1, List.map (denO G) (f139.o a0_0 r).2) :=
 fn_ok0 (k := k) (E := envf139) (kt := ktf139) (start := f139.start k a0_0) (o := f139.o a0_0) (h0 := .all) (objs := []) G_ok envf139_ok rfl Try.func139 rfl (by kernel_rfl) (by kernel_rfl) rfl (Nat.le_of_ble_eq_true (by kernel_rfl)) (by kernel_rfl) ((by kernel_rfl : (f139.start k a0_0).run Empty.elim = f139 k a0_0).trans h)
theorem sf139_ok (k : Nat) : SumOk Try.prog CC0 P0 G 139 (sf139 k) := by
 intro as0' os0' lk r l h0'
 unfold sf139 at h0'
 obtain ⟨v0, as1', rfl, h1'⟩ := lH_runs h0'; obtain ⟨rfl, h2'⟩ := lT_runs h1'; obtain ⟨rfl, h3'⟩ := lT_runs h2'; obtain ⟨a0_0, e1, h4'⟩ := argS_runs h3'; obtain ⟨z', hz', h⟩ := call_runs h4'
 obtain ⟨rfl, rfl⟩ := runs_ret.1 h; exact ⟨rfl, by simp only [List.map_cons, List.map_nil, e1]; exact f139_ok hz'⟩
end Go.Proofs.Ytfjoamlgbegpgaa.P
namespace Go.Proofs.Ytfjoamlgbegpgaa.P
open Go Go.Proofs.Ytfjoamlgbegpgaa.PM Go.Proofs.Ytfjoamlgbegpgaa.PN Go.Proofs
set_option maxRecDepth 100000
set_option linter.unusedVariables false
def envf126 (k : Nat) : Ev El := envOf CC0 [(113, sf113 k), (114, sf114 k), (138, sf138 k), (139, sf139 k)]
theorem envf126_ok (k : Nat) : EvOk Try.prog CC0 P0 G (envf126 k) := env_ok (sums_cons (sf113_ok k) (sums_cons (sf114_ok k) (sums_cons (sf138_ok k) (sums_cons (sf139_ok k) (sums_nil)))))
def ktf126 : Nat → Nat → Nat := fun rid q => 0
theorem f126_ok {k : Nat} {a0_0 : Int} {a0_1 : Int} {a0_2 : ByteArray} {r : ByteArray} (h : f126 k a0_0 a0_1 a0_2 = some r) : callT Try.prog CC0 P0 126 (List.map (denV G) [.agg [.id .i64 0 a0_0, .id .i64 0 a0_1, .s a0_2]]) (List.map (denO G) []) = some (denV G (f126.o a0_0 a0_1 a0_2 r).1, List.map (denO G) (f126.o a0_0 a0_1 a0_2 r).2) :=
 fn_ok0 (k := k) (E := envf126) (kt := ktf126) (start := f126.start k a0_0 a0_1 a0_2) (o := f126.o a0_0 a0_1 a0_2) (h0 := .all) (objs := []) G_ok envf126_ok rfl Try.func126 rfl (by kernel_rfl) (by kernel_rfl) rfl (Nat.le_of_ble_eq_true (by kernel_rfl)) (by kernel_rfl) ((by kernel_rfl : (f126.start k a0_0 a0_1 a0_2).run Empty.elim = f126 k a0_0 a0_1 a0_2).trans h)
theorem sf126_ok (k : Nat) : SumOk Try.prog CC0 P0 G 126 (sf126 k) := by
 intro as0' os0' lk r l h0'
 unfold sf126 at h0'
 obtain ⟨v0, as1', rfl, h1'⟩ := lH_runs h0'; obtain ⟨rfl, h2'⟩ := lT_runs h1'; obtain ⟨rfl, h3'⟩ := lT_runs h2'; obtain ⟨b1', e1, h4'⟩ := argA_runs h3'; obtain ⟨y2', r2', e2, h5'⟩ := argH_runs h4'; obtain ⟨y3', r3', e3, h6'⟩ := argH_runs h5'; obtain ⟨y4', r4', e4, h7'⟩ := argH_runs h6'; obtain ⟨e5, h8'⟩ := argT_runs h7'; obtain ⟨a0_0, e6, h9'⟩ := argI_runs h8'; obtain ⟨a0_1, e7, h10'⟩ := argI_runs h9'; obtain ⟨a0_2, e8, h11'⟩ := argS_runs h10'; obtain ⟨z', hz', h⟩ := call_runs h11'
 obtain ⟨rfl, rfl⟩ := runs_ret.1 h; exact ⟨rfl, by simp only [List.map_cons, List.map_nil, e1, e2, e3, e4, e5, e6, e7, e8]; exact f126_ok hz'⟩
end Go.Proofs.Ytfjoamlgbegpgaa.P
namespace Go.Proofs.Ytfjoamlgbegpgaa.P
open Go Go.Proofs.Ytfjoamlgbegpgaa.PM Go.Proofs.Ytfjoamlgbegpgaa.PN Go.Proofs
set_option maxRecDepth 100000
set_option linter.unusedVariables false
def envf108 (k : Nat) : Ev El := envOf CC0 [(106, sf106 k), (125, sf125 k), (126, sf126 k)]
theorem envf108_ok (k : Nat) : EvOk Try.prog CC0 P0 G (envf108 k) := env_ok (sums_cons (sf106_ok k) (sums_cons (sf125_ok k) (sums_cons (sf126_ok k) (sums_nil))))
def ktf108 : Nat → Nat → Nat := fun rid q => 0
theorem f108_ok {k : Nat} {a0_0 : ByteArray} {a1_0 : Int} {r : Int × (List S136)} (h : f108 k a0_0 a1_0 = some r) : callT Try.prog CC0 P0 108 (List.map (denV G) [.s a0_0, .id .i64 2 a1_0]) (List.map (denO G) []) = some (denV G (f108.o a0_0 a1_0 r).1, List.map (denO G) (f108.o a0_0 a1_0 r).2) :=
 fn_ok (k := k) (E := envf108) (kt := ktf108) (start := f108.start k a0_0 a1_0) (stt := f108.st) (o := f108.o a0_0 a1_0) (h0 := .all) (D := f108.D) (blk := f108.blk) (hint := f108.hint) (objs := []) G_ok envf108_ok rfl Try.func108 rfl (by kernel_rfl) (by kernel_rfl) rfl (Nat.le_of_ble_eq_true (by kernel_rfl)) (fun x => by cases x <;> kernel_rfl) (fun k x => by cases x <;> kernel_rfl) (fun k x => by cases x <;> kernel_rfl) (by kernel_rfl) ((by kernel_rfl : (f108.start k a0_0 a1_0).run (f108.D k) = f108 k a0_0 a1_0).trans h)
theorem sf108_ok (k : Nat) : SumOk Try.prog CC0 P0 G 108 (sf108 k) := by
 intro as0' os0' lk r l h0'
 unfold sf108 at h0'
 obtain ⟨v0, as1', rfl, h1'⟩ := lH_runs h0'; obtain ⟨v1, as2', rfl, h2'⟩ := lH_runs h1'; obtain ⟨rfl, h3'⟩ := lT_runs h2'; obtain ⟨rfl, h4'⟩ := lT_runs h3'; obtain ⟨a0_0, e1, h5'⟩ := argS_runs h4'; obtain ⟨a1_0, e2, h6'⟩ := argI_runs h5'; obtain ⟨z', hz', h⟩ := call_runs h6'
 obtain ⟨rfl, rfl⟩ := runs_ret.1 h; exact ⟨rfl, by simp only [List.map_cons, List.map_nil, e1, e2]; exact f108_ok hz'⟩
end Go.Proofs.Ytfjoamlgbegpgaa.P
namespace Go.Proofs.Ytfjoamlgbegpgaa.P
open Go Go.Proofs.Ytfjoamlgbegpgaa.PM Go.Proofs.Ytfjoamlgbegpgaa.PN Go.Proofs
set_option maxRecDepth 100000
set_option linter.unusedVariables false
def envf72 (k : Nat) : Ev El := envOf CC0 [(52, sf52 k), (106, sf106 k), (107, sf107 k), (108, sf108 k)]
theorem envf72_ok (k : Nat) : EvOk Try.prog CC0 P0 G (envf72 k) := env_ok (sums_cons (sf52_ok k) (sums_cons (sf106_ok k) (sums_cons (sf107_ok k) (sums_cons (sf108_ok k) (sums_nil)))))
def ktf72 : Nat → Nat → Nat := fun rid q => 0
theorem f72_ok {k : Nat} {a0_0 : List S80} {a0_1 : List S80} {a0_2 : List S73} {r : Int × Int × Int × Bool × (List S136)} (h : f72 k a0_0 a0_1 a0_2 = some r) : callT Try.prog CC0 P0 72 (List.map (denV G) [.agg [.sl 2 a0_0 [], .sl 2 a0_1 [], .sl 3 a0_2 []]]) (List.map (denO G) []) = some (denV G (f72.o a0_0 a0_1 a0_2 r).1, List.map (denO G) (f72.o a0_0 a0_1 a0_2 r).2) :=
 fn_ok0 (k := k) (E := envf72) (kt := ktf72) (start := f72.start k a0_0 a0_1 a0_2) (o := f72.o a0_0 a0_1 a0_2) (h0 := (.skip (.both (.skip (.both (.l (.l (.l (.both (.skip (.skip (.both (.l (.l (.both (.l (.l (.both (.l (.l .all)) (.r (.r .all))))) (.r (.r .all))))) (.r (.r .all))))) .all)))) (.r (.r (.r .all))))) .all))) (objs := []) G_ok envf72_ok rfl Try.func72 rfl (by kernel_rfl) (by kernel_rfl) rfl (Nat.le_of_ble_eq_true (by kernel_rfl)) (by kernel_rfl) ((by kernel_rfl : (f72.start k a0_0 a0_1 a0_2).run Empty.elim = f72 k a0_0 a0_1 a0_2).trans h)
theorem sf72_ok (k : Nat) : SumOk Try.prog CC0 P0 G 72 (sf72 k) := by
 intro as0' os0' lk r l h0'
 unfold sf72 at h0'
 obtain ⟨v0, as1', rfl, h1'⟩ := lH_runs h0'; obtain ⟨rfl, h2'⟩ := lT_runs h1'; obtain ⟨rfl, h3'⟩ := lT_runs h2'; obtain ⟨b1', e1, h4'⟩ := argA_runs h3'; obtain ⟨y2', r2', e2, h5'⟩ := argH_runs h4'; obtain ⟨y3', r3', e3, h6'⟩ := argH_runs h5'; obtain ⟨y4', r4', e4, h7'⟩ := argH_runs h6'; obtain ⟨e5, h8'⟩ := argT_runs h7'; obtain ⟨a0_0, e6, h9'⟩ := argL_runs h8'; obtain ⟨a0_1, e7, h10'⟩ := argL_runs h9'; obtain ⟨a0_2, e8, h11'⟩ := argL_runs h10'; obtain ⟨z', hz', h⟩ := call_runs h11'
 obtain ⟨rfl, rfl⟩ := runs_ret.1 h; exact ⟨rfl, by simp only [List.map_cons, List.map_nil, e1, e2, e3, e4, e5, e6, e7, e8]; exact f72_ok hz'⟩
end Go.Proofs.Ytfjoamlgbegpgaa.P
namespace Go.Proofs.Ytfjoamlgbegpgaa.P
open Go Go.Proofs.Ytfjoamlgbegpgaa.PM Go.Proofs.Ytfjoamlgbegpgaa.PN Go.Proofs
set_option maxRecDepth 100000
set_option linter.unusedVariables false
def envf77 (k : Nat) : Ev El := envOf CC0 [(113, sf113 k), (114, sf114 k)]
theorem envf77_ok (k : Nat) : EvOk Try.prog CC0 P0 G (envf77 k) := env_ok (sums_cons (sf113_ok k) (sums_cons (sf114_ok k) (sums_nil)))
def ktf77 : Nat → Nat → Nat := fun rid q => 0
theorem f77_ok {k : Nat} {a0_0 : Int} {a1_0 : Int} {r : ByteArray} (h : f77 k a0_0 a1_0 = some r) : callT Try.prog CC0 P0 77 (List.map (denV G) [.id .i64 1 a0_0, .id .i64 2 a1_0]) (List.map (denO G) []) = some (denV G (f77.o a0_0 a1_0 r).1, List.map (denO G) (f77.o a0_0 a1_0 r).2) :=
 fn_ok0 (k := k) (E := envf77) (kt := ktf77) (start := f77.start k a0_0 a1_0) (o := f77.o a0_0 a1_0) (h0 := .all) (objs := []) G_ok envf77_ok rfl Try.func77 rfl (by kernel_rfl) (by kernel_rfl) rfl (Nat.le_of_ble_eq_true (by kernel_rfl)) (by kernel_rfl) ((by kernel_rfl : (f77.start k a0_0 a1_0).run Empty.elim = f77 k a0_0 a1_0).trans h)
theorem sf77_ok (k : Nat) : SumOk Try.prog CC0 P0 G 77 (sf77 k) := by
 intro as0' os0' lk r l h0'
 unfold sf77 at h0'
 obtain ⟨v0, as1', rfl, h1'⟩ := lH_runs h0'; obtain ⟨v1, as2', rfl, h2'⟩ := lH_runs h1'; obtain ⟨rfl, h3'⟩ := lT_runs h2'; obtain ⟨rfl, h4'⟩ := lT_runs h3'; obtain ⟨a0_0, e1, h5'⟩ := argI_runs h4'; obtain ⟨a1_0, e2, h6'⟩ := argI_runs h5'; obtain ⟨z', hz', h⟩ := call_runs h6'
 obtain ⟨rfl, rfl⟩ := runs_ret.1 h; exact ⟨rfl, by simp only [List.map_cons, List.map_nil, e1, e2]; exact f77_ok hz'⟩
end Go.Proofs.Ytfjoamlgbegpgaa.P
namespace Go.Proofs.Ytfjoamlgbegpgaa.P
open Go Go.Proofs.Ytfjoamlgbegpgaa.PM Go.Proofs.Ytfjoamlgbegpgaa.PN Go.Proofs
set_option maxRecDepth 100000
set_option linter.unusedVariables false
def envf39 (k : Nat) : Ev El := envOf CC0 [(13, sf13 k), (26, sf26 k), (28, sf28 k), (58, sf58 k), (66, sf66 k), (72, sf72 k), (77, sf77 k)]
theorem envf39_ok (k : Nat) : EvOk Try.prog CC0 P0 G (envf39 k) := env_ok (sums_cons (sf13_ok k) (sums_cons (sf26_ok k) (sums_cons (sf28_ok k) (sums_cons (sf58_ok k) (sums_cons (sf66_ok k) (sums_cons (sf72_ok k) (sums_cons (sf77_ok k) (sums_nil))))))))
def ktf39 : Nat → Nat → Nat := fun rid q => 0
theorem f39_ok {k : Nat} {a0_0 : List S80} {a0_1 : List S80} {a0_2 : List S73} {a1_0 : Int} {a2_0 : Int} {r : Int × (List S80) × (List S80) × (List S73)} (h : f39 k a0_0 a0_1 a0_2 a1_0 a2_0 = some r) : callT Try.prog CC0 P0 39 (List.map (denV G) [.agg [.sl 2 a0_0 [], .sl 2 a0_1 [], .sl 3 a0_2 []], .id .i64 2 a1_0, .id .i64 3 a2_0]) (List.map (denO G) []) = some (denV G (f39.o a0_0 a0_1 a0_2 a1_0 a2_0 r).1, List.map (denO G) (f39.o a0_0 a0_1 a0_2 a1_0 a2_0 r).2) :=
 fn_ok0 (k := k) (E := envf39) (kt := ktf39) (start := f39.start k a0_0 a0_1 a0_2 a1_0 a2_0) (o := f39.o a0_0 a0_1 a0_2 a1_0 a2_0) (h0 := (.skip (.both (.skip (.both (.l (.l (.l (.skip (.l (.l (.both (.l (.skip (.l (.l (.both (.l (.l (.l (.l (.both (.l (.l (.l (.l (.l (.both (.l (.l (.l (.l (.l (.l .all)))))) (.r (.r (.r (.l (.r (.l .all)))))))))))) (.r (.r (.l (.r (.l (.l (.l .all)))))))))))) (.r (.r (.r (.r (.r (.r (.r (.r .all))))))))))))) (.r (.r (.r .all)))))))))) (.r (.r (.r (.r (.r .all))))))) .all))) (objs := []) G_ok envf39_ok rfl Try.func39 rfl (by kernel_rfl) (by kernel_rfl) rfl (Nat.le_of_ble_eq_true (by kernel_rfl)) (by kernel_rfl) ((by kernel_rfl : (f39.start k a0_0 a0_1 a0_2 a1_0 a2_0).run Empty.elim = f39 k a0_0 a0_1 a0_2 a1_0 a2_0).trans h)
theorem sf39_ok (k : Nat) : SumOk Try.prog CC0 P0 G 39 (sf39 k) := by
 intro as0' os0' lk r l h0'
 unfold sf39 at h0'
 obtain ⟨v0, as1', rfl, h1'⟩ := lH_runs h0'; obtain ⟨v1, as2', rfl, h2'⟩ := lH_runs h1'; obtain ⟨v2, as3', rfl, h3'⟩ := lH_runs h2'; obtain ⟨rfl, h4'⟩ := lT_runs h3'; obtain ⟨rfl, h5'⟩ := lT_runs h4'; obtain ⟨b1', e1, h6'⟩ := argA_runs h5'; obtain ⟨y2', r2', e2, h7'⟩ := argH_runs h6'; obtain ⟨y3', r3', e3, h8'⟩ := argH_runs h7'; obtain ⟨y4', r4', e4, h9'⟩ := argH_runs h8'; obtain ⟨e5, h10'⟩ := argT_runs h9'; obtain ⟨a0_0, e6, h11'⟩ := argL_runs h10'; obtain ⟨a0_1, e7, h12'⟩ := argL_runs h11'; obtain ⟨a0_2, e8, h13'⟩ := argL_runs h12'; obtain ⟨a1_0, e9, h14'⟩ := argI_runs h13'; obtain ⟨a2_0, e10, h15'⟩ := argI_runs h14'; obtain ⟨z', hz', h⟩ := call_runs h15'
 obtain ⟨rfl, rfl⟩ := runs_ret.1 h; exact ⟨rfl, by simp only [List.map_cons, List.map_nil, e1, e2, e3, e4, e5, e6, e7, e8, e9, e10]; exact f39_ok hz'⟩
end Go.Proofs.Ytfjoamlgbegpgaa.P
namespace Go.Proofs.Ytfjoamlgbegpgaa.P
open Go Go.Proofs.Ytfjoamlgbegpgaa.PM Go.Proofs.Ytfjoamlgbegpgaa.PN Go.Proofs
set_option maxRecDepth 100000
set_option linter.unusedVariables false
theorem f100_ok {k : Nat} {a1_0 : Int} {a2_0 : Int} {o0 : List S80} {r : (List S80)} (h : f100 k a1_0 a2_0 o0 = some r) : callT Try.prog CC0 P0 100 [T.win 0 0 o0.length, T.sc (.int .i64 a1_0), T.sc (.int .i64 a2_0)] [Ob.mkRow 2 (List.map e80 o0)] = some (T.win 1 0 r.length, [(⟨true, false, true, true, 0, 2, List.map e80 o0⟩ : Ob), Ob.mkRow 2 (List.map e80 r)]) := by
 unfold f100 at h
 obtain ⟨⟨h0, h1, h2⟩, h⟩ := ite_l h
 obtain rfl := Option.some.inj h
 refine callT_prim (d := delD 2) rfl ?_
 have hl : (o0.take a1_0.toNat ++ o0.drop (a1_0.toNat + 1)).length = o0.length - 1 := by simp only [List.length_append, List.length_take, List.length_drop]; omega
 simp only [delD, List.length_map]
 rw [if_pos (by simp; omega), hl]
 simp [Ob.dead, Ob.mkRow]
theorem sf100_ok (k : Nat) : SumOk Try.prog CC0 P0 G 100 (sf100 k) := by
 intro as0' os0' lk r l h0'
 unfold sf100 at h0'
 obtain ⟨v0, as1', rfl, h1'⟩ := lH_runs h0'; obtain ⟨v1, as2', rfl, h2'⟩ := lH_runs h1'; obtain ⟨v2, as3', rfl, h3'⟩ := lH_runs h2'; obtain ⟨rfl, h4'⟩ := lT_runs h3'; obtain ⟨x0, os1', rfl, h5'⟩ := lH_runs h4'; obtain ⟨rfl, h6'⟩ := lT_runs h5'; obtain ⟨o0, e1, h7'⟩ := argR_runs h6'; obtain ⟨e2, h8'⟩ := argW_runs h7'; obtain ⟨a1_0, e3, h9'⟩ := argI_runs h8'; obtain ⟨a2_0, e4, h10'⟩ := argI_runs h9'; obtain ⟨z', hz', h⟩ := call_runs h10'
 obtain ⟨rfl, rfl⟩ := runs_ret.1 h; exact ⟨rfl, by simp only [List.map_cons, List.map_nil, e1, e2, e3, e4]; exact f100_ok hz'⟩
end Go.Proofs.Ytfjoamlgbegpgaa.P
namespace Go.Proofs.Ytfjoamlgbegpgaa.P
open Go Go.Proofs.Ytfjoamlgbegpgaa.PM Go.Proofs.Ytfjoamlgbegpgaa.PN Go.Proofs
set_option maxRecDepth 100000
set_option linter.unusedVariables false
def envf94 (k : Nat) : Ev El := envOf CC0 []
theorem envf94_ok (k : Nat) : EvOk Try.prog CC0 P0 G (envf94 k) := env_ok (sums_nil)
def ktf94 : Nat → Nat → Nat := fun rid q => 0
theorem f94_ok {k : Nat} {a0_0 : ByteArray} {a0_1 : ByteArray} {o0_0 : ByteArray} {r : Bool} (h : f94 k a0_0 a0_1 o0_0 = some r) : callT Try.prog CC0 P0 94 (List.map (denV G) [.agg [.s a0_0, .s a0_1], .ptr 0 (.l 0) 0]) (List.map (denO G) [.box true true 0 1 false [.s o0_0]]) = some (denV G (f94.o a0_0 a0_1 o0_0 r).1, List.map (denO G) (f94.o a0_0 a0_1 o0_0 r).2) :=
 fn_ok0 (k := k) (E := envf94) (kt := ktf94) (start := f94.start k a0_0 a0_1 o0_0) (o := f94.o a0_0 a0_1 o0_0) (h0 := .all) (objs := [.box true true 0 1 false [.s o0_0]]) G_ok envf94_ok rfl Try.func94 rfl (by kernel_rfl) (by kernel_rfl) rfl (Nat.le_of_ble_eq_true (by kernel_rfl)) (by kernel_rfl) ((by kernel_rfl : (f94.start k a0_0 a0_1 o0_0).run Empty.elim = f94 k a0_0 a0_1 o0_0).trans h)
theorem sf94_ok (k : Nat) : SumOk Try.prog CC0 P0 G 94 (sf94 k) := by
 intro as0' os0' lk r l h0'
 unfold sf94 at h0'
 obtain ⟨v0, as1', rfl, h1'⟩ := lH_runs h0'; obtain ⟨v1, as2', rfl, h2'⟩ := lH_runs h1'; obtain ⟨rfl, h3'⟩ := lT_runs h2'; obtain ⟨x0, os1', rfl, h4'⟩ := lH_runs h3'; obtain ⟨rfl, h5'⟩ := lT_runs h4'; obtain ⟨b1', e1, h6'⟩ := argX_runs h5'; obtain ⟨y2', r2', e2, h7'⟩ := argH_runs h6'; obtain ⟨e3, h8'⟩ := argT_runs h7'; obtain ⟨o0_0, e4, h9'⟩ := argS_runs h8'; obtain ⟨b3', e5, h10'⟩ := argA_runs h9'; obtain ⟨y4', r4', e6, h11'⟩ := argH_runs h10'; obtain ⟨y5', r5', e7, h12'⟩ := argH_runs h11'; obtain ⟨e8, h13'⟩ := argT_runs h12'; obtain ⟨a0_0, e9, h14'⟩ := argS_runs h13'; obtain ⟨a0_1, e10, h15'⟩ := argS_runs h14'; obtain ⟨e11, h16'⟩ := argV_runs h15'; obtain ⟨z', hz', h⟩ := call_runs h16'
 obtain ⟨rfl, rfl⟩ := runs_ret.1 h; exact ⟨rfl, by simp only [List.map_cons, List.map_nil, e1, e2, e3, e4, e5, e6, e7, e8, e9, e10, e11]; exact f94_ok hz'⟩
end Go.Proofs.Ytfjoamlgbegpgaa.P
namespace Go.Proofs.Ytfjoamlgbegpgaa.P
open Go Go.Proofs.Ytfjoamlgbegpgaa.PM Go.Proofs.Ytfjoamlgbegpgaa.PN Go.Proofs
set_option maxRecDepth 100000
set_option linter.unusedVariables false
def envf93 (k : Nat) : Ev El := envOf CC0 [(94, sf94 k)]
theorem envf93_ok (k : Nat) : EvOk Try.prog CC0 P0 G (envf93 k) := env_ok (sums_cons (sf94_ok k) (sums_nil))
def ktf93 : Nat → Nat → Nat := fun rid q => 0
theorem f93_ok {k : Nat} {a0_0 : List S80} {o0_0 : ByteArray} {r : Int × ByteArray} (h : f93 k a0_0 o0_0 = some r) : callT Try.prog CC0 P0 93 (List.map (denV G) [.sl 2 a0_0 [], .fn 94 [.ptr 0 (.l 0) 0]]) (List.map (denO G) [.box true true 0 1 false [.s o0_0]]) = some (denV G (f93.o a0_0 o0_0 r).1, List.map (denO G) (f93.o a0_0 o0_0 r).2) :=
 fn_ok (k := k) (E := envf93) (kt := ktf93) (start := f93.start k a0_0 o0_0) (stt := f93.st) (o := f93.o a0_0 o0_0) (h0 := .all) (D := f93.D) (blk := f93.blk) (hint := f93.hint) (objs := [.box true true 0 1 false [.s o0_0]]) G_ok envf93_ok rfl Try.func93 rfl (by kernel_rfl) (by kernel_rfl) rfl (Nat.le_of_ble_eq_true (by kernel_rfl)) (fun x => by cases x <;> kernel_rfl) (fun k x => by cases x <;> kernel_rfl) (fun k x => by cases x <;> kernel_rfl) (by kernel_rfl) ((by kernel_rfl : (f93.start k a0_0 o0_0).run (f93.D k) = f93 k a0_0 o0_0).trans h)
theorem sf93_ok (k : Nat) : SumOk Try.prog CC0 P0 G 93 (sf93 k) := by
 intro as0' os0' lk r l h0'
 unfold sf93 at h0'
 obtain ⟨v0, as1', rfl, h1'⟩ := lH_runs h0'; obtain ⟨v1, as2', rfl, h2'⟩ := lH_runs h1'; obtain ⟨rfl, h3'⟩ := lT_runs h2'; obtain ⟨x0, os1', rfl, h4'⟩ := lH_runs h3'; obtain ⟨rfl, h5'⟩ := lT_runs h4'; obtain ⟨b1', e1, h6'⟩ := argX_runs h5'; obtain ⟨y2', r2', e2, h7'⟩ := argH_runs h6'; obtain ⟨e3, h8'⟩ := argT_runs h7'; obtain ⟨o0_0, e4, h9'⟩ := argS_runs h8'; obtain ⟨a0_0, e5, h10'⟩ := argL_runs h9'; obtain ⟨c3', e6, h11'⟩ := argF_runs h10'; obtain ⟨y4', r4', e7, h12'⟩ := argPH_runs h11'; obtain ⟨e8, h13'⟩ := argPT_runs h12'; obtain ⟨e9, h14'⟩ := argV_runs h13'; obtain ⟨z', hz', h⟩ := call_runs h14'
 obtain ⟨rfl, rfl⟩ := runs_ret.1 h; exact ⟨rfl, by simp only [List.map_cons, List.map_nil, e1, e2, e3, e4, e5, e6, e7, e8, e9]; exact f93_ok hz'⟩
end Go.Proofs.Ytfjoamlgbegpgaa.P
namespace Go.Proofs.Ytfjoamlgbegpgaa.P
open Go Go.Proofs.Ytfjoamlgbegpgaa.PM Go.Proofs.Ytfjoamlgbegpgaa.PN Go.Proofs
set_option maxRecDepth 100000
set_option linter.unusedVariables false
def envf53 (k : Nat) : Ev El := envOf CC0 [(93, sf93 k)]
theorem envf53_ok (k : Nat) : EvOk Try.prog CC0 P0 G (envf53 k) := env_ok (sums_cons (sf93_ok k) (sums_nil))
def ktf53 : Nat → Nat → Nat := fun rid q => 0
theorem f53_ok {k : Nat} {a0_0 : List S80} {a1_0 : ByteArray} {r : Int} (h : f53 k a0_0 a1_0 = some r) : callT Try.prog CC0 P0 53 (List.map (denV G) [.sl 2 a0_0 [], .s a1_0]) (List.map (denO G) []) = some (denV G (f53.o a0_0 a1_0 r).1, List.map (denO G) (f53.o a0_0 a1_0 r).2) :=
 fn_ok0 (k := k) (E := envf53) (kt := ktf53) (start := f53.start k a0_0 a1_0) (o := f53.o a0_0 a1_0) (h0 := .all) (objs := []) G_ok envf53_ok rfl Try.func53 rfl (by kernel_rfl) (by kernel_rfl) rfl (Nat.le_of_ble_eq_true (by kernel_rfl)) (by kernel_rfl) ((by kernel_rfl : (f53.start k a0_0 a1_0).run Empty.elim = f53 k a0_0 a1_0).trans h)
theorem sf53_ok (k : Nat) : SumOk Try.prog CC0 P0 G 53 (sf53 k) := by
 intro as0' os0' lk r l h0'
 unfold sf53 at h0'
 obtain ⟨v0, as1', rfl, h1'⟩ := lH_runs h0'; obtain ⟨v1, as2', rfl, h2'⟩ := lH_runs h1'; obtain ⟨rfl, h3'⟩ := lT_runs h2'; obtain ⟨rfl, h4'⟩ := lT_runs h3'; obtain ⟨a0_0, e1, h5'⟩ := argL_runs h4'; obtain ⟨a1_0, e2, h6'⟩ := argS_runs h5'; obtain ⟨z', hz', h⟩ := call_runs h6'
 obtain ⟨rfl, rfl⟩ := runs_ret.1 h; exact ⟨rfl, by simp only [List.map_cons, List.map_nil, e1, e2]; exact f53_ok hz'⟩
end Go.Proofs.Ytfjoamlgbegpgaa.P
namespace Go.Proofs.Ytfjoamlgbegpgaa.P
open Go Go.Proofs.Ytfjoamlgbegpgaa.PM Go.Proofs.Ytfjoamlgbegpgaa.PN Go.Proofs
set_option maxRecDepth 100000
set_option linter.unusedVariables false
def envf59 (k : Nat) : Ev El := envOf CC0 []
theorem envf59_ok (k : Nat) : EvOk Try.prog CC0 P0 G (envf59 k) := env_ok (sums_nil)
def ktf59 : Nat → Nat → Nat := fun rid q => 0
theorem f59_ok {k : Nat} {a0_0 : List S80} {r : (List S80)} (h : f59 k a0_0 = some r) : callT Try.prog CC0 P0 59 (List.map (denV G) [.sl 2 a0_0 []]) (List.map (denO G) []) = some (denV G (f59.o a0_0 r).1, List.map (denO G) (f59.o a0_0 r).2) :=
 fn_ok0 (k := k) (E := envf59) (kt := ktf59) (start := f59.start k a0_0) (o := f59.o a0_0) (h0 := .all) (objs := []) G_ok envf59_ok rfl Try.func59 rfl (by kernel_rfl) (by kernel_rfl) rfl (Nat.le_of_ble_eq_true (by kernel_rfl)) (by kernel_rfl) ((by kernel_rfl : (f59.start k a0_0).run Empty.elim = f59 k a0_0).trans h)
theorem sf59_ok (k : Nat) : SumOk Try.prog CC0 P0 G 59 (sf59 k) := by
 intro as0' os0' lk r l h0'
 unfold sf59 at h0'
 obtain ⟨v0, as1', rfl, h1'⟩ := lH_runs h0'; obtain ⟨rfl, h2'⟩ := lT_runs h1'; obtain ⟨rfl, h3'⟩ := lT_runs h2'; obtain ⟨a0_0, e1, h4'⟩ := argL_runs h3'; obtain ⟨z', hz', h⟩ := call_runs h4'
 obtain ⟨rfl, rfl⟩ := runs_ret.1 h; exact ⟨rfl, by simp only [List.map_cons, List.map_nil, e1]; exact f59_ok hz'⟩
end Go.Proofs.Ytfjoamlgbegpgaa.P
namespace Go.Proofs.Ytfjoamlgbegpgaa.P
open Go Go.Proofs.Ytfjoamlgbegpgaa.PM Go.Proofs.Ytfjoamlgbegpgaa.PN Go.Proofs
set_option maxRecDepth 100000
set_option linter.unusedVariables false
theorem f132_ok {k : Nat} {a0_0 : ByteArray} {a1_0 : ByteArray} {r : Int} (h : f132 k a0_0 a1_0 = some r) : callT Try.prog CC0 P0 132 [T.sc (.string a0_0), T.sc (.string a1_0)] [] = some (T.sc (.int .i64 r), []) := by
 unfold f132 at h
 obtain rfl := Option.some.inj h
 exact callT_prim (d := cmpD) rfl rfl
theorem sf132_ok (k : Nat) : SumOk Try.prog CC0 P0 G 132 (sf132 k) := by
 intro as0' os0' lk r l h0'
 unfold sf132 at h0'
 obtain ⟨v0, as1', rfl, h1'⟩ := lH_runs h0'; obtain ⟨v1, as2', rfl, h2'⟩ := lH_runs h1'; obtain ⟨rfl, h3'⟩ := lT_runs h2'; obtain ⟨rfl, h4'⟩ := lT_runs h3'; obtain ⟨a0_0, e1, h5'⟩ := argS_runs h4'; obtain ⟨a1_0, e2, h6'⟩ := argS_runs h5'; obtain ⟨z', hz', h⟩ := call_runs h6'
 obtain ⟨rfl, rfl⟩ := runs_ret.1 h; exact ⟨rfl, by simp only [List.map_cons, List.map_nil, e1, e2]; exact f132_ok hz'⟩
end Go.Proofs.Ytfjoamlgbegpgaa.P
namespace Go.Proofs.Ytfjoamlgbegpgaa.P
open Go Go.Proofs.Ytfjoamlgbegpgaa.PM Go.Proofs.Ytfjoamlgbegpgaa.PN Go.Proofs
set_option maxRecDepth 100000
set_option linter.unusedVariables false
def envf120 (k : Nat) : Ev El := envOf CC0 [(132, sf132 k)]
theorem envf120_ok (k : Nat) : EvOk Try.prog CC0 P0 G (envf120 k) := env_ok (sums_cons (sf132_ok k) (sums_nil))
def ktf120 : Nat → Nat → Nat := fun rid q => 0
theorem f120_ok {k : Nat} {a0_0 : ByteArray} {a1_0 : ByteArray} {r : Int} (h : f120 k a0_0 a1_0 = some r) : callT Try.prog CC0 P0 120 (List.map (denV G) [.s a0_0, .s a1_0]) (List.map (denO G) []) = some (denV G (f120.o a0_0 a1_0 r).1, List.map (denO G) (f120.o a0_0 a1_0 r).2) :=
 fn_ok0 (k := k) (E := envf120) (kt := ktf120) (start := f120.start k a0_0 a1_0) (o := f120.o a0_0 a1_0) (h0 := .all) (objs := []) G_ok envf120_ok rfl Try.func120 rfl (by kernel_rfl) (by kernel_rfl) rfl (Nat.le_of_ble_eq_true (by kernel_rfl)) (by kernel_rfl) ((by kernel_rfl : (f120.start k a0_0 a1_0).run Empty.elim = f120 k a0_0 a1_0).trans h)
theorem sf120_ok (k : Nat) : SumOk Try.prog CC0 P0 G 120 (sf120 k) := by
 intro as0' os0' lk r l h0'
 unfold sf120 at h0'
 obtain ⟨v0, as1', rfl, h1'⟩ := lH_runs h0'; obtain ⟨v1, as2', rfl, h2'⟩ := lH_runs h1'; obtain ⟨rfl, h3'⟩ := lT_runs h2'; obtain ⟨rfl, h4'⟩ := lT_runs h3'; obtain ⟨a0_0, e1, h5'⟩ := argS_runs h4'; obtain ⟨a1_0, e2, h6'⟩ := argS_runs h5'; obtain ⟨z', hz', h⟩ := call_runs h6'
 obtain ⟨rfl, rfl⟩ := runs_ret.1 h; exact ⟨rfl, by simp only [List.map_cons, List.map_nil, e1, e2]; exact f120_ok hz'⟩
end Go.Proofs.Ytfjoamlgbegpgaa.P
namespace Go.Proofs.Ytfjoamlgbegpgaa.P
open Go Go.Proofs.Ytfjoamlgbegpgaa.PM Go.Proofs.Ytfjoamlgbegpgaa.PN Go.Proofs
set_option maxRecDepth 100000
set_option linter.unusedVariables false
def envf119 (k : Nat) : Ev El := envOf CC0 [(120, sf120 k)]
theorem envf119_ok (k : Nat) : EvOk Try.prog CC0 P0 G (envf119 k) := env_ok (sums_cons (sf120_ok k) (sums_nil))
def ktf119 : Nat → Nat → Nat := fun rid q => 0
theorem f119_ok {k : Nat} {a0_0 : ByteArray} {a0_1 : ByteArray} {a1_0 : ByteArray} {r : Int} (h : f119 k a0_0 a0_1 a1_0 = some r) : callT Try.prog CC0 P0 119 (List.map (denV G) [.agg [.s a0_0, .s a0_1], .s a1_0]) (List.map (denO G) []) = some (denV G (f119.o a0_0 a0_1 a1_0 r).1, List.map (denO G) (f119.o a0_0 a0_1 a1_0 r).2) :=
 fn_ok0 (k := k) (E := envf119) (kt := ktf119) (start := f119.start k a0_0 a0_1 a1_0) (o := f119.o a0_0 a0_1 a1_0) (h0 := .all) (objs := []) G_ok envf119_ok rfl Try.func119 rfl (by kernel_rfl) (by kernel_rfl) rfl (Nat.le_of_ble_eq_true (by kernel_rfl)) (by kernel_rfl) ((by kernel_rfl : (f119.start k a0_0 a0_1 a1_0).run Empty.elim = f119 k a0_0 a0_1 a1_0).trans h)
theorem sf119_ok (k : Nat) : SumOk Try.prog CC0 P0 G 119 (sf119 k) := by
 intro as0' os0' lk r l h0'
 unfold sf119 at h0'
 obtain ⟨v0, as1', rfl, h1'⟩ := lH_runs h0'; obtain ⟨v1, as2', rfl, h2'⟩ := lH_runs h1'; obtain ⟨rfl, h3'⟩ := lT_runs h2'; obtain ⟨rfl, h4'⟩ := lT_runs h3'; obtain ⟨b1', e1, h5'⟩ := argA_runs h4'; obtain ⟨y2', r2', e2, h6'⟩ := argH_runs h5'; obtain ⟨y3', r3', e3, h7'⟩ := argH_runs h6'; obtain ⟨e4, h8'⟩ := argT_runs h7'; obtain ⟨a0_0, e5, h9'⟩ := argS_runs h8'; obtain ⟨a0_1, e6, h10'⟩ := argS_runs h9'; obtain ⟨a1_0, e7, h11'⟩ := argS_runs h10'; obtain ⟨z', hz', h⟩ := call_runs h11'
 obtain ⟨rfl, rfl⟩ := runs_ret.1 h; exact ⟨rfl, by simp only [List.map_cons, List.map_nil, e1, e2, e3, e4, e5, e6, e7]; exact f119_ok hz'⟩
end Go.Proofs.Ytfjoamlgbegpgaa.P
namespace Go.Proofs.Ytfjoamlgbegpgaa.P
open Go Go.Proofs.Ytfjoamlgbegpgaa.PM Go.Proofs.Ytfjoamlgbegpgaa.PN Go.Proofs
set_option maxRecDepth 100000
set_option linter.unusedVariables false
def envf118 (k : Nat) : Ev El := envOf CC0 [(119, sf119 k)]
theorem envf118_ok (k : Nat) : EvOk Try.prog CC0 P0 G (envf118 k) := env_ok (sums_cons (sf119_ok k) (sums_nil))
def ktf118 : Nat → Nat → Nat := fun rid q => 0
theorem f118_ok {k : Nat} {a0_0 : List S80} {a1_0 : ByteArray} {r : Int × Bool} (h : f118 k a0_0 a1_0 = some r) : callT Try.prog CC0 P0 118 (List.map (denV G) [.sl 2 a0_0 [], .s a1_0, .fn 119 []]) (List.map (denO G) []) = some (denV G (f118.o a0_0 a1_0 r).1, List.map (denO G) (f118.o a0_0 a1_0 r).2) :=
 fn_ok (k := k) (E := envf118) (kt := ktf118) (start := f118.start k a0_0 a1_0) (stt := f118.st) (o := f118.o a0_0 a1_0) (h0 := .all) (D := f118.D) (blk := f118.blk) (hint := f118.hint) (objs := []) G_ok envf118_ok rfl Try.func118 rfl (by kernel_rfl) (by kernel_rfl) rfl (Nat.le_of_ble_eq_true (by kernel_rfl)) (fun x => by cases x <;> kernel_rfl) (fun k x => by cases x <;> kernel_rfl) (fun k x => by cases x <;> kernel_rfl) (by kernel_rfl) ((by kernel_rfl : (f118.start k a0_0 a1_0).run (f118.D k) = f118 k a0_0 a1_0).trans h)
theorem sf118_ok (k : Nat) : SumOk Try.prog CC0 P0 G 118 (sf118 k) := by
 intro as0' os0' lk r l h0'
 unfold sf118 at h0'
 obtain ⟨v0, as1', rfl, h1'⟩ := lH_runs h0'; obtain ⟨v1, as2', rfl, h2'⟩ := lH_runs h1'; obtain ⟨v2, as3', rfl, h3'⟩ := lH_runs h2'; obtain ⟨rfl, h4'⟩ := lT_runs h3'; obtain ⟨rfl, h5'⟩ := lT_runs h4'; obtain ⟨a0_0, e1, h6'⟩ := argL_runs h5'; obtain ⟨a1_0, e2, h7'⟩ := argS_runs h6'; obtain ⟨c1', e3, h8'⟩ := argF_runs h7'; obtain ⟨e4, h9'⟩ := argPT_runs h8'; obtain ⟨z', hz', h⟩ := call_runs h9'
 obtain ⟨rfl, rfl⟩ := runs_ret.1 h; exact ⟨rfl, by simp only [List.map_cons, List.map_nil, e1, e2, e3, e4]; exact f118_ok hz'⟩
end Go.Proofs.Ytfjoamlgbegpgaa.P
namespace Go.Proofs.Ytfjoamlgbegpgaa.P
open Go Go.Proofs.Ytfjoamlgbegpgaa.PM Go.Proofs.Ytfjoamlgbegpgaa.PN Go.Proofs
set_option maxRecDepth 100000
set_option linter.unusedVariables false
theorem f121_ok {k : Nat} {a1_0 : Int} {o0 : List S80} {o1 : List S80} {r : (List S80)} (h : f121 k a1_0 o0 o1 = some r) : callT Try.prog CC0 P0 121 [T.win 0 0 o0.length, T.sc (.int .i64 a1_0), T.win 1 0 o1.length] [Ob.mkRow 2 (List.map e80 o0), Ob.mkRow 2 (List.map e80 o1)] = some (T.win 2 0 r.length, [(⟨true, false, true, true, 0, 2, List.map e80 o0⟩ : Ob), Ob.mkRow 2 (List.map e80 o1), Ob.mkRow 2 (List.map e80 r)]) := by
 unfold f121 at h
 obtain ⟨⟨h0, h1, h2, h3, h4⟩, h⟩ := ite_l h
 obtain rfl := Option.some.inj h
 obtain ⟨y, rfl⟩ := List.length_eq_one_iff.1 h2
 refine callT_prim (d := insD 2 32) rfl ?_
 have hl : (o0.take a1_0.toNat ++ ([y] ++ o0.drop a1_0.toNat)).length = o0.length + 1 := by simp only [List.length_append, List.length_take, List.length_cons, List.length_nil, List.length_drop]; omega
 show insD 2 32 [.win 0 0 o0.length, .sc (.int .i64 a1_0), .win 1 0 1] [Ob.mkRow 2 (o0.map e80), Ob.mkRow 2 [e80 y]] = _
 rw [insD_eq, if_pos (by simp only [w80, beq_self_eq_true, Bool.true_and, List.length_map, Bool.and_eq_true, decide_eq_true_eq]; exact ⟨by simp [e80, T.width, T.cells], h0, by omega, by trivial, by unfold most; omega, by unfold most; omega⟩), hl]
 simp [Ob.mkRow]
theorem sf121_ok (k : Nat) : SumOk Try.prog CC0 P0 G 121 (sf121 k) := by
 intro as0' os0' lk r l h0'
 unfold sf121 at h0'
 obtain ⟨v0, as1', rfl, h1'⟩ := lH_runs h0'; obtain ⟨v1, as2', rfl, h2'⟩ := lH_runs h1'; obtain ⟨v2, as3', rfl, h3'⟩ := lH_runs h2'; obtain ⟨rfl, h4'⟩ := lT_runs h3'; obtain ⟨x0, os1', rfl, h5'⟩ := lH_runs h4'; obtain ⟨x1, os2', rfl, h6'⟩ := lH_runs h5'; obtain ⟨rfl, h7'⟩ := lT_runs h6'; obtain ⟨o0, e1, h8'⟩ := argR_runs h7'; obtain ⟨o1, e2, h9'⟩ := argR_runs h8'; obtain ⟨e3, h10'⟩ := argW_runs h9'; obtain ⟨a1_0, e4, h11'⟩ := argI_runs h10'; obtain ⟨e5, h12'⟩ := argW_runs h11'; obtain ⟨z', hz', h⟩ := call_runs h12'
 obtain ⟨rfl, rfl⟩ := runs_ret.1 h; exact ⟨rfl, by simp only [List.map_cons, List.map_nil, e1, e2, e3, e4, e5]; exact f121_ok hz'⟩
end Go.Proofs.Ytfjoamlgbegpgaa.P
namespace Go.Proofs.Ytfjoamlgbegpgaa.P
open Go Go.Proofs.Ytfjoamlgbegpgaa.PM Go.Proofs.Ytfjoamlgbegpgaa.PN Go.Proofs
set_option maxRecDepth 100000
set_option linter.unusedVariables false
def envf99 (k : Nat) : Ev El := envOf CC0 [(59, sf59 k), (118, sf118 k), (121, sf121 k)]
theorem envf99_ok (k : Nat) : EvOk Try.prog CC0 P0 G (envf99 k) := env_ok (sums_cons (sf59_ok k) (sums_cons (sf118_ok k) (sums_cons (sf121_ok k) (sums_nil))))
def ktf99 : Nat → Nat → Nat := fun rid q => 0
theorem f99_ok {k : Nat} {a0_0 : List S80} {a1_0 : ByteArray} {a1_1 : ByteArray} {r : (List S80)} (h : f99 k a0_0 a1_0 a1_1 = some r) : callT Try.prog CC0 P0 99 (List.map (denV G) [.sl 2 a0_0 [], .agg [.s a1_0, .s a1_1]]) (List.map (denO G) []) = some (denV G (f99.o a0_0 a1_0 a1_1 r).1, List.map (denO G) (f99.o a0_0 a1_0 a1_1 r).2) :=
 fn_ok0 (k := k) (E := envf99) (kt := ktf99) (start := f99.start k a0_0 a1_0 a1_1) (o := f99.o a0_0 a1_0 a1_1) (h0 := .all) (objs := []) G_ok envf99_ok rfl Try.func99 rfl (by kernel_rfl) (by kernel_rfl) rfl (Nat.le_of_ble_eq_true (by kernel_rfl)) (by kernel_rfl) ((by kernel_rfl : (f99.start k a0_0 a1_0 a1_1).run Empty.elim = f99 k a0_0 a1_0 a1_1).trans h)
theorem sf99_ok (k : Nat) : SumOk Try.prog CC0 P0 G 99 (sf99 k) := by
 intro as0' os0' lk r l h0'
 unfold sf99 at h0'
 obtain ⟨v0, as1', rfl, h1'⟩ := lH_runs h0'; obtain ⟨v1, as2', rfl, h2'⟩ := lH_runs h1'; obtain ⟨rfl, h3'⟩ := lT_runs h2'; obtain ⟨rfl, h4'⟩ := lT_runs h3'; obtain ⟨a0_0, e1, h5'⟩ := argL_runs h4'; obtain ⟨b1', e2, h6'⟩ := argA_runs h5'; obtain ⟨y2', r2', e3, h7'⟩ := argH_runs h6'; obtain ⟨y3', r3', e4, h8'⟩ := argH_runs h7'; obtain ⟨e5, h9'⟩ := argT_runs h8'; obtain ⟨a1_0, e6, h10'⟩ := argS_runs h9'; obtain ⟨a1_1, e7, h11'⟩ := argS_runs h10'; obtain ⟨z', hz', h⟩ := call_runs h11'
 obtain ⟨rfl, rfl⟩ := runs_ret.1 h; exact ⟨rfl, by simp only [List.map_cons, List.map_nil, e1, e2, e3, e4, e5, e6, e7]; exact f99_ok hz'⟩
end Go.Proofs.Ytfjoamlgbegpgaa.P
namespace Go.Proofs.Ytfjoamlgbegpgaa.P
open Go Go.Proofs.Ytfjoamlgbegpgaa.PM Go.Proofs.Ytfjoamlgbegpgaa.PN Go.Proofs
set_option maxRecDepth 100000
set_option linter.unusedVariables false
def envf61 (k : Nat) : Ev El := envOf CC0 [(53, sf53 k), (59, sf59 k), (99, sf99 k), (100, sf100 k)]
theorem envf61_ok (k : Nat) : EvOk Try.prog CC0 P0 G (envf61 k) := env_ok (sums_cons (sf53_ok k) (sums_cons (sf59_ok k) (sums_cons (sf99_ok k) (sums_cons (sf100_ok k) (sums_nil)))))
def ktf61 : Nat → Nat → Nat := fun rid q => 0
theorem f61_ok {k : Nat} {a0_0 : Int} {a0_1 : ByteArray} {a0_2 : ByteArray} {a0_3 : ByteArray} {a1_0 : List S80} {r : ((List S80)) ⊕ ((List S80))} (h : f61 k a0_0 a0_1 a0_2 a0_3 a1_0 = some r) : callT Try.prog CC0 P0 61 (List.map (denV G) [.agg [.id .i64 0 a0_0, .s a0_1, .s a0_2, .s a0_3], .sl 2 a1_0 []]) (List.map (denO G) []) = some (denV G (f61.o a0_0 a0_1 a0_2 a0_3 a1_0 r).1, List.map (denO G) (f61.o a0_0 a0_1 a0_2 a0_3 a1_0 r).2) :=
 fn_ok0 (k := k) (E := envf61) (kt := ktf61) (start := f61.start k a0_0 a0_1 a0_2 a0_3 a1_0) (o := f61.o a0_0 a0_1 a0_2 a0_3 a1_0) (h0 := .all) (objs := []) G_ok envf61_ok rfl Try.func61 rfl (by kernel_rfl) (by kernel_rfl) rfl (Nat.le_of_ble_eq_true (by kernel_rfl)) (by kernel_rfl) ((by kernel_rfl : (f61.start k a0_0 a0_1 a0_2 a0_3 a1_0).run Empty.elim = f61 k a0_0 a0_1 a0_2 a0_3 a1_0).trans h)
theorem sf61_ok (k : Nat) : SumOk Try.prog CC0 P0 G 61 (sf61 k) := by
 intro as0' os0' lk r l h0'
 unfold sf61 at h0'
 obtain ⟨v0, as1', rfl, h1'⟩ := lH_runs h0'; obtain ⟨v1, as2', rfl, h2'⟩ := lH_runs h1'; obtain ⟨rfl, h3'⟩ := lT_runs h2'; obtain ⟨rfl, h4'⟩ := lT_runs h3'; obtain ⟨b1', e1, h5'⟩ := argA_runs h4'; obtain ⟨y2', r2', e2, h6'⟩ := argH_runs h5'; obtain ⟨y3', r3', e3, h7'⟩ := argH_runs h6'; obtain ⟨y4', r4', e4, h8'⟩ := argH_runs h7'; obtain ⟨y5', r5', e5, h9'⟩ := argH_runs h8'; obtain ⟨e6, h10'⟩ := argT_runs h9'; obtain ⟨a0_0, e7, h11'⟩ := argI_runs h10'; obtain ⟨a0_1, e8, h12'⟩ := argS_runs h11'; obtain ⟨a0_2, e9, h13'⟩ := argS_runs h12'; obtain ⟨a0_3, e10, h14'⟩ := argS_runs h13'; obtain ⟨a1_0, e11, h15'⟩ := argL_runs h14'; obtain ⟨z', hz', h⟩ := call_runs h15'
 rcases z' with z' | z'
 · replace h := either_l h; obtain ⟨rfl, rfl⟩ := runs_ret.1 h; exact ⟨rfl, by simp only [List.map_cons, List.map_nil, e1, e2, e3, e4, e5, e6, e7, e8, e9, e10, e11]; exact f61_ok hz'⟩
 · replace h := either_r h; obtain ⟨rfl, rfl⟩ := runs_ret.1 h; exact ⟨rfl, by simp only [List.map_cons, List.map_nil, e1, e2, e3, e4, e5, e6, e7, e8, e9, e10, e11]; exact f61_ok hz'⟩
end Go.Proofs.Ytfjoamlgbegpgaa.P
namespace Go.Proofs.Ytfjoamlgbegpgaa.P
open Go Go.Proofs.Ytfjoamlgbegpgaa.PM Go.Proofs.Ytfjoamlgbegpgaa.PN Go.Proofs
set_option maxRecDepth 100000
set_option linter.unusedVariables false
def envf101 (k : Nat) : Ev El := envOf CC0 []
theorem envf101_ok (k : Nat) : EvOk Try.prog CC0 P0 G (envf101 k) := env_ok (sums_nil)
def ktf101 : Nat → Nat → Nat := fun rid q => 0
theorem f101_ok {k : Nat} {a0_0 : ByteArray} {r : Bool} (h : f101 k a0_0 = some r) : callT Try.prog CC0 P0 101 (List.map (denV G) [.s a0_0]) (List.map (denO G) []) = some (denV G (f101.o a0_0 r).1, List.map (denO G) (f101.o a0_0 r).2) :=
 fn_ok0 (k := k) (E := envf101) (kt := ktf101) (start := f101.start k a0_0) (o := f101.o a0_0) (h0 := (.both (.l (.l (.l .all))) (.r (.r (.r .all))))) (objs := []) G_ok envf101_ok rfl Try.func101 rfl (by kernel_rfl) (by kernel_rfl) rfl (Nat.le_of_ble_eq_true (by kernel_rfl)) (by kernel_rfl) ((by kernel_rfl : (f101.start k a0_0).run Empty.elim = f101 k a0_0).trans h)
theorem sf101_ok (k : Nat) : SumOk Try.prog CC0 P0 G 101 (sf101 k) := by
 intro as0' os0' lk r l h0'
 unfold sf101 at h0'
 obtain ⟨v0, as1', rfl, h1'⟩ := lH_runs h0'; obtain ⟨rfl, h2'⟩ := lT_runs h1'; obtain ⟨rfl, h3'⟩ := lT_runs h2'; obtain ⟨a0_0, e1, h4'⟩ := argS_runs h3'; obtain ⟨z', hz', h⟩ := call_runs h4'
 obtain ⟨rfl, rfl⟩ := runs_ret.1 h; exact ⟨rfl, by simp only [List.map_cons, List.map_nil, e1]; exact f101_ok hz'⟩
end Go.Proofs.Ytfjoamlgbegpgaa.P
namespace Go.Proofs.Ytfjoamlgbegpgaa.P
open Go Go.Proofs.Ytfjoamlgbegpgaa.PM Go.Proofs.Ytfjoamlgbegpgaa.PN Go.Proofs
set_option maxRecDepth 100000
set_option linter.unusedVariables false
def envf62 (k : Nat) : Ev El := envOf CC0 [(101, sf101 k)]
theorem envf62_ok (k : Nat) : EvOk Try.prog CC0 P0 G (envf62 k) := env_ok (sums_cons (sf101_ok k) (sums_nil))
def ktf62 : Nat → Nat → Nat := fun rid q => 0
theorem f62_ok {k : Nat} {a0_0 : List S80} {r : Bool} (h : f62 k a0_0 = some r) : callT Try.prog CC0 P0 62 (List.map (denV G) [.sl 2 a0_0 []]) (List.map (denO G) []) = some (denV G (f62.o a0_0 r).1, List.map (denO G) (f62.o a0_0 r).2) :=
 fn_ok (k := k) (E := envf62) (kt := ktf62) (start := f62.start k a0_0) (stt := f62.st) (o := f62.o a0_0) (h0 := .all) (D := f62.D) (blk := f62.blk) (hint := f62.hint) (objs := []) G_ok envf62_ok rfl Try.func62 rfl (by kernel_rfl) (by kernel_rfl) rfl (Nat.le_of_ble_eq_true (by kernel_rfl)) (fun x => by cases x <;> kernel_rfl) (fun k x => by cases x <;> kernel_rfl) (fun k x => by cases x <;> kernel_rfl) (by kernel_rfl) ((by kernel_rfl : (f62.start k a0_0).run (f62.D k) = f62 k a0_0).trans h)
theorem sf62_ok (k : Nat) : SumOk Try.prog CC0 P0 G 62 (sf62 k) := by
 intro as0' os0' lk r l h0'
 unfold sf62 at h0'
 obtain ⟨v0, as1', rfl, h1'⟩ := lH_runs h0'; obtain ⟨rfl, h2'⟩ := lT_runs h1'; obtain ⟨rfl, h3'⟩ := lT_runs h2'; obtain ⟨a0_0, e1, h4'⟩ := argL_runs h3'; obtain ⟨z', hz', h⟩ := call_runs h4'
 obtain ⟨rfl, rfl⟩ := runs_ret.1 h; exact ⟨rfl, by simp only [List.map_cons, List.map_nil, e1]; exact f62_ok hz'⟩
end Go.Proofs.Ytfjoamlgbegpgaa.P
namespace Go.Proofs.Ytfjoamlgbegpgaa.P
open Go Go.Proofs.Ytfjoamlgbegpgaa.PM Go.Proofs.Ytfjoamlgbegpgaa.PN Go.Proofs
set_option maxRecDepth 100000
set_option linter.unusedVariables false
def envf89 (k : Nat) : Ev El := envOf CC0 [(101, sf101 k)]
theorem envf89_ok (k : Nat) : EvOk Try.prog CC0 P0 G (envf89 k) := env_ok (sums_cons (sf101_ok k) (sums_nil))
def ktf89 : Nat → Nat → Nat := fun rid q => 0
theorem f89_ok {k : Nat} {a0_0 : Int} {a0_1 : ByteArray} {a0_2 : ByteArray} {a0_3 : ByteArray} {r : Bool} (h : f89 k a0_0 a0_1 a0_2 a0_3 = some r) : callT Try.prog CC0 P0 89 (List.map (denV G) [.agg [.id .i64 0 a0_0, .s a0_1, .s a0_2, .s a0_3]]) (List.map (denO G) []) = some (denV G (f89.o a0_0 a0_1 a0_2 a0_3 r).1, List.map (denO G) (f89.o a0_0 a0_1 a0_2 a0_3 r).2) :=
 fn_ok0 (k := k) (E := envf89) (kt := ktf89) (start := f89.start k a0_0 a0_1 a0_2 a0_3) (o := f89.o a0_0 a0_1 a0_2 a0_3) (h0 := (.both (.skip (.both (.l (.l (.l .all))) (.r (.r (.r .all))))) (.both (.skip (.both (.l (.l (.skip (.l (.both (.l (.l (.l .all))) (.r (.r (.r .all)))))))) (.r (.r (.r .all))))) (.both (.skip (.both (.l (.l (.l (.both (.l (.l (.l .all))) (.r (.r (.r .all))))))) (.r (.r (.r .all))))) .all)))) (objs := []) G_ok envf89_ok rfl Try.func89 rfl (by kernel_rfl) (by kernel_rfl) rfl (Nat.le_of_ble_eq_true (by kernel_rfl)) (by kernel_rfl) ((by kernel_rfl : (f89.start k a0_0 a0_1 a0_2 a0_3).run Empty.elim = f89 k a0_0 a0_1 a0_2 a0_3).trans h)
theorem sf89_ok (k : Nat) : SumOk Try.prog CC0 P0 G 89 (sf89 k) := by
 intro as0' os0' lk r l h0'
 unfold sf89 at h0'
 obtain ⟨v0, as1', rfl, h1'⟩ := lH_runs h0'; obtain ⟨rfl, h2'⟩ := lT_runs h1'; obtain ⟨rfl, h3'⟩ := lT_runs h2'; obtain ⟨b1', e1, h4'⟩ := argA_runs h3'; obtain ⟨y2', r2', e2, h5'⟩ := argH_runs h4'; obtain ⟨y3', r3', e3, h6'⟩ := argH_runs h5'; obtain ⟨y4', r4', e4, h7'⟩ := argH_runs h6'; obtain ⟨y5', r5', e5, h8'⟩ := argH_runs h7'; obtain ⟨e6, h9'⟩ := argT_runs h8'; obtain ⟨a0_0, e7, h10'⟩ := argI_runs h9'; obtain ⟨a0_1, e8, h11'⟩ := argS_runs h10'; obtain ⟨a0_2, e9, h12'⟩ := argS_runs h11'; obtain ⟨a0_3, e10, h13'⟩ := argS_runs h12'; obtain ⟨z', hz', h⟩ := call_runs h13'
 obtain ⟨rfl, rfl⟩ := runs_ret.1 h; exact ⟨rfl, by simp only [List.map_cons, List.map_nil, e1, e2, e3, e4, e5, e6, e7, e8, e9, e10]; exact f89_ok hz'⟩
end Go.Proofs.Ytfjoamlgbegpgaa.P
namespace Go.Proofs.Ytfjoamlgbegpgaa.P
open Go Go.Proofs.Ytfjoamlgbegpgaa.PM Go.Proofs.Ytfjoamlgbegpgaa.PN Go.Proofs
set_option maxRecDepth 100000
set_option linter.unusedVariables false
def envf90 (k : Nat) : Ev El := envOf CC0 []
theorem envf90_ok (k : Nat) : EvOk Try.prog CC0 P0 G (envf90 k) := env_ok (sums_nil)
def ktf90 : Nat → Nat → Nat := fun rid q => 0
theorem f90_ok {k : Nat} {a0_0 : List S80} {a1_0 : List S80} {r : Bool} (h : f90 k a0_0 a1_0 = some r) : callT Try.prog CC0 P0 90 (List.map (denV G) [.sl 2 a0_0 [], .sl 2 a1_0 []]) (List.map (denO G) []) = some (denV G (f90.o a0_0 a1_0 r).1, List.map (denO G) (f90.o a0_0 a1_0 r).2) :=
 fn_ok (k := k) (E := envf90) (kt := ktf90) (start := f90.start k a0_0 a1_0) (stt := f90.st) (o := f90.o a0_0 a1_0) (h0 := .all) (D := f90.D) (blk := f90.blk) (hint := f90.hint) (objs := []) G_ok envf90_ok rfl Try.func90 rfl (by kernel_rfl) (by kernel_rfl) rfl (Nat.le_of_ble_eq_true (by kernel_rfl)) (fun x => by cases x <;> kernel_rfl) (fun k x => by cases x <;> kernel_rfl) (fun k x => by cases x <;> kernel_rfl) (by kernel_rfl) ((by kernel_rfl : (f90.start k a0_0 a1_0).run (f90.D k) = f90 k a0_0 a1_0).trans h)
theorem sf90_ok (k : Nat) : SumOk Try.prog CC0 P0 G 90 (sf90 k) := by
 intro as0' os0' lk r l h0'
 unfold sf90 at h0'
 obtain ⟨v0, as1', rfl, h1'⟩ := lH_runs h0'; obtain ⟨v1, as2', rfl, h2'⟩ := lH_runs h1'; obtain ⟨rfl, h3'⟩ := lT_runs h2'; obtain ⟨rfl, h4'⟩ := lT_runs h3'; obtain ⟨a0_0, e1, h5'⟩ := argL_runs h4'; obtain ⟨a1_0, e2, h6'⟩ := argL_runs h5'; obtain ⟨z', hz', h⟩ := call_runs h6'
 obtain ⟨rfl, rfl⟩ := runs_ret.1 h; exact ⟨rfl, by simp only [List.map_cons, List.map_nil, e1, e2]; exact f90_ok hz'⟩
end Go.Proofs.Ytfjoamlgbegpgaa.P
namespace Go.Proofs.Ytfjoamlgbegpgaa.P
open Go Go.Proofs.Ytfjoamlgbegpgaa.PM Go.Proofs.Ytfjoamlgbegpgaa.PN Go.Proofs
set_option maxRecDepth 100000
set_option linter.unusedVariables false
def envf49 (k : Nat) : Ev El := envOf CC0 [(61, sf61 k), (62, sf62 k), (89, sf89 k), (90, sf90 k)]
theorem envf49_ok (k : Nat) : EvOk Try.prog CC0 P0 G (envf49 k) := env_ok (sums_cons (sf61_ok k) (sums_cons (sf62_ok k) (sums_cons (sf89_ok k) (sums_cons (sf90_ok k) (sums_nil)))))
def ktf49 : Nat → Nat → Nat := fun rid q => if rid = 5 ∧ q = 3 then 2 else 0
theorem f49_ok {k : Nat} {a0_0 : List S80} {a0_1 : List S80} {a0_2 : List S73} {r : Bool} (h : f49 k a0_0 a0_1 a0_2 = some r) : callT Try.prog CC0 P0 49 (List.map (denV G) [.agg [.sl 2 a0_0 [], .sl 2 a0_1 [], .sl 3 a0_2 []]]) (List.map (denO G) []) = some (denV G (f49.o a0_0 a0_1 a0_2 r).1, List.map (denO G) (f49.o a0_0 a0_1 a0_2 r).2) :=
 fn_ok (k := k) (E := envf49) (kt := ktf49) (start := f49.start k a0_0 a0_1 a0_2) (stt := f49.st) (o := f49.o a0_0 a0_1 a0_2) (h0 := (.skip (.both (.l (.l (.skip (.l (.l (.both (.l (.l (.l (.l .all)))) (.r (.r (.r (.r .all)))))))))) (.r (.r (.r (.r .all))))))) (D := f49.D) (blk := f49.blk) (hint := f49.hint) (objs := []) G_ok envf49_ok rfl Try.func49 rfl (by kernel_rfl) (by kernel_rfl) rfl (Nat.le_of_ble_eq_true (by kernel_rfl)) (fun x => by cases x <;> kernel_rfl) (fun k x => by cases x <;> kernel_rfl) (fun k x => by cases x <;> kernel_rfl) (by kernel_rfl) ((by kernel_rfl : (f49.start k a0_0 a0_1 a0_2).run (f49.D k) = f49 k a0_0 a0_1 a0_2).trans h)
theorem sf49_ok (k : Nat) : SumOk Try.prog CC0 P0 G 49 (sf49 k) := by
 intro as0' os0' lk r l h0'
 unfold sf49 at h0'
 obtain ⟨v0, as1', rfl, h1'⟩ := lH_runs h0'; obtain ⟨rfl, h2'⟩ := lT_runs h1'; obtain ⟨rfl, h3'⟩ := lT_runs h2'; obtain ⟨b1', e1, h4'⟩ := argA_runs h3'; obtain ⟨y2', r2', e2, h5'⟩ := argH_runs h4'; obtain ⟨y3', r3', e3, h6'⟩ := argH_runs h5'; obtain ⟨y4', r4', e4, h7'⟩ := argH_runs h6'; obtain ⟨e5, h8'⟩ := argT_runs h7'; obtain ⟨a0_0, e6, h9'⟩ := argL_runs h8'; obtain ⟨a0_1, e7, h10'⟩ := argL_runs h9'; obtain ⟨a0_2, e8, h11'⟩ := argL_runs h10'; obtain ⟨z', hz', h⟩ := call_runs h11'
 obtain ⟨rfl, rfl⟩ := runs_ret.1 h; exact ⟨rfl, by simp only [List.map_cons, List.map_nil, e1, e2, e3, e4, e5, e6, e7, e8]; exact f49_ok hz'⟩
end Go.Proofs.Ytfjoamlgbegpgaa.P
namespace Go.Proofs.Ytfjoamlgbegpgaa.P
open Go Go.Proofs.Ytfjoamlgbegpgaa.PM Go.Proofs.Ytfjoamlgbegpgaa.PN Go.Proofs
set_option maxRecDepth 100000
set_option linter.unusedVariables false
def envf24 (k : Nat) : Ev El := envOf CC0 [(49, sf49 k), (59, sf59 k)]
theorem envf24_ok (k : Nat) : EvOk Try.prog CC0 P0 G (envf24 k) := env_ok (sums_cons (sf49_ok k) (sums_cons (sf59_ok k) (sums_nil)))
def ktf24 : Nat → Nat → Nat := fun rid q => 0
theorem f24.run (k : Nat) (a0_0 : List S80) (a0_1 : List S80) (a0_2 : List S73) : f24 k a0_0 a0_1 a0_2 = (f24.start k a0_0 a0_1 a0_2).run Empty.elim := by simp only [f24, f24.start, PT.run, bindH_eq, dite_eq_ite]
theorem f24_ok {k : Nat} {a0_0 : List S80} {a0_1 : List S80} {a0_2 : List S73} {r : (List S80) × (List S80) × (List S73)} (h : f24 k a0_0 a0_1 a0_2 = some r) : callT Try.prog CC0 P0 24 (List.map (denV G) [.agg [.sl 2 a0_0 [], .sl 2 a0_1 [], .sl 3 a0_2 []]]) (List.map (denO G) []) = some (denV G (f24.o a0_0 a0_1 a0_2 r).1, List.map (denO G) (f24.o a0_0 a0_1 a0_2 r).2) :=
 fn_ok0 (k := k) (E := envf24) (kt := ktf24) (start := f24.start k a0_0 a0_1 a0_2) (o := f24.o a0_0 a0_1 a0_2) (h0 := (.skip (.both (.bindr ((List S80)) fun t2 => (.re ((List S80)) t2 .all)) .all))) (objs := []) G_ok envf24_ok rfl Try.func24 rfl (by kernel_rfl) (by kernel_rfl) rfl (Nat.le_of_ble_eq_true (by kernel_rfl)) (by kernel_rfl) ((f24.run k a0_0 a0_1 a0_2).symm.trans h)
theorem sf24_ok (k : Nat) : SumOk Try.prog CC0 P0 G 24 (sf24 k) := by
 intro as0' os0' lk r l h0'
 unfold sf24 at h0'
 obtain ⟨v0, as1', rfl, h1'⟩ := lH_runs h0'; obtain ⟨rfl, h2'⟩ := lT_runs h1'; obtain ⟨rfl, h3'⟩ := lT_runs h2'; obtain ⟨b1', e1, h4'⟩ := argA_runs h3'; obtain ⟨y2', r2', e2, h5'⟩ := argH_runs h4'; obtain ⟨y3', r3', e3, h6'⟩ := argH_runs h5'; obtain ⟨y4', r4', e4, h7'⟩ := argH_runs h6'; obtain ⟨e5, h8'⟩ := argT_runs h7'; obtain ⟨a0_0, e6, h9'⟩ := argL_runs h8'; obtain ⟨a0_1, e7, h10'⟩ := argL_runs h9'; obtain ⟨a0_2, e8, h11'⟩ := argL_runs h10'; obtain ⟨z', hz', h⟩ := call_runs h11'
 obtain ⟨rfl, rfl⟩ := runs_ret.1 h; exact ⟨rfl, by simp only [List.map_cons, List.map_nil, e1, e2, e3, e4, e5, e6, e7, e8]; exact f24_ok hz'⟩
end Go.Proofs.Ytfjoamlgbegpgaa.P
namespace Go.Proofs.Ytfjoamlgbegpgaa.P
open Go Go.Proofs.Ytfjoamlgbegpgaa.PM Go.Proofs.Ytfjoamlgbegpgaa.PN Go.Proofs
set_option maxRecDepth 100000
set_option linter.unusedVariables false
theorem f103_ok {k : Nat} {a1_0 : Int} {o0 : List S73} {o1 : List S73} {r : (List S73)} (h : f103 k a1_0 o0 o1 = some r) : callT Try.prog CC0 P0 103 [T.win 0 0 o0.length, T.sc (.int .i64 a1_0), T.win 1 0 o1.length] [Ob.mkRow 4 (List.map e73 o0), Ob.mkRow 4 (List.map e73 o1)] = some (T.win 2 0 r.length, [(⟨true, false, true, true, 0, 4, List.map e73 o0⟩ : Ob), Ob.mkRow 4 (List.map e73 o1), Ob.mkRow 4 (List.map e73 r)]) := by
 unfold f103 at h
 obtain ⟨⟨h0, h1, h2, h3, h4⟩, h⟩ := ite_l h
 obtain rfl := Option.some.inj h
 obtain ⟨y, rfl⟩ := List.length_eq_one_iff.1 h2
 refine callT_prim (d := insD 4 56) rfl ?_
 have hl : (o0.take a1_0.toNat ++ ([y] ++ o0.drop a1_0.toNat)).length = o0.length + 1 := by simp only [List.length_append, List.length_take, List.length_cons, List.length_nil, List.length_drop]; omega
 show insD 4 56 [.win 0 0 o0.length, .sc (.int .i64 a1_0), .win 1 0 1] [Ob.mkRow 4 (o0.map e73), Ob.mkRow 4 [e73 y]] = _
 rw [insD_eq, if_pos (by simp only [w73, beq_self_eq_true, Bool.true_and, List.length_map, Bool.and_eq_true, decide_eq_true_eq]; exact ⟨by simp [e73, T.width, T.cells], h0, by omega, by trivial, by unfold most; omega, by unfold most; omega⟩), hl]
 simp [Ob.mkRow]
theorem sf103_ok (k : Nat) : SumOk Try.prog CC0 P0 G 103 (sf103 k) := by
 intro as0' os0' lk r l h0'
 unfold sf103 at h0'
 obtain ⟨v0, as1', rfl, h1'⟩ := lH_runs h0'; obtain ⟨v1, as2', rfl, h2'⟩ := lH_runs h1'; obtain ⟨v2, as3', rfl, h3'⟩ := lH_runs h2'; obtain ⟨rfl, h4'⟩ := lT_runs h3'; obtain ⟨x0, os1', rfl, h5'⟩ := lH_runs h4'; obtain ⟨x1, os2', rfl, h6'⟩ := lH_runs h5'; obtain ⟨rfl, h7'⟩ := lT_runs h6'; obtain ⟨o0, e1, h8'⟩ := argR_runs h7'; obtain ⟨o1, e2, h9'⟩ := argR_runs h8'; obtain ⟨e3, h10'⟩ := argW_runs h9'; obtain ⟨a1_0, e4, h11'⟩ := argI_runs h10'; obtain ⟨e5, h12'⟩ := argW_runs h11'; obtain ⟨z', hz', h⟩ := call_runs h12'
 obtain ⟨rfl, rfl⟩ := runs_ret.1 h; exact ⟨rfl, by simp only [List.map_cons, List.map_nil, e1, e2, e3, e4, e5]; exact f103_ok hz'⟩
end Go.Proofs.Ytfjoamlgbegpgaa.P
namespace Go.Proofs.Ytfjoamlgbegpgaa.P
open Go Go.Proofs.Ytfjoamlgbegpgaa.PM Go.Proofs.Ytfjoamlgbegpgaa.PN Go.Proofs
set_option maxRecDepth 100000
set_option linter.unusedVariables false
def envf79 (k : Nat) : Ev El := envOf CC0 [(59, sf59 k)]
theorem envf79_ok (k : Nat) : EvOk Try.prog CC0 P0 G (envf79 k) := env_ok (sums_cons (sf59_ok k) (sums_nil))
def ktf79 : Nat → Nat → Nat := fun rid q => 0
theorem f79_ok {k : Nat} {a0_0 : List S80} {a0_1 : List S80} {a0_2 : List S73} {r : (List S80) × (List S80) × (List S73)} (h : f79 k a0_0 a0_1 a0_2 = some r) : callT Try.prog CC0 P0 79 (List.map (denV G) [.agg [.sl 2 a0_0 [], .sl 2 a0_1 [], .sl 3 a0_2 []]]) (List.map (denO G) []) = some (denV G (f79.o a0_0 a0_1 a0_2 r).1, List.map (denO G) (f79.o a0_0 a0_1 a0_2 r).2) :=
 fn_ok0 (k := k) (E := envf79) (kt := ktf79) (start := f79.start k a0_0 a0_1 a0_2) (o := f79.o a0_0 a0_1 a0_2) (h0 := .all) (objs := []) G_ok envf79_ok rfl Try.func79 rfl (by kernel_rfl) (by kernel_rfl) rfl (Nat.le_of_ble_eq_true (by kernel_rfl)) (by kernel_rfl) ((by kernel_rfl : (f79.start k a0_0 a0_1 a0_2).run Empty.elim = f79 k a0_0 a0_1 a0_2).trans h)
theorem sf79_ok (k : Nat) : SumOk Try.prog CC0 P0 G 79 (sf79 k) := by
 intro as0' os0' lk r l h0'
 unfold sf79 at h0'
 obtain ⟨v0, as1', rfl, h1'⟩ := lH_runs h0'; obtain ⟨rfl, h2'⟩ := lT_runs h1'; obtain ⟨rfl, h3'⟩ := lT_runs h2'; obtain ⟨b1', e1, h4'⟩ := argA_runs h3'; obtain ⟨y2', r2', e2, h5'⟩ := argH_runs h4'; obtain ⟨y3', r3', e3, h6'⟩ := argH_runs h5'; obtain ⟨y4', r4', e4, h7'⟩ := argH_runs h6'; obtain ⟨e5, h8'⟩ := argT_runs h7'; obtain ⟨a0_0, e6, h9'⟩ := argL_runs h8'; obtain ⟨a0_1, e7, h10'⟩ := argL_runs h9'; obtain ⟨a0_2, e8, h11'⟩ := argL_runs h10'; obtain ⟨z', hz', h⟩ := call_runs h11'
 obtain ⟨rfl, rfl⟩ := runs_ret.1 h; exact ⟨rfl, by simp only [List.map_cons, List.map_nil, e1, e2, e3, e4, e5, e6, e7, e8]; exact f79_ok hz'⟩
end Go.Proofs.Ytfjoamlgbegpgaa.P
namespace Go.Proofs.Ytfjoamlgbegpgaa.P
open Go Go.Proofs.Ytfjoamlgbegpgaa.PM Go.Proofs.Ytfjoamlgbegpgaa.PN Go.Proofs
set_option maxRecDepth 100000
set_option linter.unusedVariables false
def envf104 (k : Nat) : Ev El := envOf CC0 [(59, sf59 k), (61, sf61 k), (62, sf62 k), (79, sf79 k), (89, sf89 k)]
theorem envf104_ok (k : Nat) : EvOk Try.prog CC0 P0 G (envf104 k) := env_ok (sums_cons (sf59_ok k) (sums_cons (sf61_ok k) (sums_cons (sf62_ok k) (sums_cons (sf79_ok k) (sums_cons (sf89_ok k) (sums_nil))))))
def ktf104 : Nat → Nat → Nat := fun rid q => 0
theorem f104_ok {k : Nat} {a0_0 : List S80} {a0_1 : List S80} {a0_2 : List S73} {a1_0 : Int} {a1_1 : ByteArray} {a1_2 : ByteArray} {a1_3 : ByteArray} {r : Int × (List S80) × (List S80) × (List S73)} (h : f104 k a0_0 a0_1 a0_2 a1_0 a1_1 a1_2 a1_3 = some r) : callT Try.prog CC0 P0 104 (List.map (denV G) [.agg [.sl 2 a0_0 [], .sl 2 a0_1 [], .sl 3 a0_2 []], .agg [.id .i64 0 a1_0, .s a1_1, .s a1_2, .s a1_3]]) (List.map (denO G) []) = some (denV G (f104.o a0_0 a0_1 a0_2 a1_0 a1_1 a1_2 a1_3 r).1, List.map (denO G) (f104.o a0_0 a0_1 a0_2 a1_0 a1_1 a1_2 a1_3 r).2) :=
 fn_ok0 (k := k) (E := envf104) (kt := ktf104) (start := f104.start k a0_0 a0_1 a0_2 a1_0 a1_1 a1_2 a1_3) (o := f104.o a0_0 a0_1 a0_2 a1_0 a1_1 a1_2 a1_3) (h0 := (.skip (.both (.two (.both (.l (.l (.l .all))) (.r (.skip (.r (.r .all))))) .all) .all))) (objs := []) G_ok envf104_ok rfl Try.func104 rfl (by kernel_rfl) (by kernel_rfl) rfl (Nat.le_of_ble_eq_true (by kernel_rfl)) (by kernel_rfl) ((by kernel_rfl : (f104.start k a0_0 a0_1 a0_2 a1_0 a1_1 a1_2 a1_3).run Empty.elim = f104 k a0_0 a0_1 a0_2 a1_0 a1_1 a1_2 a1_3).trans h)
theorem sf104_ok (k : Nat) : SumOk Try.prog CC0 P0 G 104 (sf104 k) := by
 intro as0' os0' lk r l h0'
 unfold sf104 at h0'
 obtain ⟨v0, as1', rfl, h1'⟩ := lH_runs h0'; obtain ⟨v1, as2', rfl, h2'⟩ := lH_runs h1'; obtain ⟨rfl, h3'⟩ := lT_runs h2'; obtain ⟨rfl, h4'⟩ := lT_runs h3'; obtain ⟨b1', e1, h5'⟩ := argA_runs h4'; obtain ⟨y2', r2', e2, h6'⟩ := argH_runs h5'; obtain ⟨y3', r3', e3, h7'⟩ := argH_runs h6'; obtain ⟨y4', r4', e4, h8'⟩ := argH_runs h7'; obtain ⟨e5, h9'⟩ := argT_runs h8'; obtain ⟨a0_0, e6, h10'⟩ := argL_runs h9'; obtain ⟨a0_1, e7, h11'⟩ := argL_runs h10'; obtain ⟨a0_2, e8, h12'⟩ := argL_runs h11'; obtain ⟨b5', e9, h13'⟩ := argA_runs h12'; obtain ⟨y6', r6', e10, h14'⟩ := argH_runs h13'; obtain ⟨y7', r7', e11, h15'⟩ := argH_runs h14'; obtain ⟨y8', r8', e12, h16'⟩ := argH_runs h15'; obtain ⟨y9', r9', e13, h17'⟩ := argH_runs h16'; obtain ⟨e14, h18'⟩ := argT_runs h17'; obtain ⟨a1_0, e15, h19'⟩ := argI_runs h18'; obtain ⟨a1_1, e16, h20'⟩ := argS_runs h19'; obtain ⟨a1_2, e17, h21'⟩ := argS_runs h20'; obtain ⟨a1_3, e18, h22'⟩ := argS_runs h21'; obtain ⟨z', hz', h⟩ := call_runs h22'
 obtain ⟨rfl, rfl⟩ := runs_ret.1 h; exact ⟨rfl, by simp only [List.map_cons, List.map_nil, e1, e2, e3, e4, e5, e6, e7, e8, e9, e10, e11, e12, e13, e14, e15, e16, e17, e18]; exact f104_ok hz'⟩
end Go.Proofs.Ytfjoamlgbegpgaa.P
namespace Go.Proofs.Ytfjoamlgbegpgaa.P
open Go Go.Proofs.Ytfjoamlgbegpgaa.PM Go.Proofs.Ytfjoamlgbegpgaa.PN Go.Proofs
set_option maxRecDepth 100000
set_option linter.unusedVariables false
def envf67 (k : Nat) : Ev El := envOf CC0 [(49, sf49 k), (53, sf53 k), (79, sf79 k), (103, sf103 k), (104, sf104 k)]
theorem envf67_ok (k : Nat) : EvOk Try.prog CC0 P0 G (envf67 k) := env_ok (sums_cons (sf49_ok k) (sums_cons (sf53_ok k) (sums_cons (sf79_ok k) (sums_cons (sf103_ok k) (sums_cons (sf104_ok k) (sums_nil))))))
def ktf67 : Nat → Nat → Nat := fun rid q => 0
theorem f67_ok {k : Nat} {a0_0 : List S80} {a0_1 : List S80} {a0_2 : List S73} {a1_0 : ByteArray} {a2_0 : ByteArray} {r : Int × (List S80) × (List S80) × (List S73)} (h : f67 k a0_0 a0_1 a0_2 a1_0 a2_0 = some r) : callT Try.prog CC0 P0 67 (List.map (denV G) [.agg [.sl 2 a0_0 [], .sl 2 a0_1 [], .sl 3 a0_2 []], .s a1_0, .s a2_0]) (List.map (denO G) []) = some (denV G (f67.o a0_0 a0_1 a0_2 a1_0 a2_0 r).1, List.map (denO G) (f67.o a0_0 a0_1 a0_2 a1_0 a2_0 r).2) :=
 fn_ok (k := k) (E := envf67) (kt := ktf67) (start := f67.start k a0_0 a0_1 a0_2 a1_0 a2_0) (stt := f67.st) (o := f67.o a0_0 a0_1 a0_2 a1_0 a2_0) (h0 := .all) (D := f67.D) (blk := f67.blk) (hint := f67.hint) (objs := []) G_ok envf67_ok rfl Try.func67 rfl (by kernel_rfl) (by kernel_rfl) rfl (Nat.le_of_ble_eq_true (by kernel_rfl)) (fun x => by cases x <;> kernel_rfl) (fun k x => by cases x <;> kernel_rfl) (fun k x => by cases x <;> kernel_rfl) (by kernel_rfl) ((by kernel_rfl : (f67.start k a0_0 a0_1 a0_2 a1_0 a2_0).run (f67.D k) = f67 k a0_0 a0_1 a0_2 a1_0 a2_0).trans h)
theorem sf67_ok (k : Nat) : SumOk Try.prog CC0 P0 G 67 (sf67 k) := by
 intro as0' os0' lk r l h0'
 unfold sf67 at h0'
 obtain ⟨v0, as1', rfl, h1'⟩ := lH_runs h0'; obtain ⟨v1, as2', rfl, h2'⟩ := lH_runs h1'; obtain ⟨v2, as3', rfl, h3'⟩ := lH_runs h2'; obtain ⟨rfl, h4'⟩ := lT_runs h3'; obtain ⟨rfl, h5'⟩ := lT_runs h4'; obtain ⟨b1', e1, h6'⟩ := argA_runs h5'; obtain ⟨y2', r2', e2, h7'⟩ := argH_runs h6'; obtain ⟨y3', r3', e3, h8'⟩ := argH_runs h7'; obtain ⟨y4', r4', e4, h9'⟩ := argH_runs h8'; obtain ⟨e5, h10'⟩ := argT_runs h9'; obtain ⟨a0_0, e6, h11'⟩ := argL_runs h10'; obtain ⟨a0_1, e7, h12'⟩ := argL_runs h11'; obtain ⟨a0_2, e8, h13'⟩ := argL_runs h12'; obtain ⟨a1_0, e9, h14'⟩ := argS_runs h13'; obtain ⟨a2_0, e10, h15'⟩ := argS_runs h14'; obtain ⟨z', hz', h⟩ := call_runs h15'
 obtain ⟨rfl, rfl⟩ := runs_ret.1 h; exact ⟨rfl, by simp only [List.map_cons, List.map_nil, e1, e2, e3, e4, e5, e6, e7, e8, e9, e10]; exact f67_ok hz'⟩
end Go.Proofs.Ytfjoamlgbegpgaa.P
namespace Go.Proofs.Ytfjoamlgbegpgaa.P
open Go Go.Proofs.Ytfjoamlgbegpgaa.PM Go.Proofs.Ytfjoamlgbegpgaa.PN Go.Proofs
set_option maxRecDepth 100000
set_option linter.unusedVariables false
def envf116 (k : Nat) : Ev El := envOf CC0 []
theorem envf116_ok (k : Nat) : EvOk Try.prog CC0 P0 G (envf116 k) := env_ok (sums_nil)
def ktf116 : Nat → Nat → Nat := fun rid q => 0
theorem f116_ok {k : Nat} {a0_0 : ByteArray} {r : Int} (h : f116 k a0_0 = some r) : callT Try.prog CC0 P0 116 (List.map (denV G) [.s a0_0]) (List.map (denO G) []) = some (denV G (f116.o a0_0 r).1, List.map (denO G) (f116.o a0_0 r).2) :=
 fn_ok (k := k) (E := envf116) (kt := ktf116) (start := f116.start k a0_0) (stt := f116.st) (o := f116.o a0_0) (h0 := .all) (D := f116.D) (blk := f116.blk) (hint := f116.hint) (objs := []) G_ok envf116_ok rfl Try.func116 rfl (by kernel_rfl) (by kernel_rfl) rfl (Nat.le_of_ble_eq_true (by kernel_rfl)) (fun x => by cases x <;> kernel_rfl) (fun k x => by cases x <;> kernel_rfl) (fun k x => by cases x <;> kernel_rfl) (by kernel_rfl) ((by kernel_rfl : (f116.start k a0_0).run (f116.D k) = f116 k a0_0).trans h)
theorem sf116_ok (k : Nat) : SumOk Try.prog CC0 P0 G 116 (sf116 k) := by
 intro as0' os0' lk r l h0'
 unfold sf116 at h0'
 obtain ⟨v0, as1', rfl, h1'⟩ := lH_runs h0'; obtain ⟨rfl, h2'⟩ := lT_runs h1'; obtain ⟨rfl, h3'⟩ := lT_runs h2'; obtain ⟨a0_0, e1, h4'⟩ := argS_runs h3'; obtain ⟨z', hz', h⟩ := call_runs h4'
 obtain ⟨rfl, rfl⟩ := runs_ret.1 h; exact ⟨rfl, by simp only [List.map_cons, List.map_nil, e1]; exact f116_ok hz'⟩
end Go.Proofs.Ytfjoamlgbegpgaa.P
namespace Go.Proofs.Ytfjoamlgbegpgaa.P
open Go Go.Proofs.Ytfjoamlgbegpgaa.PM Go.Proofs.Ytfjoamlgbegpgaa.PN Go.Proofs
set_option maxRecDepth 100000
set_option linter.unusedVariables false
def envf127 (k : Nat) : Ev El := envOf CC0 []
theorem envf127_ok (k : Nat) : EvOk Try.prog CC0 P0 G (envf127 k) := env_ok (sums_nil)
def ktf127 : Nat → Nat → Nat := fun rid q => 0
theorem f127_ok {k : Nat} {a1_0 : List Int} {r : Int} (h : f127 k a1_0 = some r) : callT Try.prog CC0 P0 127 (List.map (denV G) [.agg [], .sl 6 a1_0 []]) (List.map (denO G) []) = some (denV G (f127.o a1_0 r).1, List.map (denO G) (f127.o a1_0 r).2) :=
 fn_ok0 (k := k) (E := envf127) (kt := ktf127) (start := f127.start k a1_0) (o := f127.o a1_0) (h0 := .all) (objs := []) G_ok envf127_ok rfl Try.func127 rfl (by kernel_rfl) (by kernel_rfl) rfl (Nat.le_of_ble_eq_true (by kernel_rfl)) (by kernel_rfl) ((by kernel_rfl : (f127.start k a1_0).run Empty.elim = f127 k a1_0).trans h)
theorem sf127_ok (k : Nat) : SumOk Try.prog CC0 P0 G 127 (sf127 k) := by
 intro as0' os0' lk r l h0'
 unfold sf127 at h0'
 obtain ⟨v0, as1', rfl, h1'⟩ := lH_runs h0'; obtain ⟨v1, as2', rfl, h2'⟩ := lH_runs h1'; obtain ⟨rfl, h3'⟩ := lT_runs h2'; obtain ⟨rfl, h4'⟩ := lT_runs h3'; obtain ⟨b1', e1, h5'⟩ := argA_runs h4'; obtain ⟨e2, h6'⟩ := argT_runs h5'; obtain ⟨a1_0, e3, h7'⟩ := argL_runs h6'; obtain ⟨z', hz', h⟩ := call_runs h7'
 obtain ⟨rfl, rfl⟩ := runs_ret.1 h; exact ⟨rfl, by simp only [List.map_cons, List.map_nil, e1, e2, e3]; exact f127_ok hz'⟩
end Go.Proofs.Ytfjoamlgbegpgaa.P
namespace Go.Proofs.Ytfjoamlgbegpgaa.P
open Go Go.Proofs.Ytfjoamlgbegpgaa.PM Go.Proofs.Ytfjoamlgbegpgaa.PN Go.Proofs
set_option maxRecDepth 100000
set_option linter.unusedVariables false
def envf109 (k : Nat) : Ev El := envOf CC0 [(116, sf116 k), (127, sf127 k)]
theorem envf109_ok (k : Nat) : EvOk Try.prog CC0 P0 G (envf109 k) := env_ok (sums_cons (sf116_ok k) (sums_cons (sf127_ok k) (sums_nil)))
def ktf109 : Nat → Nat → Nat := fun rid q => 0
theorem f109_ok {k : Nat} {a0_0 : ByteArray} {r : Int × Int × (List S104)} (h : f109 k a0_0 = some r) : callT Try.prog CC0 P0 109 (List.map (denV G) [.s a0_0]) (List.map (denO G) []) = some (denV G (f109.o a0_0 r).1, List.map (denO G) (f109.o a0_0 r).2) :=
 fn_ok (k := k) (E := envf109) (kt := ktf109) (start := f109.start k a0_0) (stt := f109.st) (o := f109.o a0_0) (h0 := .all) (D := f109.D) (blk := f109.blk) (hint := f109.hint) (objs := []) G_ok envf109_ok rfl Try.func109 rfl (by kernel_rfl) (by kernel_rfl) rfl (Nat.le_of_ble_eq_true (by kernel_rfl)) (fun x => by cases x <;> kernel_rfl) (fun k x => by cases x <;> kernel_rfl) (fun k x => by cases x <;> kernel_rfl) (by kernel_rfl) ((by kernel_rfl : (f109.start k a0_0).run (f109.D k) = f109 k a0_0).trans h)
theorem sf109_ok (k : Nat) : SumOk Try.prog CC0 P0 G 109 (sf109 k) := by
 intro as0' os0' lk r l h0'
 unfold sf109 at h0'
 obtain ⟨v0, as1', rfl, h1'⟩ := lH_runs h0'; obtain ⟨rfl, h2'⟩ := lT_runs h1'; obtain ⟨rfl, h3'⟩ := lT_runs h2'; obtain ⟨a0_0, e1, h4'⟩ := argS_runs h3'; obtain ⟨z', hz', h⟩ := call_runs h4'
 obtain ⟨rfl, rfl⟩ := runs_ret.1 h; exact ⟨rfl, by simp only [List.map_cons, List.map_nil, e1]; exact f109_ok hz'⟩
end Go.Proofs.Ytfjoamlgbegpgaa.P
namespace Go.Proofs.Ytfjoamlgbegpgaa.P
open Go Go.Proofs.Ytfjoamlgbegpgaa.PM Go.Proofs.Ytfjoamlgbegpgaa.PN Go.Proofs
set_option maxRecDepth 100000
set_option linter.unusedVariables false
def envf60 (k : Nat) : Ev El := envOf CC0 []
theorem envf60_ok (k : Nat) : EvOk Try.prog CC0 P0 G (envf60 k) := env_ok (sums_nil)
def ktf60 : Nat → Nat → Nat := fun rid q => 0
theorem f60_ok {k : Nat} {a0_0 : Int} {a1_0 : Int} {a2_0 : Int} {r : Bool} (h : f60 k a0_0 a1_0 a2_0 = some r) : callT Try.prog CC0 P0 60 (List.map (denV G) [.id .i64 1 a0_0, .id .i64 2 a1_0, .id .i64 3 a2_0]) (List.map (denO G) []) = some (denV G (f60.o a0_0 a1_0 a2_0 r).1, List.map (denO G) (f60.o a0_0 a1_0 a2_0 r).2) :=
 fn_ok0 (k := k) (E := envf60) (kt := ktf60) (start := f60.start k a0_0 a1_0 a2_0) (o := f60.o a0_0 a1_0 a2_0) (h0 := (.both (.l (.l (.l .all))) (.r (.r (.r .all))))) (objs := []) G_ok envf60_ok rfl Try.func60 rfl (by kernel_rfl) (by kernel_rfl) rfl (Nat.le_of_ble_eq_true (by kernel_rfl)) (by kernel_rfl) ((by kernel_rfl : (f60.start k a0_0 a1_0 a2_0).run Empty.elim = f60 k a0_0 a1_0 a2_0).trans h)
theorem sf60_ok (k : Nat) : SumOk Try.prog CC0 P0 G 60 (sf60 k) := by
 intro as0' os0' lk r l h0'
 unfold sf60 at h0'
 obtain ⟨v0, as1', rfl, h1'⟩ := lH_runs h0'; obtain ⟨v1, as2', rfl, h2'⟩ := lH_runs h1'; obtain ⟨v2, as3', rfl, h3'⟩ := lH_runs h2'; obtain ⟨rfl, h4'⟩ := lT_runs h3'; obtain ⟨rfl, h5'⟩ := lT_runs h4'; obtain ⟨a0_0, e1, h6'⟩ := argI_runs h5'; obtain ⟨a1_0, e2, h7'⟩ := argI_runs h6'; obtain ⟨a2_0, e3, h8'⟩ := argI_runs h7'; obtain ⟨z', hz', h⟩ := call_runs h8'
 obtain ⟨rfl, rfl⟩ := runs_ret.1 h; exact ⟨rfl, by simp only [List.map_cons, List.map_nil, e1, e2, e3]; exact f60_ok hz'⟩
end Go.Proofs.Ytfjoamlgbegpgaa.P
namespace Go.Proofs.Ytfjoamlgbegpgaa.P
open Go Go.Proofs.Ytfjoamlgbegpgaa.PM Go.Proofs.Ytfjoamlgbegpgaa.PN Go.Proofs
set_option maxRecDepth 100000
set_option linter.unusedVariables false
def envf78 (k : Nat) : Ev El := envOf CC0 [(60, sf60 k)]
theorem envf78_ok (k : Nat) : EvOk Try.prog CC0 P0 G (envf78 k) := env_ok (sums_cons (sf60_ok k) (sums_nil))
def ktf78 : Nat → Nat → Nat := fun rid q => 0
theorem f78_ok {k : Nat} {a0_0 : Int} {r : Bool} (h : f78 k a0_0 = some r) : callT Try.prog CC0 P0 78 (List.map (denV G) [.id .i64 1 a0_0]) (List.map (denO G) []) = some (denV G (f78.o a0_0 r).1, List.map (denO G) (f78.o a0_0 r).2) :=
 fn_ok0 (k := k) (E := envf78) (kt := ktf78) (start := f78.start k a0_0) (o := f78.o a0_0) (h0 := .all) (objs := []) G_ok envf78_ok rfl Try.func78 rfl (by kernel_rfl) (by kernel_rfl) rfl (Nat.le_of_ble_eq_true (by kernel_rfl)) (by kernel_rfl) ((by kernel_rfl : (f78.start k a0_0).run Empty.elim = f78 k a0_0).trans h)
theorem sf78_ok (k : Nat) : SumOk Try.prog CC0 P0 G 78 (sf78 k) := by
 intro as0' os0' lk r l h0'
 unfold sf78 at h0'
 obtain ⟨v0, as1', rfl, h1'⟩ := lH_runs h0'; obtain ⟨rfl, h2'⟩ := lT_runs h1'; obtain ⟨rfl, h3'⟩ := lT_runs h2'; obtain ⟨a0_0, e1, h4'⟩ := argI_runs h3'; obtain ⟨z', hz', h⟩ := call_runs h4'
 obtain ⟨rfl, rfl⟩ := runs_ret.1 h; exact ⟨rfl, by simp only [List.map_cons, List.map_nil, e1]; exact f78_ok hz'⟩
end Go.Proofs.Ytfjoamlgbegpgaa.P
namespace Go.Proofs.Ytfjoamlgbegpgaa.P
open Go Go.Proofs.Ytfjoamlgbegpgaa.PM Go.Proofs.Ytfjoamlgbegpgaa.PN Go.Proofs
set_option maxRecDepth 100000
set_option linter.unusedVariables false
def envf110 (k : Nat) : Ev El := envOf CC0 [(78, sf78 k)]
theorem envf110_ok (k : Nat) : EvOk Try.prog CC0 P0 G (envf110 k) := env_ok (sums_cons (sf78_ok k) (sums_nil))
def ktf110 : Nat → Nat → Nat := fun rid q => 0
theorem f110_ok {k : Nat} {a0_0 : ByteArray} {r : Int × ByteArray × Bool} (h : f110 k a0_0 = some r) : callT Try.prog CC0 P0 110 (List.map (denV G) [.s a0_0]) (List.map (denO G) []) = some (denV G (f110.o a0_0 r).1, List.map (denO G) (f110.o a0_0 r).2) :=
 fn_ok (k := k) (E := envf110) (kt := ktf110) (start := f110.start k a0_0) (stt := f110.st) (o := f110.o a0_0) (h0 := .all) (D := f110.D) (blk := f110.blk) (hint := f110.hint) (objs := []) G_ok envf110_ok rfl Try.func110 rfl (by kernel_rfl) (by kernel_rfl) rfl (Nat.le_of_ble_eq_true (by kernel_rfl)) (fun x => by cases x <;> kernel_rfl) (fun k x => by cases x <;> kernel_rfl) (fun k x => by cases x <;> kernel_rfl) (by kernel_rfl) ((by kernel_rfl : (f110.start k a0_0).run (f110.D k) = f110 k a0_0).trans h)
theorem sf110_ok (k : Nat) : SumOk Try.prog CC0 P0 G 110 (sf110 k) := by
 intro as0' os0' lk r l h0'
 unfold sf110 at h0'
 obtain ⟨v0, as1', rfl, h1'⟩ := lH_runs h0'; obtain ⟨rfl, h2'⟩ := lT_runs h1'; obtain ⟨rfl, h3'⟩ := lT_runs h2'; obtain ⟨a0_0, e1, h4'⟩ := argS_runs h3'; obtain ⟨z', hz', h⟩ := call_runs h4'
 obtain ⟨rfl, rfl⟩ := runs_ret.1 h; exact ⟨rfl, by simp only [List.map_cons, List.map_nil, e1]; exact f110_ok hz'⟩
end Go.Proofs.Ytfjoamlgbegpgaa.P
namespace Go.Proofs.Ytfjoamlgbegpgaa.P
open Go Go.Proofs.Ytfjoamlgbegpgaa.PM Go.Proofs.Ytfjoamlgbegpgaa.PN Go.Proofs
set_option maxRecDepth 100000
set_option linter.unusedVariables false
def envf128 (k : Nat) : Ev El := envOf CC0 [(110, sf110 k)]
theorem envf128_ok (k : Nat) : EvOk Try.prog CC0 P0 G (envf128 k) := env_ok (sums_cons (sf110_ok k) (sums_nil))
def ktf128 : Nat → Nat → Nat := fun rid q => 0
theorem f128_ok {k : Nat} {a0_0 : ByteArray} {r : ByteArray × ByteArray × Bool} (h : f128 k a0_0 = some r) : callT Try.prog CC0 P0 128 (List.map (denV G) [.s a0_0]) (List.map (denO G) []) = some (denV G (f128.o a0_0 r).1, List.map (denO G) (f128.o a0_0 r).2) :=
 fn_ok0 (k := k) (E := envf128) (kt := ktf128) (start := f128.start k a0_0) (o := f128.o a0_0) (h0 := (.skip (.both (.l (.l (.both (.l (.l (.l (.l .all)))) (.r (.r (.r (.r .all))))))) (.r (.r .all))))) (objs := []) G_ok envf128_ok rfl Try.func128 rfl (by kernel_rfl) (by kernel_rfl) rfl (Nat.le_of_ble_eq_true (by kernel_rfl)) (by kernel_rfl) ((by kernel_rfl : (f128.start k a0_0).run Empty.elim = f128 k a0_0).trans h)
theorem sf128_ok (k : Nat) : SumOk Try.prog CC0 P0 G 128 (sf128 k) := by
 intro as0' os0' lk r l h0'
 unfold sf128 at h0'
 obtain ⟨v0, as1', rfl, h1'⟩ := lH_runs h0'; obtain ⟨rfl, h2'⟩ := lT_runs h1'; obtain ⟨rfl, h3'⟩ := lT_runs h2'; obtain ⟨a0_0, e1, h4'⟩ := argS_runs h3'; obtain ⟨z', hz', h⟩ := call_runs h4'
 obtain ⟨rfl, rfl⟩ := runs_ret.1 h; exact ⟨rfl, by simp only [List.map_cons, List.map_nil, e1]; exact f128_ok hz'⟩
end Go.Proofs.Ytfjoamlgbegpgaa.P
namespace Go.Proofs.Ytfjoamlgbegpgaa.P
open Go Go.Proofs.Ytfjoamlgbegpgaa.PM Go.Proofs.Ytfjoamlgbegpgaa.PN Go.Proofs
set_option maxRecDepth 100000
set_option linter.unusedVariables false
def envf129 (k : Nat) : Ev El := envOf CC0 [(60, sf60 k)]
theorem envf129_ok (k : Nat) : EvOk Try.prog CC0 P0 G (envf129 k) := env_ok (sums_cons (sf60_ok k) (sums_nil))
def ktf129 : Nat → Nat → Nat := fun rid q => 0
theorem f129_ok {k : Nat} {a0_0 : Int} {a0_1 : Int} {a0_2 : ByteArray} {r : Bool} (h : f129 k a0_0 a0_1 a0_2 = some r) : callT Try.prog CC0 P0 129 (List.map (denV G) [.agg [.id .i64 0 a0_0, .id .i64 0 a0_1, .s a0_2]]) (List.map (denO G) []) = some (denV G (f129.o a0_0 a0_1 a0_2 r).1, List.map (denO G) (f129.o a0_0 a0_1 a0_2 r).2) :=
 fn_ok0 (k := k) (E := envf129) (kt := ktf129) (start := f129.start k a0_0 a0_1 a0_2) (o := f129.o a0_0 a0_1 a0_2) (h0 := (.skip (.both (.l (.l (.skip (.l (.both (.l (.l (.l (.l .all)))) (.r (.r (.r (.r .all))))))))) (.r (.r (.r .all)))))) (objs := []) G_ok envf129_ok rfl Try.func129 rfl (by kernel_rfl) (by kernel_rfl) rfl (Nat.le_of_ble_eq_true (by kernel_rfl)) (by kernel_rfl) ((by kernel_rfl : (f129.start k a0_0 a0_1 a0_2).run Empty.elim = f129 k a0_0 a0_1 a0_2).trans h)
theorem sf129_ok (k : Nat) : SumOk Try.prog CC0 P0 G 129 (sf129 k) := by
 intro as0' os0' lk r l h0'
 unfold sf129 at h0'
 obtain ⟨v0, as1', rfl, h1'⟩ := lH_runs h0'; obtain ⟨rfl, h2'⟩ := lT_runs h1'; obtain ⟨rfl, h3'⟩ := lT_runs h2'; obtain ⟨b1', e1, h4'⟩ := argA_runs h3'; obtain ⟨y2', r2', e2, h5'⟩ := argH_runs h4'; obtain ⟨y3', r3', e3, h6'⟩ := argH_runs h5'; obtain ⟨y4', r4', e4, h7'⟩ := argH_runs h6'; obtain ⟨e5, h8'⟩ := argT_runs h7'; obtain ⟨a0_0, e6, h9'⟩ := argI_runs h8'; obtain ⟨a0_1, e7, h10'⟩ := argI_runs h9'; obtain ⟨a0_2, e8, h11'⟩ := argS_runs h10'; obtain ⟨z', hz', h⟩ := call_runs h11'
 obtain ⟨rfl, rfl⟩ := runs_ret.1 h; exact ⟨rfl, by simp only [List.map_cons, List.map_nil, e1, e2, e3, e4, e5, e6, e7, e8]; exact f129_ok hz'⟩
end Go.Proofs.Ytfjoamlgbegpgaa.P
namespace Go.Proofs.Ytfjoamlgbegpgaa.P
open Go Go.Proofs.Ytfjoamlgbegpgaa.PM Go.Proofs.Ytfjoamlgbegpgaa.PN Go.Proofs
set_option maxRecDepth 100000
set_option linter.unusedVariables false
def envf111 (k : Nat) : Ev El := envOf CC0 [(110, sf110 k), (128, sf128 k), (129, sf129 k)]
theorem envf111_ok (k : Nat) : EvOk Try.prog CC0 P0 G (envf111 k) := env_ok (sums_cons (sf110_ok k) (sums_cons (sf128_ok k) (sums_cons (sf129_ok k) (sums_nil))))
def ktf111 : Nat → Nat → Nat := fun rid q => 0
theorem f111_ok {k : Nat} {a0_0 : Int} {a0_1 : ByteArray} {r : Int × Int × ByteArray × Bool} (h : f111 k a0_0 a0_1 = some r) : callT Try.prog CC0 P0 111 (List.map (denV G) [.agg [.id .i64 0 a0_0, .s a0_1]]) (List.map (denO G) []) = some (denV G (f111.o a0_0 a0_1 r).1, List.map (denO G) (f111.o a0_0 a0_1 r).2) :=
 fn_ok0 (k := k) (E := envf111) (kt := ktf111) (start := f111.start k a0_0 a0_1) (o := f111.o a0_0 a0_1) (h0 := (.skip (.skip (.skip (.both (.l (.l (.both (.l (.l (.both (.l (.l (.both (.l (.l (.both (.l (.skip (.l (.l .all)))) (.r (.r (.r .all)))))) (.r (.r .all))))) (.r (.r .all))))) (.r (.r .all))))) (.r (.r .all))))))) (objs := []) G_ok envf111_ok rfl Try.func111 rfl (by kernel_rfl) (by kernel_rfl) rfl (Nat.le_of_ble_eq_true (by kernel_rfl)) (by kernel_rfl) ((by kernel_rfl : (f111.start k a0_0 a0_1).run Empty.elim = f111 k a0_0 a0_1).trans h)
theorem sf111_ok (k : Nat) : SumOk Try.prog CC0 P0 G 111 (sf111 k) := by
 intro as0' os0' lk r l h0'
 unfold sf111 at h0'
 obtain ⟨v0, as1', rfl, h1'⟩ := lH_runs h0'; obtain ⟨rfl, h2'⟩ := lT_runs h1'; obtain ⟨rfl, h3'⟩ := lT_runs h2'; obtain ⟨b1', e1, h4'⟩ := argA_runs h3'; obtain ⟨y2', r2', e2, h5'⟩ := argH_runs h4'; obtain ⟨y3', r3', e3, h6'⟩ := argH_runs h5'; obtain ⟨e4, h7'⟩ := argT_runs h6'; obtain ⟨a0_0, e5, h8'⟩ := argI_runs h7'; obtain ⟨a0_1, e6, h9'⟩ := argS_runs h8'; obtain ⟨z', hz', h⟩ := call_runs h9'
 obtain ⟨rfl, rfl⟩ := runs_ret.1 h; exact ⟨rfl, by simp only [List.map_cons, List.map_nil, e1, e2, e3, e4, e5, e6]; exact f111_ok hz'⟩
end Go.Proofs.Ytfjoamlgbegpgaa.P
namespace Go.Proofs.Ytfjoamlgbegpgaa.P
open Go Go.Proofs.Ytfjoamlgbegpgaa.PM Go.Proofs.Ytfjoamlgbegpgaa.PN Go.Proofs
set_option maxRecDepth 100000
set_option linter.unusedVariables false
def envf73 (k : Nat) : Ev El := envOf CC0 [(49, sf49 k), (53, sf53 k), (109, sf109 k), (110, sf110 k), (111, sf111 k)]
theorem envf73_ok (k : Nat) : EvOk Try.prog CC0 P0 G (envf73 k) := env_ok (sums_cons (sf49_ok k) (sums_cons (sf53_ok k) (sums_cons (sf109_ok k) (sums_cons (sf110_ok k) (sums_cons (sf111_ok k) (sums_nil))))))
def ktf73 : Nat → Nat → Nat := fun rid q => 0
theorem f73_ok {k : Nat} {a0_0 : List S80} {a0_1 : List S80} {a0_2 : List S73} {r : Int × Int × Bool × (List S136)} (h : f73 k a0_0 a0_1 a0_2 = some r) : callT Try.prog CC0 P0 73 (List.map (denV G) [.agg [.sl 2 a0_0 [], .sl 2 a0_1 [], .sl 3 a0_2 []]]) (List.map (denO G) []) = some (denV G (f73.o a0_0 a0_1 a0_2 r).1, List.map (denO G) (f73.o a0_0 a0_1 a0_2 r).2) :=
 fn_ok (k := k) (E := envf73) (kt := ktf73) (start := f73.start k a0_0 a0_1 a0_2) (stt := f73.st) (o := f73.o a0_0 a0_1 a0_2) (h0 := (.skip (.both (.skip (.both (.skip (.both (.l (.l (.l (.both (.l (.l (.l (.l (.l (.both (.skip (.skip (.both (.l (.l (.both (.l (.l .all)) (.r (.r .all))))) (.r (.r .all))))) .all)))))) (.r (.r (.r (.r (.r .all))))))))) (.r (.r (.r .all))))) .all)) .all))) (D := f73.D) (blk := f73.blk) (hint := f73.hint) (objs := []) G_ok envf73_ok rfl Try.func73 rfl (by kernel_rfl) (by kernel_rfl) rfl (Nat.le_of_ble_eq_true (by kernel_rfl)) (fun x => by cases x <;> kernel_rfl) (fun k x => by cases x <;> kernel_rfl) (fun k x => by cases x <;> kernel_rfl) (by kernel_rfl) ((by kernel_rfl : (f73.start k a0_0 a0_1 a0_2).run (f73.D k) = f73 k a0_0 a0_1 a0_2).trans h)
theorem sf73_ok (k : Nat) : SumOk Try.prog CC0 P0 G 73 (sf73 k) := by
 intro as0' os0' lk r l h0'
 unfold sf73 at h0'
 obtain ⟨v0, as1', rfl, h1'⟩ := lH_runs h0'; obtain ⟨rfl, h2'⟩ := lT_runs h1'; obtain ⟨rfl, h3'⟩ := lT_runs h2'; obtain ⟨b1', e1, h4'⟩ := argA_runs h3'; obtain ⟨y2', r2', e2, h5'⟩ := argH_runs h4'; obtain ⟨y3', r3', e3, h6'⟩ := argH_runs h5'; obtain ⟨y4', r4', e4, h7'⟩ := argH_runs h6'; obtain ⟨e5, h8'⟩ := argT_runs h7'; obtain ⟨a0_0, e6, h9'⟩ := argL_runs h8'; obtain ⟨a0_1, e7, h10'⟩ := argL_runs h9'; obtain ⟨a0_2, e8, h11'⟩ := argL_runs h10'; obtain ⟨z', hz', h⟩ := call_runs h11'
 obtain ⟨rfl, rfl⟩ := runs_ret.1 h; exact ⟨rfl, by simp only [List.map_cons, List.map_nil, e1, e2, e3, e4, e5, e6, e7, e8]; exact f73_ok hz'⟩
end Go.Proofs.Ytfjoamlgbegpgaa.P
namespace Go.Proofs.Ytfjoamlgbegpgaa.P
open Go Go.Proofs.Ytfjoamlgbegpgaa.PM Go.Proofs.Ytfjoamlgbegpgaa.PN Go.Proofs
set_option maxRecDepth 100000
set_option linter.unusedVariables false
def envf115 (k : Nat) : Ev El := envOf CC0 []
theorem envf115_ok (k : Nat) : EvOk Try.prog CC0 P0 G (envf115 k) := env_ok (sums_nil)
def ktf115 : Nat → Nat → Nat := fun rid q => 0
theorem f115_ok {k : Nat} {a2_0 : Int} {o0 : List Int} {r : (List Int)} (h : f115 k a2_0 o0 = some r) : callT Try.prog CC0 P0 115 (List.map (denV G) [.agg [], .win 0 true (.l 0) (.d 0 o0.length), .id .u32 3 a2_0]) (List.map (denO G) [.row true true true 0 6 o0 none]) = some (denV G (f115.o a2_0 o0 r).1, List.map (denO G) (f115.o a2_0 o0 r).2) :=
 fn_ok0 (k := k) (E := envf115) (kt := ktf115) (start := f115.start k a2_0 o0) (o := f115.o a2_0 o0) (h0 := .all) (objs := [.row true true true 0 6 o0 none]) G_ok envf115_ok rfl Try.func115 rfl (by kernel_rfl) (by kernel_rfl) rfl (Nat.le_of_ble_eq_true (by kernel_rfl)) (by kernel_rfl) ((by kernel_rfl : (f115.start k a2_0 o0).run Empty.elim = f115 k a2_0 o0).trans h)
theorem sf115_ok (k : Nat) : SumOk Try.prog CC0 P0 G 115 (sf115 k) := by
 intro as0' os0' lk r l h0'
 unfold sf115 at h0'
 obtain ⟨v0, as1', rfl, h1'⟩ := lH_runs h0'; obtain ⟨v1, as2', rfl, h2'⟩ := lH_runs h1'; obtain ⟨v2, as3', rfl, h3'⟩ := lH_runs h2'; obtain ⟨rfl, h4'⟩ := lT_runs h3'; obtain ⟨x0, os1', rfl, h5'⟩ := lH_runs h4'; obtain ⟨rfl, h6'⟩ := lT_runs h5'; obtain ⟨o0, e1, h7'⟩ := argR_runs h6'; obtain ⟨b1', e2, h8'⟩ := argA_runs h7'; obtain ⟨e3, h9'⟩ := argT_runs h8'; obtain ⟨e4, h10'⟩ := argW_runs h9'; obtain ⟨a2_0, e5, h11'⟩ := argI_runs h10'; obtain ⟨z', hz', h⟩ := call_runs h11'
 obtain ⟨rfl, rfl⟩ := runs_ret.1 h; exact ⟨rfl, by simp only [List.map_cons, List.map_nil, e1, e2, e3, e4, e5]; exact f115_ok hz'⟩
end Go.Proofs.Ytfjoamlgbegpgaa.P
namespace Go.Proofs.Ytfjoamlgbegpgaa.P
open Go Go.Proofs.Ytfjoamlgbegpgaa.PM Go.Proofs.Ytfjoamlgbegpgaa.PN Go.Proofs
set_option maxRecDepth 100000
set_option linter.unusedVariables false
def envf80 (k : Nat) : Ev El := envOf CC0 [(60, sf60 k), (115, sf115 k), (116, sf116 k)]
theorem envf80_ok (k : Nat) : EvOk Try.prog CC0 P0 G (envf80 k) := env_ok (sums_cons (sf60_ok k) (sums_cons (sf115_ok k) (sums_cons (sf116_ok k) (sums_nil))))
def ktf80 : Nat → Nat → Nat := fun rid q => 0
theorem f80_ok {k : Nat} {a0_0 : Int} {a0_1 : ByteArray} {r : ByteArray} (h : f80 k a0_0 a0_1 = some r) : callT Try.prog CC0 P0 80 (List.map (denV G) [.agg [.id .i64 0 a0_0, .s a0_1]]) (List.map (denO G) []) = some (denV G (f80.o a0_0 a0_1 r).1, List.map (denO G) (f80.o a0_0 a0_1 r).2) :=
 fn_ok0 (k := k) (E := envf80) (kt := ktf80) (start := f80.start k a0_0 a0_1) (o := f80.o a0_0 a0_1) (h0 := (.skip (.both (.l (.l (.l (.l .all)))) (.r (.r (.r (.r .all))))))) (objs := []) G_ok envf80_ok rfl Try.func80 rfl (by kernel_rfl) (by kernel_rfl) rfl (Nat.le_of_ble_eq_true (by kernel_rfl)) (by kernel_rfl) ((by kernel_rfl : (f80.start k a0_0 a0_1).run Empty.elim = f80 k a0_0 a0_1).trans h)
theorem sf80_ok (k : Nat) : SumOk Try.prog CC0 P0 G 80 (sf80 k) := by
 intro as0' os0' lk r l h0'
 unfold sf80 at h0'
 obtain ⟨v0, as1', rfl, h1'⟩ := lH_runs h0'; obtain ⟨rfl, h2'⟩ := lT_runs h1'; obtain ⟨rfl, h3'⟩ := lT_runs h2'; obtain ⟨b1', e1, h4'⟩ := argA_runs h3'; obtain ⟨y2', r2', e2, h5'⟩ := argH_runs h4'; obtain ⟨y3', r3', e3, h6'⟩ := argH_runs h5'; obtain ⟨e4, h7'⟩ := argT_runs h6'; obtain ⟨a0_0, e5, h8'⟩ := argI_runs h7'; obtain ⟨a0_1, e6, h9'⟩ := argS_runs h8'; obtain ⟨z', hz', h⟩ := call_runs h9'
 obtain ⟨rfl, rfl⟩ := runs_ret.1 h; exact ⟨rfl, by simp only [List.map_cons, List.map_nil, e1, e2, e3, e4, e5, e6]; exact f80_ok hz'⟩
end Go.Proofs.Ytfjoamlgbegpgaa.P
namespace Go.Proofs.Ytfjoamlgbegpgaa.P
open Go Go.Proofs.Ytfjoamlgbegpgaa.PM Go.Proofs.Ytfjoamlgbegpgaa.PN Go.Proofs
set_option maxRecDepth 100000
set_option linter.unusedVariables false
def envf81 (k : Nat) : Ev El := envOf CC0 []
theorem envf81_ok (k : Nat) : EvOk Try.prog CC0 P0 G (envf81 k) := env_ok (sums_nil)
def ktf81 : Nat → Nat → Nat := fun rid q => 0
theorem f81_ok {k : Nat} {a0_0 : Int} {r : ByteArray} (h : f81 k a0_0 = some r) : callT Try.prog CC0 P0 81 (List.map (denV G) [.id .i64 1 a0_0]) (List.map (denO G) []) = some (denV G (f81.o a0_0 r).1, List.map (denO G) (f81.o a0_0 r).2) :=
 fn_ok (k := k) (E := envf81) (kt := ktf81) (start := f81.start k a0_0) (stt := f81.st) (o := f81.o a0_0) (h0 := .all) (D := f81.D) (blk := f81.blk) (hint := f81.hint) (objs := []) G_ok envf81_ok rfl Try.func81 rfl (by kernel_rfl) (by kernel_rfl) rfl (Nat.le_of_ble_eq_true (by kernel_rfl)) (fun x => by cases x <;> kernel_rfl) (fun k x => by cases x <;> kernel_rfl) (fun k x => by cases x <;> kernel_rfl) (by kernel_rfl) ((by kernel_rfl : (f81.start k a0_0).run (f81.D k) = f81 k a0_0).trans h)
theorem sf81_ok (k : Nat) : SumOk Try.prog CC0 P0 G 81 (sf81 k) := by
 intro as0' os0' lk r l h0'
 unfold sf81 at h0'
 obtain ⟨v0, as1', rfl, h1'⟩ := lH_runs h0'; obtain ⟨rfl, h2'⟩ := lT_runs h1'; obtain ⟨rfl, h3'⟩ := lT_runs h2'; obtain ⟨a0_0, e1, h4'⟩ := argI_runs h3'; obtain ⟨z', hz', h⟩ := call_runs h4'
 obtain ⟨rfl, rfl⟩ := runs_ret.1 h; exact ⟨rfl, by simp only [List.map_cons, List.map_nil, e1]; exact f81_ok hz'⟩
end Go.Proofs.Ytfjoamlgbegpgaa.P
namespace Go.Proofs.Ytfjoamlgbegpgaa.P
open Go Go.Proofs.Ytfjoamlgbegpgaa.PM Go.Proofs.Ytfjoamlgbegpgaa.PN Go.Proofs
set_option maxRecDepth 100000
set_option linter.unusedVariables false
def envf40 (k : Nat) : Ev El := envOf CC0 [(24, sf24 k), (49, sf49 k), (67, sf67 k), (73, sf73 k), (78, sf78 k), (79, sf79 k), (80, sf80 k), (81, sf81 k)]
theorem envf40_ok (k : Nat) : EvOk Try.prog CC0 P0 G (envf40 k) := env_ok (sums_cons (sf24_ok k) (sums_cons (sf49_ok k) (sums_cons (sf67_ok k) (sums_cons (sf73_ok k) (sums_cons (sf78_ok k) (sums_cons (sf79_ok k) (sums_cons (sf80_ok k) (sums_cons (sf81_ok k) (sums_nil)))))))))
def ktf40 : Nat → Nat → Nat := fun rid q => 0
theorem f40_ok {k : Nat} {a0_0 : List S80} {a0_1 : List S80} {a0_2 : List S73} {a1_0 : Int} {a2_0 : Int} {r : Int × (List S80) × (List S80) × (List S73)} (h : f40 k a0_0 a0_1 a0_2 a1_0 a2_0 = some r) : callT Try.prog CC0 P0 40 (List.map (denV G) [.agg [.sl 2 a0_0 [], .sl 2 a0_1 [], .sl 3 a0_2 []], .id .i64 2 a1_0, .id .i64 3 a2_0]) (List.map (denO G) []) = some (denV G (f40.o a0_0 a0_1 a0_2 a1_0 a2_0 r).1, List.map (denO G) (f40.o a0_0 a0_1 a0_2 a1_0 a2_0 r).2) :=
 fn_ok0 (k := k) (E := envf40) (kt := ktf40) (start := f40.start k a0_0 a0_1 a0_2 a1_0 a2_0) (o := f40.o a0_0 a0_1 a0_2 a1_0 a2_0) (h0 := (.skip (.both (.skip (.both (.l (.skip (.l (.l (.both (.l (.skip (.l (.l (.both (.l (.l (.l (.l (.both (.l (.l (.l (.l (.l (.l (.l (.l .all)))))))) (.r (.r (.r (.r (.both (.l (.l (.r (.l (.r (.both (.l (.l (.l (.r (.l (.r .all)))))) (.r (.r (.r (.r (.r (.r .all)))))))))))) (.r (.r (.r (.r (.r (.r (.r .all))))))))))))))))) (.r (.r (.r (.r .all))))))))) (.r (.r (.r .all)))))))) (.r (.r (.r .all))))) .all))) (objs := []) G_ok envf40_ok rfl Try.func40 rfl (by kernel_rfl) (by kernel_rfl) rfl (Nat.le_of_ble_eq_true (by kernel_rfl)) (by kernel_rfl) ((by kernel_rfl : (f40.start k a0_0 a0_1 a0_2 a1_0 a2_0).run Empty.elim = f40 k a0_0 a0_1 a0_2 a1_0 a2_0).trans h)
theorem sf40_ok (k : Nat) : SumOk Try.prog CC0 P0 G 40 (sf40 k) := by
 intro as0' os0' lk r l h0'
 unfold sf40 at h0'
 obtain ⟨v0, as1', rfl, h1'⟩ := lH_runs h0'; obtain ⟨v1, as2', rfl, h2'⟩ := lH_runs h1'; obtain ⟨v2, as3', rfl, h3'⟩ := lH_runs h2'; obtain ⟨rfl, h4'⟩ := lT_runs h3'; obtain ⟨rfl, h5'⟩ := lT_runs h4'; obtain ⟨b1', e1, h6'⟩ := argA_runs h5'; obtain ⟨y2', r2', e2, h7'⟩ := argH_runs h6'; obtain ⟨y3', r3', e3, h8'⟩ := argH_runs h7'; obtain ⟨y4', r4', e4, h9'⟩ := argH_runs h8'; obtain ⟨e5, h10'⟩ := argT_runs h9'; obtain ⟨a0_0, e6, h11'⟩ := argL_runs h10'; obtain ⟨a0_1, e7, h12'⟩ := argL_runs h11'; obtain ⟨a0_2, e8, h13'⟩ := argL_runs h12'; obtain ⟨a1_0, e9, h14'⟩ := argI_runs h13'; obtain ⟨a2_0, e10, h15'⟩ := argI_runs h14'; obtain ⟨z', hz', h⟩ := call_runs h15'
 obtain ⟨rfl, rfl⟩ := runs_ret.1 h; exact ⟨rfl, by simp only [List.map_cons, List.map_nil, e1, e2, e3, e4, e5, e6, e7, e8, e9, e10]; exact f40_ok hz'⟩
end Go.Proofs.Ytfjoamlgbegpgaa.P
namespace Go.Proofs.Ytfjoamlgbegpgaa.P
open Go Go.Proofs.Ytfjoamlgbegpgaa.PM Go.Proofs.Ytfjoamlgbegpgaa.PN Go.Proofs
set_option maxRecDepth 100000
set_option linter.unusedVariables false
def envf11 (k : Nat) : Ev El := envOf CC0 [(12, sf12 k), (14, sf14 k), (16, sf16 k), (29, sf29 k), (30, sf30 k), (39, sf39 k), (40, sf40 k)]
theorem envf11_ok (k : Nat) : EvOk Try.prog CC0 P0 G (envf11 k) := env_ok (sums_cons (sf12_ok k) (sums_cons (sf14_ok k) (sums_cons (sf16_ok k) (sums_cons (sf29_ok k) (sums_cons (sf30_ok k) (sums_cons (sf39_ok k) (sums_cons (sf40_ok k) (sums_nil))))))))
def ktf11 : Nat → Nat → Nat := fun rid q => 0
theorem f11.run (k : Nat) (a0_0 : List S106) (a0_1 : List S106) (a0_2 : List S108) (a1_0 : Int) (a2_0 : Int) : f11 k a0_0 a0_1 a0_2 a1_0 a2_0 = (f11.start k a0_0 a0_1 a0_2 a1_0 a2_0).run Empty.elim := by simp only [f11, f11.start, PT.run, bindH_eq, dite_eq_ite]
theorem f11_ok {k : Nat} {a0_0 : List S106} {a0_1 : List S106} {a0_2 : List S108} {a1_0 : Int} {a2_0 : Int} {r : Bool} (h : f11 k a0_0 a0_1 a0_2 a1_0 a2_0 = some r) : callT Try.prog CC0 P0 11 (List.map (denV G) [.agg [.sl 0 a0_0 [], .sl 0 a0_1 [], .sl 1 a0_2 []], .id .i64 2 a1_0, .id .i64 3 a2_0]) (List.map (denO G) []) = some (denV G (f11.o a0_0 a0_1 a0_2 a1_0 a2_0 r).1, List.map (denO G) (f11.o a0_0 a0_1 a0_2 a1_0 a2_0 r).2) :=
 fn_ok0 (k := k) (E := envf11) (kt := ktf11) (start := f11.start k a0_0 a0_1 a0_2 a1_0 a2_0) (o := f11.o a0_0 a0_1 a0_2 a1_0 a2_0) (h0 := (.skip (.both .all (.bindr ((List S80) × (List S80) × (List S73)) fun t2 => (.skip (.re ((List S80) × (List S80) × (List S73)) t2 (.bindr (Int × (List S80) × (List S80) × (List S73)) fun t4 => (.bindr (Bool) fun t5 => (.both (.l (.l (.l (.both (.re ((List S80) × (List S80) × (List S73)) t2 (.skip (.both (.skip (.both (.l (.l (.l (.l .all)))) (.r (.r (.re (Bool) t5 (.r (.r (.l (.l (.l (.l (.l (.skip (.bindr (Int) fun t9 => (.both .all (.both (.re ((List S80) × (List S80) × (List S73)) t2 (.re (Int × (List S80) × (List S80) × (List S73)) t4 (.re (Bool) t5 (.l (.l (.l (.l (.l (.re (Int) t9 (.r (.l .all))))))))))) .all)))))))))))))))) .all))) .all)))) (.r (.r (.r .all)))))))))))) (objs := []) G_ok envf11_ok rfl Try.func11 rfl (by kernel_rfl) (by kernel_rfl) rfl (Nat.le_of_ble_eq_true (by kernel_rfl)) (by kernel_rfl) ((f11.run k a0_0 a0_1 a0_2 a1_0 a2_0).symm.trans h)
theorem f11_okT {k : Nat} {a0_0 : List S106} {a0_1 : List S106} {a0_2 : List S108} {a1_0 : Int} {a2_0 : Int} {r : Bool} (h : f11 k a0_0 a0_1 a0_2 a1_0 a2_0 = some r) : callT Try.prog CC0 P0 11 [T.agg [T.sl (List.map e106 a0_0) [], T.sl (List.map e106 a0_1) [], T.sl (List.map e108 a0_2) []], T.sc (.int .i64 a1_0), T.sc (.int .i64 a2_0)] [] = some (denV G (f11.o a0_0 a0_1 a0_2 a1_0 a2_0 r).1, []) := f11_ok h
end Go.Proofs.Ytfjoamlgbegpgaa.P
namespace Go.Proofs.Ytfjoamlgbegpgaa.P
open Go Go.Proofs.Ytfjoamlgbegpgaa.PM Go.Proofs Go.RowKit
theorem info_split {P : Program} {e : TypeId} {z : Value} {k b : Nat} (h : (P.info? e).map (fun i => (i.zero, i.size, i.bytes)) = some (some z, k, b)) : ∃ i, P.info? e = some i ∧ i.zero = some z ∧ i.size = k ∧ i.bytes = b := by
  cases hi : P.info? e with
  | none => rw [hi] at h; cases h
  | some i => rw [hi] at h; simp only [Option.map_some, Option.some.injEq, Prod.mk.injEq] at h; exact ⟨i, rfl, h.1, h.2.1, h.2.2⟩
theorem info_File : (Try.prog.info? 80).map (fun i => (i.zero, i.size, i.bytes)) = some (some (.agg #[(.string ⟨#[]⟩), (.string ⟨#[]⟩)]), 2, 32) := by kernel_rfl
set_option maxHeartbeats 4000000 in
set_option maxRecDepth 100000 in
theorem delW_File (g c i n : Nat) (C : Array Value) (w : World) (hR : RowC w 2 g C) (hcap : c * 2 ≤ C.size) (hnc : n ≤ c) (hjn : i + 1 ≤ n) (h1c : ∀ q u, q < n * 2 → C[q]? = some u → u.oneCell' = true) :
    Calls Try.prog 100 #[.slice (some ⟨g, 0, none⟩) n c, .int .i64 i, .int .i64 ((i + 1 : Nat) : Int)] w fun e w' => e = .returned (.slice (some ⟨g, 0, none⟩) (n - 1) c) ∧
      w' = (w.drew.setCells g (i * 2) ((C.toList.take (n * 2)).drop ((i + 1) * 2))).setCells g ((n - 1) * 2) (Builtin.zeroCells (Value.cells (.agg #[(.string ⟨#[]⟩), (.string ⟨#[]⟩)])) 1).toList := by
  obtain ⟨j, hj⟩ : ∃ j, j = i + 1 := ⟨_, rfl⟩
  rw [← hj]
  have hu := Try.underlying28
  obtain ⟨i0, hi0, hz0, hzs, hzb⟩ := info_split info_File
  have hC : C.toList.length = C.size := Array.length_toList
  obtain ⟨news, hnews⟩ : ∃ news, news = (C.toList.take (n * 2)).drop (j * 2) := ⟨_, rfl⟩
  have hdl : news.length = (n - j) * 2 := by rw [hnews, List.length_drop, List.length_take]; omega
  have hng : ∀ q u, news[q]? = some u → C[j * 2 + q]? = some u ∧ j * 2 + q < n * 2 := fun q u hq => by
    have hlt : q < news.length := (List.getElem?_eq_some_iff.1 hq).1
    rw [hnews, List.getElem?_drop, List.getElem?_take_of_lt (by omega)] at hq
    exact ⟨by simpa using hq, by omega⟩
  obtain ⟨A, hA, hsrc⟩ : ∃ A : Addr, (if c = j then some (⟨g, 0, none⟩ : Addr) else some ⟨g, j * 2, none⟩) = some A ∧ Aside0 (∀ t u, news[t]? = some u → w.drew.cell? (A.add t) = some u) := by
    by_cases h : c = j
    · refine ⟨⟨g, 0, none⟩, by simp [h], ⟨fun t u hu => ?_⟩⟩
      have h0 : news.length = 0 := by rw [hdl]; omega
      rw [List.length_eq_zero_iff.1 h0] at hu
      simp at hu
    · refine ⟨⟨g, j * 2, none⟩, by simp [h], ⟨fun t u hu => ?_⟩⟩
      rw [Addr.add_lit, hR.drew.cell]
      exact (hng t u hu).1
  have h1n : ∀ u ∈ news, u.oneCell' = true := fun u hu => by
    obtain ⟨q, hq⟩ := List.getElem?_of_mem hu
    obtain ⟨h1, h2⟩ := hng q u hq
    exact h1c _ u h2 h1
  obtain ⟨C1, hR1, hs1, _, _⟩ := hR.drew.set (i * 2) news
  have hz1 : ∀ m, ∀ v ∈ (Builtin.zeroCells (Value.cells (.agg #[(.string ⟨#[]⟩), (.string ⟨#[]⟩)])) m).toList, v.oneCell' = true := fun m v hv => by
    simp only [Builtin.zeroCells, Array.toList_map, List.mem_map] at hv
    obtain ⟨q, _, rfl⟩ := hv
    have : q % (Value.cells (.agg #[(.string ⟨#[]⟩), (.string ⟨#[]⟩)])).size < 2 := Nat.mod_lt _ (by decide)
    generalize q % (Value.cells (.agg #[(.string ⟨#[]⟩), (.string ⟨#[]⟩)])).size = r at this
    match r, this with
    | 0, _ => rfl
    | 1, _ => rfl
    | r + 2, h => exact absurd h (by omega)
  have hzl : ∀ m, (Builtin.zeroCells (Value.cells (.agg #[(.string ⟨#[]⟩), (.string ⟨#[]⟩)])) m).toList.length = m * 2 := fun m => by rw [Array.length_toList]; simp [Builtin.zeroCells, Value.cells]
  have hcl2 : ∀ ty, (Builtin.clear_ #[28] ty #[.slice (some ⟨g, (i + (n - j)) * 2, none⟩) (n - (i + (n - j))) (c - (i + (n - j)))]).run Try.prog (w.drew.setCells g (i * 2) news) = .ok (.tuple #[]) ((w.drew.setCells g (i * 2) news).setCells g ((n - 1) * 2) (Builtin.zeroCells (Value.cells (.agg #[(.string ⟨#[]⟩), (.string ⟨#[]⟩)])) 1).toList) := fun ty => by
    rw [show i + (n - j) = n - 1 by omega, show n - (n - 1) = 1 by omega]
    exact run_clear_cells (P := Try.prog) _ 28 80 ty (.agg #[(.string ⟨#[]⟩), (.string ⟨#[]⟩)]) hu Try.zeroValue80 g ((n - 1) * 2) 1 (c - (n - 1)) (by decide) (fun q hq => by rw [hzl] at hq; rw [hR1.cell, Array.getElem?_eq_getElem (by omega)]; rfl)
      (fun q hq => by rw [hzl] at hq; obtain ⟨E, fr, _, hf⟩ := hR1; exact hf _ (.inl (by omega))) (hz1 1)
  have s1 := Aside0.mk hdl
  have s2 := Aside0.mk h1n
  have s3 : Aside0 (∀ t, t < news.length → (w.drew.cell? ⟨g, 0 + i * 2 + t, none⟩).isSome = true ∧ w.drew.frozen? ⟨g, 0 + i * 2 + t, none⟩ = false) := ⟨fun t ht => by
    rw [hdl] at ht
    obtain ⟨E, fr, _, hf⟩ := hR.drew
    refine ⟨?_, hf _ (.inl (by omega))⟩
    rw [hR.drew.cell, Array.getElem?_eq_getElem (by omega)]
    rfl⟩
  have hic : i ≤ c := by omega
  have hjc : j ≤ c := by omega
  have hne : ¬ ((i : Int) = (j : Int)) := by omega
  have FIN : Aside0 ((w.drew.setCells g (i * 2) news).setCells g ((n - 1) * 2) (Builtin.zeroCells (Value.cells (.agg #[(.string ⟨#[]⟩), (.string ⟨#[]⟩)])) 1).toList = (w.drew.setCells g (i * 2) ((C.toList.take (n * 2)).drop (j * 2))).setCells g ((n - 1) * 2) (Builtin.zeroCells (Value.cells (.agg #[(.string ⟨#[]⟩), (.string ⟨#[]⟩)])) 1).toList) := ⟨by rw [hnews]⟩
  have hij : i < j := by omega
  have hji : j ≤ i + 1 := by omega
  have hjn' : j ≤ n := by omega
  clear hR1 hs1 hz1 hzl hng hC hnews hdl h1n hR hcap hz0 hzb h1c hj hjn
  go_enter Try.func100, Try.ntmps100
  go_wp2_with fail
  go_region_law (refine step_append_room rfl (.tmp 22) (.tmp 25) 28 rfl 80 i0 2 hu hi0 hzs g 0 i c (by simp [Act.eval, Act.put]) A (n - j) (c - j) news (by simp [Act.eval, Act.put]) (by have := s1.out; omega) hsrc.out s2.out (by omega) (by simpa using s3.out) ?_; (try simp only [Nat.mul_one]))
  go_wp2
  go_ret
  exact ⟨by rw [show n - 1 = i + (n - j) by omega]; rfl, FIN.out⟩
set_option maxHeartbeats 4000000 in
set_option maxRecDepth 100000 in
theorem insRoom_File (g c i n : Nat) (C : Array Value) (vs : List Value) (vb vc : Nat) (V : Array Value) (w : World) (hR : RowC w 2 g C) (hcap : c * 2 ≤ C.size) (hin : i < n) (hroom : n + 1 ≤ c) (hbig : (n + 1) * 32 ≤ 140737488355328)
    (h1c : ∀ q u, q < n * 2 → C[q]? = some u → u.oneCell' = true) (hV : RowC w 2 vb V) (hvs : ∀ (j : Nat) (u : Value), vs[j]? = some u → V[j]? = some u) (hvl : vs.length = 2) (h1v : ∀ u ∈ vs, u.oneCell' = true) (hne : vb ≠ g) :
    Calls Try.prog 121 #[.slice (some ⟨g, 0, none⟩) n c, .int .i64 i, .slice (some ⟨vb, 0, none⟩) 1 vc] w fun e w' => ∃ b' cap' C', e = .returned (.slice (some ⟨b', 0, none⟩) (n + 1) cap') ∧ InsR w w' 2 g i n C vs b' cap' C' := by
  have hu := Try.underlying28
  obtain ⟨i0, hi0, hz0, hzs, hzb⟩ := info_split info_File
  have hsz : (Try.prog.info? 80).map (·.size) = some 2 := by rw [hi0]; simp [hzs]
  have hC : C.toList.length = C.size := Array.length_toList
  have hsa : ∃ tA, w.shape? vb = some (tA, V.size) := by obtain ⟨E, fr, h, _⟩ := hV; exact ⟨E, by simp [World.shape?, h]⟩
  have hsb : ∃ tB, w.shape? g = some (tB, C.size) := by obtain ⟨E, fr, h, _⟩ := hR; exact ⟨E, by simp [World.shape?, h]⟩
  have hfv : ∀ q, w.frozen? ⟨vb, q, none⟩ = false := by obtain ⟨E, fr, _, h⟩ := hV; exact fun q => h q (.inr (by decide))
  obtain ⟨tA, hsa⟩ := hsa
  obtain ⟨tB, hsb⟩ := hsb
  have hov : ∀ lb cb, (callFunc 133 #[.slice (some ⟨vb, 0, none⟩) 1 vc, .slice (some ⟨g, (i + 1) * 2, none⟩) lb cb]).run Try.prog w = .ok (.value (.bool false)) w := fun lb cb => by
    rw [run_callFunc_extern Try.func133 (by kernel_rfl) (by kernel_rfl) (by kernel_rfl) (e := Extern.SlicesOverlaps.overlaps #[28, 28] #[4]) (by kernel_rfl),
      Lib.run_overlaps_apart w 28 4 80 hu 2 Try.sizeOf80 ⟨vb, 0, none⟩ ⟨g, (i + 1) * 2, none⟩ 1 vc lb cb hne tA tB V.size C.size hsa hsb (by omega) (hfv 0) (hfv V.size)]
    rfl
  obtain ⟨news, hnews⟩ : ∃ news, news = (C.toList.take (n * 2)).drop (i * 2) := ⟨_, rfl⟩
  have hdl : news.length = (n - i) * 2 := by rw [hnews, List.length_drop, List.length_take]; omega
  have hng : ∀ q, q < news.length → news[q]? = C[i * 2 + q]? := fun q hq => by
    rw [hnews, List.getElem?_drop, List.getElem?_take_of_lt (by omega)]
    simp
  have h1n : ∀ u ∈ news, u.oneCell' = true := fun u hu => by
    obtain ⟨q, hq⟩ := List.getElem?_of_mem hu
    have hlt : q < news.length := (List.getElem?_eq_some_iff.1 hq).1
    rw [hng q hlt] at hq
    exact h1c _ u (by omega) hq
  obtain ⟨C1, hR1, hs1, ho1, hi1⟩ := hR.drew.set ((i + 1) * 2) news
  obtain ⟨C2, hR2, hs2, ho2, hi2⟩ := hR1.set (i * 2) vs
  have hcp1 : ∀ (W : World), W.heap = w.heap → ∀ ty dc sc, (Builtin.copy_ #[28, 28] ty #[.slice (some ⟨g, (i + 1) * 2, none⟩) (n - i) dc, .slice (some ⟨g, i * 2, none⟩) (n + 1 - i) sc]).run Try.prog W = .ok (goInt ((n - i : Nat) : Int)) (W.setCells g ((i + 1) * 2) news) := fun W hW ty dc sc => by
    have hRW : RowC W 2 g C := by obtain ⟨E, fr, h1, h2⟩ := hR; exact ⟨E, fr, by rw [hW]; exact h1, fun q hq => by have := h2 q hq; simpa only [World.frozen?, hW] using this⟩
    have := run_copyC (P := Try.prog) W 28 28 ty 80 2 g ((i + 1) * 2) (n - i) dc ⟨g, i * 2, none⟩ (n + 1 - i) sc news hu hsz (by rw [hdl]; simp only [Nat.min_def]; split <;> omega)
      (fun j u hj => by
        have hlt : j < news.length := (List.getElem?_eq_some_iff.1 hj).1
        rw [Addr.add_lit, hRW.cell, ← hng j hlt]; exact hj)
      (fun q hq => by rw [hRW.cell, Array.getElem?_eq_getElem (by omega)]; rfl) (fun q hq => by obtain ⟨E, fr, _, hf⟩ := hRW; exact hf _ (.inr (by decide))) h1n
    rw [this, show Nat.min (n + 1 - i) (n - i) = n - i by simp only [Nat.min_def]; split <;> omega]
  have hcp2 : ∀ ty dc, (Builtin.copy_ #[28, 28] ty #[.slice (some ⟨g, i * 2, none⟩) (n + 1 - i) dc, .slice (some ⟨vb, 0, none⟩) 1 vc]).run Try.prog (w.drew.setCells g ((i + 1) * 2) news) = .ok (goInt ((1 : Nat) : Int)) ((w.drew.setCells g ((i + 1) * 2) news).setCells g (i * 2) vs) := fun ty dc => by
    have := run_copyC (P := Try.prog) (w.drew.setCells g ((i + 1) * 2) news) 28 28 ty 80 2 g (i * 2) (n + 1 - i) dc ⟨vb, 0, none⟩ 1 vc vs hu hsz (by rw [hvl]; simp only [Nat.min_def]; split <;> omega)
      (fun j u hj => by
        rw [Addr.add_lit, Nat.zero_add, World.cell?_of_block (w := w.drew) (a := ⟨vb, j, none⟩) (heap_setCells_ne g _ _ _ hne), hV.drew.cell]
        exact hvs j u hj)
      (fun q hq => by rw [hR1.cell, Array.getElem?_eq_getElem (by rw [hs1]; omega)]; rfl) (fun q hq => by obtain ⟨E, fr, _, hf⟩ := hR1; exact hf _ (.inr (by decide))) h1v
    rw [this, show Nat.min 1 (n + 1 - i) = 1 by simp only [Nat.min_def]; split <;> omega]
  have FIN : Aside0 (InsR w ((w.drew.setCells g ((i + 1) * 2) news).setCells g (i * 2) vs) 2 g i n C vs g c C2) := ⟨by
    refine ⟨hR2, by omega, hroom, .inl rfl, fun q hq => ?_, fun q hq => ?_, fun q h1 h2 => ?_, fun q _ hq => ?_, ?_, ?_, ?_, ?_⟩
    · rw [ho2 q (.inl hq), ho1 q (.inl (by omega))]
    · exact hi2 q (by omega) (by omega)
    · rw [ho2 _ (.inr (by omega))]
      obtain ⟨d, rfl⟩ : ∃ d, q = i * 2 + d := ⟨q - i * 2, by omega⟩
      rw [show i * 2 + d + 2 = (i + 1) * 2 + d by omega, hi1 d (by omega) (by show _ < C.size; omega), hng d (by omega)]
    · rw [heap_setCells_ne g _ _ _ hq, heap_setCells_ne g _ _ _ hq]; rfl
    · rw [heap_setCells_size, heap_setCells_size]; exact Nat.le_refl _
    · rw [World.os_setCells, World.os_setCells]; rfl
    · rw [tape_setCells, tape_setCells]; rfl
    · rw [World.output_setCells, World.output_setCells]; rfl⟩
  have hz2 : ¬ ((i : Int) = (n : Int)) := by omega
  have hw1 : IntKind.i64.wrap ((i : Int) + 1) = (i : Int) + 1 := by rw [IntKind.wrap_i64]; omega
  have hb1 : (0 : Int) ≤ (i : Int) + 1 := by omega
  have hin' : i ≤ n := by omega
  have htn : ((i : Int) + 1).toNat = i + 1 := by omega
  have hb2 : ¬ (c = i + 1) := by omega
  have hb3 : (i : Int) ≤ (n : Int) + 1 := by omega
  have hb4 : ¬ (c = i) := by omega
  have HC1 := Aside0.mk hcp1
  have HC2 := Aside0.mk hcp2
  clear hcp1 hcp2 hR1 hR2 hs1 hs2 ho1 ho2 hi1 hi2 hsa hsb hfv h1c h1v h1n hng hnews hdl hvs hR hV hC hcap hvl
  go_enter Try.func121, Try.ntmps121
  go_wp2_with (simp only [hov])
  go_region_law (refine step_copy_runI rfl _ _ 28 28 rfl _ _ (by simp [Act.eval, Act.put]) (by simp [Act.eval, Act.put]) (HC1.out w.drew rfl _ (c - (i + 1)) (c - i)) ?_)
  go_wp2_with fail
  rw [HC2.out]
  go_wp2
  go_ret
  exact ⟨g, c, C2, rfl, FIN.out⟩
set_option maxHeartbeats 4000000 in
set_option maxRecDepth 100000 in
theorem insGrow_File (g c i n : Nat) (C : Array Value) (vs : List Value) (vb vc : Nat) (V : Array Value) (w : World) (hR : RowC w 2 g C) (hcap : c * 2 ≤ C.size) (hin : i < n) (hnc : n ≤ c) (hroom : c < n + 1) (hbig : (n + 1) * 32 ≤ 140737488355328)
    (h1c : ∀ q u, q < n * 2 → C[q]? = some u → u.oneCell' = true) (hV : RowC w 2 vb V) (hvs : ∀ (j : Nat) (u : Value), vs[j]? = some u → V[j]? = some u) (hvl : vs.length = 2) (h1v : ∀ u ∈ vs, u.oneCell' = true) :
    Calls Try.prog 121 #[.slice (some ⟨g, 0, none⟩) n c, .int .i64 i, .slice (some ⟨vb, 0, none⟩) 1 vc] w fun e w' => ∃ b' cap' C', e = .returned (.slice (some ⟨b', 0, none⟩) (n + 1) cap') ∧ InsR w w' 2 g i n C vs b' cap' C' := by
  have hu := Try.underlying28
  have hui := Try.underlying3
  obtain ⟨i0, hi0, hz0, hzs, hzb⟩ := info_split info_File
  have hsz : (Try.prog.info? 80).map (·.size) = some 2 := by rw [hi0]; simp [hzs]
  have hC : C.toList.length = C.size := Array.length_toList
  have hgw : g < w.heap.size := hR.lt
  have hvw : vb < w.heap.size := hV.lt
  have hkk : (n : Int) + 1 - (i : Int) = ((n + 1 - i : Nat) : Int) := by omega
  have hik : i + (n + 1 - i) = n + 1 := by omega
  obtain ⟨olds, holds⟩ : ∃ olds, olds = C.toList.take (i * 2) := ⟨_, rfl⟩
  have hol : olds.length = i * 2 := by rw [holds, List.length_take]; omega
  have hog : ∀ q, q < i * 2 → olds[q]? = C[q]? := fun q hq => by rw [holds, List.getElem?_take_of_lt hq]; simp
  have hold : (Builtin.firstCells i0.size i (.slice (some ⟨g, 0, none⟩) i c)).run Try.prog w.drew = .ok olds.toArray w.drew := by
    rw [hzs]
    exact run_firstCells_some w.drew 2 i ⟨g, 0, none⟩ i c olds hol (fun j v hj => by
      have hlt : j < olds.length := (List.getElem?_eq_some_iff.1 hj).1
      rw [hog j (by omega)] at hj
      rw [Addr.add_lit, Nat.zero_add, hR.drew.cell]
      exact hj)
  obtain ⟨G, hG⟩ : ∃ G, G = grownCap w (n + 1) c 80 := ⟨_, rfl⟩
  obtain ⟨ROW, hROW⟩ : ∃ ROW : Array Value, ROW = olds.toArray ++ Builtin.zeroCells (Value.cells (.agg #[(.string ⟨#[]⟩), (.string ⟨#[]⟩)])) (n + 1 - i) ++ Builtin.zeroCells (Value.cells (.agg #[(.string ⟨#[]⟩), (.string ⟨#[]⟩)])) (G - (n + 1)) := ⟨_, rfl⟩
  have hrz : ∀ ty, (Builtin.append_ #[28, 3] ty #[.slice (some ⟨g, 0, none⟩) i c, .int .i64 ((n : Int) + 1 - (i : Int))]).run Try.prog w =
      .ok (.slice (some ⟨w.heap.size, 0, none⟩) (n + 1) G) (w.drew.alloc (.cells ROW 80)) := fun ty => by
    have h := Lib.run_append_grow_zeros w 28 3 ty 80 i0 _ .i64 .i64 hu hui hi0 hz0 (some ⟨g, 0, none⟩) i c olds hold (n + 1 - i) (by omega) (by omega) (by omega) (by omega) (by rw [hzb]; omega) (by rw [hzb, hik]; exact growslice_fits hroom hbig)
    rw [hik] at h
    rw [hkk, hROW, hG]
    exact h
  have hGn : n + 1 ≤ G := by rw [hG]; exact grownCap_ge w _ _ _
  have hRl : ROW.size = G * 2 := by
    rw [hROW]
    simp [Builtin.zeroCells, Value.cells, hol]
    omega
  obtain ⟨W0, hW0⟩ : ∃ W0, W0 = (w.alloc (.cells ROW 80)).drew := ⟨_, rfl⟩
  have hN0 : RowC W0 2 w.heap.size ROW := ⟨80, (0, 0), by rw [hW0]; show (w.heap.push (.cells ROW 80))[w.heap.size]? = _; simp, fun q _ => by
    have : W0.heap[w.heap.size]? = some (.cells ROW 80 (0, 0)) := by rw [hW0]; show (w.heap.push (.cells ROW 80))[w.heap.size]? = _; simp
    simp [World.frozen?, this]⟩
  have hold0 : ∀ q, q < w.heap.size → W0.heap[q]? = w.heap[q]? := fun q hq => by rw [hW0]; exact heap_alloc_old w _ hq
  have hgN : RowC W0 2 g C := by obtain ⟨E, fr, h1, h2⟩ := hR; exact ⟨E, fr, (hold0 g hgw).trans h1, fun q hq => by have := h2 q hq; simpa only [World.frozen?, hold0 g hgw] using this⟩
  have hvN : RowC W0 2 vb V := by obtain ⟨E, fr, h1, h2⟩ := hV; exact ⟨E, fr, (hold0 vb hvw).trans h1, fun q hq => by have := h2 q hq; simpa only [World.frozen?, hold0 vb hvw] using this⟩
  obtain ⟨news, hnews⟩ : ∃ news, news = (C.toList.take (n * 2)).drop (i * 2) := ⟨_, rfl⟩
  have hdl : news.length = (n - i) * 2 := by rw [hnews, List.length_drop, List.length_take]; omega
  have hng : ∀ q, q < news.length → news[q]? = C[i * 2 + q]? := fun q hq => by
    rw [hnews, List.getElem?_drop, List.getElem?_take_of_lt (by omega)]
    simp
  have h1n : ∀ u ∈ news, u.oneCell' = true := fun u hu => by
    obtain ⟨q, hq⟩ := List.getElem?_of_mem hu
    have hlt : q < news.length := (List.getElem?_eq_some_iff.1 hq).1
    rw [hng q hlt] at hq
    exact h1c _ u (by omega) hq
  have hR0g : ∀ q, q < i * 2 → ROW[q]? = C[q]? := fun q hq => by
    rw [← hog q hq, hROW]
    simp only [Array.append_assoc]
    rw [Array.getElem?_append_left (by simp [hol]; omega)]
    simp
  obtain ⟨C1, hR1, hs1, ho1, hi1⟩ := hN0.set (i * 2) vs
  obtain ⟨C2, hR2, hs2, ho2, hi2⟩ := hR1.drew.set ((i + 1) * 2) news
  have hcp1 : ∀ ty dc, (Builtin.copy_ #[28, 28] ty #[.slice (some ⟨w.heap.size, i * 2, none⟩) (n + 1 - i) dc, .slice (some ⟨vb, 0, none⟩) 1 vc]).run Try.prog W0 = .ok (goInt ((1 : Nat) : Int)) (W0.setCells w.heap.size (i * 2) vs) := fun ty dc => by
    have := run_copyC (P := Try.prog) W0 28 28 ty 80 2 w.heap.size (i * 2) (n + 1 - i) dc ⟨vb, 0, none⟩ 1 vc vs hu hsz (by rw [hvl]; simp only [Nat.min_def]; split <;> omega)
      (fun j u hj => by
        rw [Addr.add_lit, Nat.zero_add, hvN.cell]
        exact hvs j u hj)
      (fun q hq => by rw [hN0.cell, Array.getElem?_eq_getElem (by rw [hRl]; omega)]; rfl) (fun q hq => by obtain ⟨E, fr, _, hf⟩ := hN0; exact hf _ (.inr (by decide))) h1v
    rw [this, show Nat.min 1 (n + 1 - i) = 1 by simp only [Nat.min_def]; split <;> omega]
  have hcp2 : ∀ ty dc sc, (Builtin.copy_ #[28, 28] ty #[.slice (some ⟨w.heap.size, (i + 1) * 2, none⟩) (n - i) dc, .slice (some ⟨g, i * 2, none⟩) (n - i) sc]).run Try.prog (W0.setCells w.heap.size (i * 2) vs).drew = .ok (goInt ((n - i : Nat) : Int)) ((W0.setCells w.heap.size (i * 2) vs).drew.setCells w.heap.size ((i + 1) * 2) news) := fun ty dc sc => by
    have := run_copyC (P := Try.prog) (W0.setCells w.heap.size (i * 2) vs).drew 28 28 ty 80 2 w.heap.size ((i + 1) * 2) (n - i) dc ⟨g, i * 2, none⟩ (n - i) sc news hu hsz (by rw [hdl]; simp only [Nat.min_def]; split <;> omega)
      (fun j u hj => by
        have hlt : j < news.length := (List.getElem?_eq_some_iff.1 hj).1
        rw [Addr.add_lit]
        show (W0.setCells w.heap.size (i * 2) vs).cell? _ = _
        rw [World.cell?_of_block (w := W0) (a := ⟨g, i * 2 + j, none⟩) (heap_setCells_ne w.heap.size _ _ _ (by show g ≠ _; omega)), hgN.cell, ← hng j hlt]
        exact hj)
      (fun q hq => by rw [hR1.drew.cell, Array.getElem?_eq_getElem (by rw [hs1, hRl]; omega)]; rfl) (fun q hq => by obtain ⟨E, fr, _, hf⟩ := hR1.drew; exact hf _ (.inr (by decide))) h1n
    rw [this, show Nat.min (n - i) (n - i) = n - i by simp only [Nat.min_def]; split <;> omega]
  have FIN : Aside0 (InsR w ((W0.setCells w.heap.size (i * 2) vs).drew.setCells w.heap.size ((i + 1) * 2) news) 2 g i n C vs w.heap.size G C2) := ⟨by
    refine ⟨hR2, by omega, hGn, .inr (Nat.le_refl _), fun q hq => ?_, fun q hq => ?_, fun q h1 h2 => ?_, fun q hlt hq => ?_, ?_, ?_, ?_, ?_⟩
    · rw [ho2 q (.inl (by omega)), ho1 q (.inl hq), hR0g q hq]
    · rw [ho2 _ (.inl (by omega))]
      exact hi1 q (by omega) (by omega)
    · obtain ⟨d, rfl⟩ : ∃ d, q = i * 2 + d := ⟨q - i * 2, by omega⟩
      rw [show i * 2 + d + 2 = (i + 1) * 2 + d by omega, hi2 d (by omega) (by omega), hng d (by omega)]
    · rw [heap_setCells_ne _ _ _ _ (by omega)]
      show (W0.setCells _ _ _).heap[q]? = _
      rw [heap_setCells_ne _ _ _ _ (by omega)]
      exact hold0 q hlt
    · rw [heap_setCells_size]
      show _ ≤ (W0.setCells _ _ _).heap.size
      rw [heap_setCells_size, hW0]
      show _ ≤ (w.alloc _).heap.size
      simp [World.alloc_eq]
    · rw [World.os_setCells]
      show (W0.setCells _ _ _).os = _
      rw [World.os_setCells, hW0]; rfl
    · rw [tape_setCells]
      show (W0.setCells _ _ _).tape = _
      rw [tape_setCells, hW0]; rfl
    · rw [World.output_setCells]
      show (W0.setCells _ _ _).output = _
      rw [World.output_setCells, hW0]; rfl⟩
  have hz2 : ¬ ((i : Int) = (n : Int)) := by omega
  have hz3 : (c : Int) < (n : Int) + 1 := by omega
  have hw1 : IntKind.i64.wrap ((i : Int) + 1) = (i : Int) + 1 := by rw [IntKind.wrap_i64]; omega
  have hb1 : (0 : Int) ≤ (i : Int) + 1 := by omega
  have hin' : i ≤ n := by omega
  have htn : ((i : Int) + 1).toNat = i + 1 := by omega
  have hGi : ¬ (G = i) := by omega
  have hGim : ¬ (G = i + 1) := by omega
  have hci : ¬ (c = i) := by omega
  have hb3 : (i : Int) ≤ (n : Int) := by omega
  have hn63 : n ≤ 4611686018427387904 := by omega
  have HC1 := Aside0.mk hcp1
  have HC2 := Aside0.mk hcp2
  have HW := Aside0.mk hW0
  clear hcp1 hcp2 hR1 hR2 hs1 hs2 ho1 ho2 hi1 hi2 h1c h1v h1n hng hnews hdl hvs hR hV hC hcap hvl hR0g hN0 hold0 hgN hvN hRl hROW hG hold hog hol holds hkk hik hgw hvw hW0
  go_enter Try.func121, Try.ntmps121
  go_wp2_with (at_builtin; refine Lib.wpList_append_run _ rfl _ _ _ _ rfl _ _ rfl rfl _ _ (hrz _) ?_)
  rw [← HW.out, HC1.out]
  go_wp2
  go_region_law (refine step_copy_runI rfl _ _ 28 28 rfl _ _ (by simp [Act.eval, Act.put]) (by simp [Act.eval, Act.put]) (HC2.out _ (G - (i + 1)) (c - i)) ?_)
  go_wp2
  go_ret
  exact ⟨_, _, _, rfl, FIN.out⟩
theorem cmpW (a b : ByteArray) (w : World) : Calls Try.prog 132 #[.string a, .string b] w fun e w' => e = .returned (.int .i64 (cmpS a b)) ∧ w' = w := by
  have hx : (callFunc 140 #[.string a, .string b]).run Try.prog w = .ok (.value (.int .i64 (cmpS a b))) w := by
    rw [run_callFunc_extern Try.func140 (by kernel_rfl) (by kernel_rfl) (by kernel_rfl) (e := Extern.BytealgCompare.compare) (by kernel_rfl), Lib.run_compareString]
    rfl
  go_enter Try.func132, Try.ntmps132
  go_wp2_with (simp only [hx])
  go_ret
  exact ⟨rfl, rfl⟩
end Go.Proofs.Ytfjoamlgbegpgaa.P
namespace Go.Proofs.Ytfjoamlgbegpgaa.P
open Go Go.Proofs.Ytfjoamlgbegpgaa.PM Go.Proofs Go.RowKit
theorem info_DOp : (Try.prog.info? 73).map (fun i => (i.zero, i.size, i.bytes)) = some (some (.agg #[(.int .i64 0), (.string ⟨#[]⟩), (.string ⟨#[]⟩), (.string ⟨#[]⟩)]), 4, 56) := by kernel_rfl
set_option maxHeartbeats 4000000 in
set_option maxRecDepth 100000 in
theorem insRoom_DOp (g c i n : Nat) (C : Array Value) (vs : List Value) (vb vc : Nat) (V : Array Value) (w : World) (hR : RowC w 4 g C) (hcap : c * 4 ≤ C.size) (hin : i < n) (hroom : n + 1 ≤ c) (hbig : (n + 1) * 56 ≤ 140737488355328)
    (h1c : ∀ q u, q < n * 4 → C[q]? = some u → u.oneCell' = true) (hV : RowC w 4 vb V) (hvs : ∀ (j : Nat) (u : Value), vs[j]? = some u → V[j]? = some u) (hvl : vs.length = 4) (h1v : ∀ u ∈ vs, u.oneCell' = true) (hne : vb ≠ g) :
    Calls Try.prog 103 #[.slice (some ⟨g, 0, none⟩) n c, .int .i64 i, .slice (some ⟨vb, 0, none⟩) 1 vc] w fun e w' => ∃ b' cap' C', e = .returned (.slice (some ⟨b', 0, none⟩) (n + 1) cap') ∧ InsR w w' 4 g i n C vs b' cap' C' := by
  have hu := Try.underlying29
  obtain ⟨i0, hi0, hz0, hzs, hzb⟩ := info_split info_DOp
  have hsz : (Try.prog.info? 73).map (·.size) = some 4 := by rw [hi0]; simp [hzs]
  have hC : C.toList.length = C.size := Array.length_toList
  have hsa : ∃ tA, w.shape? vb = some (tA, V.size) := by obtain ⟨E, fr, h, _⟩ := hV; exact ⟨E, by simp [World.shape?, h]⟩
  have hsb : ∃ tB, w.shape? g = some (tB, C.size) := by obtain ⟨E, fr, h, _⟩ := hR; exact ⟨E, by simp [World.shape?, h]⟩
  have hfv : ∀ q, w.frozen? ⟨vb, q, none⟩ = false := by obtain ⟨E, fr, _, h⟩ := hV; exact fun q => h q (.inr (by decide))
  obtain ⟨tA, hsa⟩ := hsa
  obtain ⟨tB, hsb⟩ := hsb
  have hov : ∀ lb cb, (callFunc 122 #[.slice (some ⟨vb, 0, none⟩) 1 vc, .slice (some ⟨g, (i + 1) * 4, none⟩) lb cb]).run Try.prog w = .ok (.value (.bool false)) w := fun lb cb => by
    rw [run_callFunc_extern Try.func122 (by kernel_rfl) (by kernel_rfl) (by kernel_rfl) (e := Extern.SlicesOverlaps.overlaps #[29, 29] #[4]) (by kernel_rfl),
      Lib.run_overlaps_apart w 29 4 73 hu 4 Try.sizeOf73 ⟨vb, 0, none⟩ ⟨g, (i + 1) * 4, none⟩ 1 vc lb cb hne tA tB V.size C.size hsa hsb (by omega) (hfv 0) (hfv V.size)]
    rfl
  obtain ⟨news, hnews⟩ : ∃ news, news = (C.toList.take (n * 4)).drop (i * 4) := ⟨_, rfl⟩
  have hdl : news.length = (n - i) * 4 := by rw [hnews, List.length_drop, List.length_take]; omega
  have hng : ∀ q, q < news.length → news[q]? = C[i * 4 + q]? := fun q hq => by
    rw [hnews, List.getElem?_drop, List.getElem?_take_of_lt (by omega)]
    simp
  have h1n : ∀ u ∈ news, u.oneCell' = true := fun u hu => by
    obtain ⟨q, hq⟩ := List.getElem?_of_mem hu
    have hlt : q < news.length := (List.getElem?_eq_some_iff.1 hq).1
    rw [hng q hlt] at hq
    exact h1c _ u (by omega) hq
  obtain ⟨C1, hR1, hs1, ho1, hi1⟩ := hR.drew.set ((i + 1) * 4) news
  obtain ⟨C2, hR2, hs2, ho2, hi2⟩ := hR1.set (i * 4) vs
  have hcp1 : ∀ (W : World), W.heap = w.heap → ∀ ty dc sc, (Builtin.copy_ #[29, 29] ty #[.slice (some ⟨g, (i + 1) * 4, none⟩) (n - i) dc, .slice (some ⟨g, i * 4, none⟩) (n + 1 - i) sc]).run Try.prog W = .ok (goInt ((n - i : Nat) : Int)) (W.setCells g ((i + 1) * 4) news) := fun W hW ty dc sc => by
    have hRW : RowC W 4 g C := by obtain ⟨E, fr, h1, h2⟩ := hR; exact ⟨E, fr, by rw [hW]; exact h1, fun q hq => by have := h2 q hq; simpa only [World.frozen?, hW] using this⟩
    have := run_copyC (P := Try.prog) W 29 29 ty 73 4 g ((i + 1) * 4) (n - i) dc ⟨g, i * 4, none⟩ (n + 1 - i) sc news hu hsz (by rw [hdl]; simp only [Nat.min_def]; split <;> omega)
      (fun j u hj => by
        have hlt : j < news.length := (List.getElem?_eq_some_iff.1 hj).1
        rw [Addr.add_lit, hRW.cell, ← hng j hlt]; exact hj)
      (fun q hq => by rw [hRW.cell, Array.getElem?_eq_getElem (by omega)]; rfl) (fun q hq => by obtain ⟨E, fr, _, hf⟩ := hRW; exact hf _ (.inr (by decide))) h1n
    rw [this, show Nat.min (n + 1 - i) (n - i) = n - i by simp only [Nat.min_def]; split <;> omega]
  have hcp2 : ∀ ty dc, (Builtin.copy_ #[29, 29] ty #[.slice (some ⟨g, i * 4, none⟩) (n + 1 - i) dc, .slice (some ⟨vb, 0, none⟩) 1 vc]).run Try.prog (w.drew.setCells g ((i + 1) * 4) news) = .ok (goInt ((1 : Nat) : Int)) ((w.drew.setCells g ((i + 1) * 4) news).setCells g (i * 4) vs) := fun ty dc => by
    have := run_copyC (P := Try.prog) (w.drew.setCells g ((i + 1) * 4) news) 29 29 ty 73 4 g (i * 4) (n + 1 - i) dc ⟨vb, 0, none⟩ 1 vc vs hu hsz (by rw [hvl]; simp only [Nat.min_def]; split <;> omega)
      (fun j u hj => by
        rw [Addr.add_lit, Nat.zero_add, World.cell?_of_block (w := w.drew) (a := ⟨vb, j, none⟩) (heap_setCells_ne g _ _ _ hne), hV.drew.cell]
        exact hvs j u hj)
      (fun q hq => by rw [hR1.cell, Array.getElem?_eq_getElem (by rw [hs1]; omega)]; rfl) (fun q hq => by obtain ⟨E, fr, _, hf⟩ := hR1; exact hf _ (.inr (by decide))) h1v
    rw [this, show Nat.min 1 (n + 1 - i) = 1 by simp only [Nat.min_def]; split <;> omega]
  have FIN : Aside0 (InsR w ((w.drew.setCells g ((i + 1) * 4) news).setCells g (i * 4) vs) 4 g i n C vs g c C2) := ⟨by
    refine ⟨hR2, by omega, hroom, .inl rfl, fun q hq => ?_, fun q hq => ?_, fun q h1 h2 => ?_, fun q _ hq => ?_, ?_, ?_, ?_, ?_⟩
    · rw [ho2 q (.inl hq), ho1 q (.inl (by omega))]
    · exact hi2 q (by omega) (by omega)
    · rw [ho2 _ (.inr (by omega))]
      obtain ⟨d, rfl⟩ : ∃ d, q = i * 4 + d := ⟨q - i * 4, by omega⟩
      rw [show i * 4 + d + 4 = (i + 1) * 4 + d by omega, hi1 d (by omega) (by show _ < C.size; omega), hng d (by omega)]
    · rw [heap_setCells_ne g _ _ _ hq, heap_setCells_ne g _ _ _ hq]; rfl
    · rw [heap_setCells_size, heap_setCells_size]; exact Nat.le_refl _
    · rw [World.os_setCells, World.os_setCells]; rfl
    · rw [tape_setCells, tape_setCells]; rfl
    · rw [World.output_setCells, World.output_setCells]; rfl⟩
  have hz2 : ¬ ((i : Int) = (n : Int)) := by omega
  have hw1 : IntKind.i64.wrap ((i : Int) + 1) = (i : Int) + 1 := by rw [IntKind.wrap_i64]; omega
  have hb1 : (0 : Int) ≤ (i : Int) + 1 := by omega
  have hin' : i ≤ n := by omega
  have htn : ((i : Int) + 1).toNat = i + 1 := by omega
  have hb2 : ¬ (c = i + 1) := by omega
  have hb3 : (i : Int) ≤ (n : Int) + 1 := by omega
  have hb4 : ¬ (c = i) := by omega
  have HC1 := Aside0.mk hcp1
  have HC2 := Aside0.mk hcp2
  clear hcp1 hcp2 hR1 hR2 hs1 hs2 ho1 ho2 hi1 hi2 hsa hsb hfv h1c h1v h1n hng hnews hdl hvs hR hV hC hcap hvl
  go_enter Try.func103, Try.ntmps103
  go_wp2_with (simp only [hov])
  go_region_law (refine step_copy_runI rfl _ _ 29 29 rfl _ _ (by simp [Act.eval, Act.put]) (by simp [Act.eval, Act.put]) (HC1.out w.drew rfl _ (c - (i + 1)) (c - i)) ?_)
  go_wp2_with fail
  rw [HC2.out]
  go_wp2
  go_ret
  exact ⟨g, c, C2, rfl, FIN.out⟩
set_option maxHeartbeats 4000000 in
set_option maxRecDepth 100000 in
theorem insGrow_DOp (g c i n : Nat) (C : Array Value) (vs : List Value) (vb vc : Nat) (V : Array Value) (w : World) (hR : RowC w 4 g C) (hcap : c * 4 ≤ C.size) (hin : i < n) (hnc : n ≤ c) (hroom : c < n + 1) (hbig : (n + 1) * 56 ≤ 140737488355328)
    (h1c : ∀ q u, q < n * 4 → C[q]? = some u → u.oneCell' = true) (hV : RowC w 4 vb V) (hvs : ∀ (j : Nat) (u : Value), vs[j]? = some u → V[j]? = some u) (hvl : vs.length = 4) (h1v : ∀ u ∈ vs, u.oneCell' = true) :
    Calls Try.prog 103 #[.slice (some ⟨g, 0, none⟩) n c, .int .i64 i, .slice (some ⟨vb, 0, none⟩) 1 vc] w fun e w' => ∃ b' cap' C', e = .returned (.slice (some ⟨b', 0, none⟩) (n + 1) cap') ∧ InsR w w' 4 g i n C vs b' cap' C' := by
  have hu := Try.underlying29
  have hui := Try.underlying3
  obtain ⟨i0, hi0, hz0, hzs, hzb⟩ := info_split info_DOp
  have hsz : (Try.prog.info? 73).map (·.size) = some 4 := by rw [hi0]; simp [hzs]
  have hC : C.toList.length = C.size := Array.length_toList
  have hgw : g < w.heap.size := hR.lt
  have hvw : vb < w.heap.size := hV.lt
  have hkk : (n : Int) + 1 - (i : Int) = ((n + 1 - i : Nat) : Int) := by omega
  have hik : i + (n + 1 - i) = n + 1 := by omega
  obtain ⟨olds, holds⟩ : ∃ olds, olds = C.toList.take (i * 4) := ⟨_, rfl⟩
  have hol : olds.length = i * 4 := by rw [holds, List.length_take]; omega
  have hog : ∀ q, q < i * 4 → olds[q]? = C[q]? := fun q hq => by rw [holds, List.getElem?_take_of_lt hq]; simp
  have hold : (Builtin.firstCells i0.size i (.slice (some ⟨g, 0, none⟩) i c)).run Try.prog w.drew = .ok olds.toArray w.drew := by
    rw [hzs]
    exact run_firstCells_some w.drew 4 i ⟨g, 0, none⟩ i c olds hol (fun j v hj => by
      have hlt : j < olds.length := (List.getElem?_eq_some_iff.1 hj).1
      rw [hog j (by omega)] at hj
      rw [Addr.add_lit, Nat.zero_add, hR.drew.cell]
      exact hj)
  obtain ⟨G, hG⟩ : ∃ G, G = grownCap w (n + 1) c 73 := ⟨_, rfl⟩
  obtain ⟨ROW, hROW⟩ : ∃ ROW : Array Value, ROW = olds.toArray ++ Builtin.zeroCells (Value.cells (.agg #[(.int .i64 0), (.string ⟨#[]⟩), (.string ⟨#[]⟩), (.string ⟨#[]⟩)])) (n + 1 - i) ++ Builtin.zeroCells (Value.cells (.agg #[(.int .i64 0), (.string ⟨#[]⟩), (.string ⟨#[]⟩), (.string ⟨#[]⟩)])) (G - (n + 1)) := ⟨_, rfl⟩
  have hrz : ∀ ty, (Builtin.append_ #[29, 3] ty #[.slice (some ⟨g, 0, none⟩) i c, .int .i64 ((n : Int) + 1 - (i : Int))]).run Try.prog w =
      .ok (.slice (some ⟨w.heap.size, 0, none⟩) (n + 1) G) (w.drew.alloc (.cells ROW 73)) := fun ty => by
    have h := Lib.run_append_grow_zeros w 29 3 ty 73 i0 _ .i64 .i64 hu hui hi0 hz0 (some ⟨g, 0, none⟩) i c olds hold (n + 1 - i) (by omega) (by omega) (by omega) (by omega) (by rw [hzb]; omega) (by rw [hzb, hik]; exact growslice_fits hroom hbig)
    rw [hik] at h
    rw [hkk, hROW, hG]
    exact h
  have hGn : n + 1 ≤ G := by rw [hG]; exact grownCap_ge w _ _ _
  have hRl : ROW.size = G * 4 := by
    rw [hROW]
    simp [Builtin.zeroCells, Value.cells, hol]
    omega
  obtain ⟨W0, hW0⟩ : ∃ W0, W0 = (w.alloc (.cells ROW 73)).drew := ⟨_, rfl⟩
  have hN0 : RowC W0 4 w.heap.size ROW := ⟨73, (0, 0), by rw [hW0]; show (w.heap.push (.cells ROW 73))[w.heap.size]? = _; simp, fun q _ => by
    have : W0.heap[w.heap.size]? = some (.cells ROW 73 (0, 0)) := by rw [hW0]; show (w.heap.push (.cells ROW 73))[w.heap.size]? = _; simp
    simp [World.frozen?, this]⟩
  have hold0 : ∀ q, q < w.heap.size → W0.heap[q]? = w.heap[q]? := fun q hq => by rw [hW0]; exact heap_alloc_old w _ hq
  have hgN : RowC W0 4 g C := by obtain ⟨E, fr, h1, h2⟩ := hR; exact ⟨E, fr, (hold0 g hgw).trans h1, fun q hq => by have := h2 q hq; simpa only [World.frozen?, hold0 g hgw] using this⟩
  have hvN : RowC W0 4 vb V := by obtain ⟨E, fr, h1, h2⟩ := hV; exact ⟨E, fr, (hold0 vb hvw).trans h1, fun q hq => by have := h2 q hq; simpa only [World.frozen?, hold0 vb hvw] using this⟩
  obtain ⟨news, hnews⟩ : ∃ news, news = (C.toList.take (n * 4)).drop (i * 4) := ⟨_, rfl⟩
  have hdl : news.length = (n - i) * 4 := by rw [hnews, List.length_drop, List.length_take]; omega
  have hng : ∀ q, q < news.length → news[q]? = C[i * 4 + q]? := fun q hq => by
    rw [hnews, List.getElem?_drop, List.getElem?_take_of_lt (by omega)]
    simp
  have h1n : ∀ u ∈ news, u.oneCell' = true := fun u hu => by
    obtain ⟨q, hq⟩ := List.getElem?_of_mem hu
    have hlt : q < news.length := (List.getElem?_eq_some_iff.1 hq).1
    rw [hng q hlt] at hq
    exact h1c _ u (by omega) hq
  have hR0g : ∀ q, q < i * 4 → ROW[q]? = C[q]? := fun q hq => by
    rw [← hog q hq, hROW]
    simp only [Array.append_assoc]
    rw [Array.getElem?_append_left (by simp [hol]; omega)]
    simp
  obtain ⟨C1, hR1, hs1, ho1, hi1⟩ := hN0.set (i * 4) vs
  obtain ⟨C2, hR2, hs2, ho2, hi2⟩ := hR1.drew.set ((i + 1) * 4) news
  have hcp1 : ∀ ty dc, (Builtin.copy_ #[29, 29] ty #[.slice (some ⟨w.heap.size, i * 4, none⟩) (n + 1 - i) dc, .slice (some ⟨vb, 0, none⟩) 1 vc]).run Try.prog W0 = .ok (goInt ((1 : Nat) : Int)) (W0.setCells w.heap.size (i * 4) vs) := fun ty dc => by
    have := run_copyC (P := Try.prog) W0 29 29 ty 73 4 w.heap.size (i * 4) (n + 1 - i) dc ⟨vb, 0, none⟩ 1 vc vs hu hsz (by rw [hvl]; simp only [Nat.min_def]; split <;> omega)
      (fun j u hj => by
        rw [Addr.add_lit, Nat.zero_add, hvN.cell]
        exact hvs j u hj)
      (fun q hq => by rw [hN0.cell, Array.getElem?_eq_getElem (by rw [hRl]; omega)]; rfl) (fun q hq => by obtain ⟨E, fr, _, hf⟩ := hN0; exact hf _ (.inr (by decide))) h1v
    rw [this, show Nat.min 1 (n + 1 - i) = 1 by simp only [Nat.min_def]; split <;> omega]
  have hcp2 : ∀ ty dc sc, (Builtin.copy_ #[29, 29] ty #[.slice (some ⟨w.heap.size, (i + 1) * 4, none⟩) (n - i) dc, .slice (some ⟨g, i * 4, none⟩) (n - i) sc]).run Try.prog (W0.setCells w.heap.size (i * 4) vs).drew = .ok (goInt ((n - i : Nat) : Int)) ((W0.setCells w.heap.size (i * 4) vs).drew.setCells w.heap.size ((i + 1) * 4) news) := fun ty dc sc => by
    have := run_copyC (P := Try.prog) (W0.setCells w.heap.size (i * 4) vs).drew 29 29 ty 73 4 w.heap.size ((i + 1) * 4) (n - i) dc ⟨g, i * 4, none⟩ (n - i) sc news hu hsz (by rw [hdl]; simp only [Nat.min_def]; split <;> omega)
      (fun j u hj => by
        have hlt : j < news.length := (List.getElem?_eq_some_iff.1 hj).1
        rw [Addr.add_lit]
        show (W0.setCells w.heap.size (i * 4) vs).cell? _ = _
        rw [World.cell?_of_block (w := W0) (a := ⟨g, i * 4 + j, none⟩) (heap_setCells_ne w.heap.size _ _ _ (by show g ≠ _; omega)), hgN.cell, ← hng j hlt]
        exact hj)
      (fun q hq => by rw [hR1.drew.cell, Array.getElem?_eq_getElem (by rw [hs1, hRl]; omega)]; rfl) (fun q hq => by obtain ⟨E, fr, _, hf⟩ := hR1.drew; exact hf _ (.inr (by decide))) h1n
    rw [this, show Nat.min (n - i) (n - i) = n - i by simp only [Nat.min_def]; split <;> omega]
  have FIN : Aside0 (InsR w ((W0.setCells w.heap.size (i * 4) vs).drew.setCells w.heap.size ((i + 1) * 4) news) 4 g i n C vs w.heap.size G C2) := ⟨by
    refine ⟨hR2, by omega, hGn, .inr (Nat.le_refl _), fun q hq => ?_, fun q hq => ?_, fun q h1 h2 => ?_, fun q hlt hq => ?_, ?_, ?_, ?_, ?_⟩
    · rw [ho2 q (.inl (by omega)), ho1 q (.inl hq), hR0g q hq]
    · rw [ho2 _ (.inl (by omega))]
      exact hi1 q (by omega) (by omega)
    · obtain ⟨d, rfl⟩ : ∃ d, q = i * 4 + d := ⟨q - i * 4, by omega⟩
      rw [show i * 4 + d + 4 = (i + 1) * 4 + d by omega, hi2 d (by omega) (by omega), hng d (by omega)]
    · rw [heap_setCells_ne _ _ _ _ (by omega)]
      show (W0.setCells _ _ _).heap[q]? = _
      rw [heap_setCells_ne _ _ _ _ (by omega)]
      exact hold0 q hlt
    · rw [heap_setCells_size]
      show _ ≤ (W0.setCells _ _ _).heap.size
      rw [heap_setCells_size, hW0]
      show _ ≤ (w.alloc _).heap.size
      simp [World.alloc_eq]
    · rw [World.os_setCells]
      show (W0.setCells _ _ _).os = _
      rw [World.os_setCells, hW0]; rfl
    · rw [tape_setCells]
      show (W0.setCells _ _ _).tape = _
      rw [tape_setCells, hW0]; rfl
    · rw [World.output_setCells]
      show (W0.setCells _ _ _).output = _
      rw [World.output_setCells, hW0]; rfl⟩
  have hz2 : ¬ ((i : Int) = (n : Int)) := by omega
  have hz3 : (c : Int) < (n : Int) + 1 := by omega
  have hw1 : IntKind.i64.wrap ((i : Int) + 1) = (i : Int) + 1 := by rw [IntKind.wrap_i64]; omega
  have hb1 : (0 : Int) ≤ (i : Int) + 1 := by omega
  have hin' : i ≤ n := by omega
  have htn : ((i : Int) + 1).toNat = i + 1 := by omega
  have hGi : ¬ (G = i) := by omega
  have hGim : ¬ (G = i + 1) := by omega
  have hci : ¬ (c = i) := by omega
  have hb3 : (i : Int) ≤ (n : Int) := by omega
  have hn63 : n ≤ 4611686018427387904 := by omega
  have HC1 := Aside0.mk hcp1
  have HC2 := Aside0.mk hcp2
  have HW := Aside0.mk hW0
  clear hcp1 hcp2 hR1 hR2 hs1 hs2 ho1 ho2 hi1 hi2 h1c h1v h1n hng hnews hdl hvs hR hV hC hcap hvl hR0g hN0 hold0 hgN hvN hRl hROW hG hold hog hol holds hkk hik hgw hvw hW0
  go_enter Try.func103, Try.ntmps103
  go_wp2_with (at_builtin; refine Lib.wpList_append_run _ rfl _ _ _ _ rfl _ _ rfl rfl _ _ (hrz _) ?_)
  rw [← HW.out, HC1.out]
  go_wp2
  go_region_law (refine step_copy_runI rfl _ _ 29 29 rfl _ _ (by simp [Act.eval, Act.put]) (by simp [Act.eval, Act.put]) (HC2.out _ (G - (i + 1)) (c - i)) ?_)
  go_wp2
  go_ret
  exact ⟨_, _, _, rfl, FIN.out⟩
end Go.Proofs.Ytfjoamlgbegpgaa.P
namespace Go.Proofs.Ytfjoamlgbegpgaa.P
open Go Go.Proofs.Ytfjoamlgbegpgaa.PM Go.Proofs
attribute [local simp] execK_seq execK_region execK_ret execK_skip execK_exit execK_block execK_cond condK_bool seqK_normal seqK_ret seqK_exit blockK_normal blockK_ret blockK_exit giveK_normal giveK_ret regionK clearK_none clearK_some normR_mk normR_def freshR fresh1 nextK_normal nextK_ret nextK_exit
  regionR runOps stepR wantR opR evalT lift lift1 Rd.run Rd.run_bind wrOk putT putAll putIn lookIn guardR Rd.ofOption obj buildSliceR mapR close close1 view1 plainB T.width T.cells room appendR strR newsR elemsR setAll most Ob.kill Ob.gone pure findK FCert.predsOf logsR Log.bare meets
  loadR storeR takeCells closeIf cellT splice T.withCells buildR fillR chk undT giveR resR outAll outOne outCell outCells outMany reachN refs refs1 posIn srcN validB mapV mapA mapC mapOb pickTmps lenR sliceR bound hiB loB makeSliceR copyR
  ev_add ev_sub ev_mul ev_quo ev_rem ev_sadd ev_eql ev_neq ev_lss ev_leq ev_gtr ev_geq ev_seql ev_sneq ev_slss ev_sleq ev_sgtr ev_sgeq ev_not ev_neg ev_unxor ev_conv scOf bsize_mk bytesOf bytesOf_map bytesOf_append eqSc eqFs strOf ev_min ev_and ev_or ev_xor ev_andNot ev_shl ev_shr indexAddrR intOf callR passAll passT pass1 reach passOb backN backS noSrc flatL verOf at_map byteAt_eq wid_append wid_nil wid_cons List.take_of_length_le wStr w_i64 w_u8 eStr eBool e_i64 e_u8 List.range_succ bytesL
  sz2 ag2 by2 ze2 sz3 ag3 by3 ze3 sz4 ag4 by4 ze4 sz5 ag5 by5 ze5 sz9 ag9 by9 ze9 sz22 ag22 by22 ze22 el22 sz23 ag23 by23 ze23 el23 sz25 ag25 by25 ze25 fs25 sz28 ag28 by28 ze28 el28 sz29 ag29 by29 ze29 el29 sz31 ag31 by31 ze31 fs31 sz38 ag38 by38 ze38 el38 sz40 ag40 by40 ze40 el40 sz51 ag51 by51 ze51 sz58 ag58 by58 ze58 el58 sz60 ag60 by60 ze60 fs60 sz73 ag73 by73 ze73 fs73 sz80 ag80 by80 ze80 fs80 sz81 ag81 by81 sz89 ag89 by89 ze89 el89 sz104 ag104 by104 ze104 fs104 sz106 ag106 by106 ze106 fs106 sz108 ag108 by108 ze108 fs108 sz120 ag120 by120 ze120 fs120 sz128 ag128 by128 ze128 el128 sz136 ag136 by136 ze136 fs136 sz141 ag141 by141 ze141 fs141 sz143 ag143 by143 ze143 sz145 ag145 by145 ze145 ck2 ck3 ck4 ck9 ck28 ck29 ck31 ck38 ck40 ck58 ck60 ck73 ck80 ck81 ck104 ck128 ck136 ck143 ck145 eq80 ft25_0 ft25_1 ft25_2 ft31_0 ft31_1 ft31_2 ft60_0 ft60_1 ft60_2 ft73_0 ft73_1 ft73_2 ft73_3 ft80_0 ft80_1 ft104_0 ft104_1 ft106_0 ft106_1 ft108_0 ft108_1 ft108_2 ft108_3 ft120_0 ft120_1 ft136_0 ft136_1 ft136_2 Try.underlying2 Try.underlying3 Try.underlying4 Try.underlying5 Try.underlying9 Try.underlying22 Try.underlying23 Try.underlying28 Try.underlying29 Try.underlying38 Try.underlying40 Try.underlying51 Try.underlying58 Try.underlying128 Try.underlying143 Try.underlying145 w73 w80 w104 w106 w108 w136 e73 e80 e104 e106 e108 e136
attribute [local simp] get_Int get_Str get_Bool get_byte g73 g80 g104 g106 g108 g136
set_option maxRecDepth 100000
set_option maxHeartbeats 4000000
def cend121 : FCert := ⟨[true, false, true], true, [], [(11, [[], [], [], [], [], [], [], [], [4, 7]]), (15, [[], [], [], [], [], [], [], [], [4, 7]])]⟩
theorem okend121 : okCode cend121 Try.f121.body.get! = true := by kernel_rfl
theorem end121 (xs : List T) (y : T) (hw : wid 2 xs = true) (hy : y.width = 2) (h1 : (xs.length + 1) * 32 ≤ most) (h2 : xs.length + 1 ≤ most) : callT Try.prog (fun _ => cend121) (fun _ => none) 121 [.win 0 0 xs.length, .sc (.int .i64 xs.length), .win 1 0 1] [Ob.mkRow 2 xs, Ob.mkRow 2 [y]] = some (.win 2 0 (xs.length + 1), [⟨true, false, true, true, 0, 2, xs⟩, Ob.mkRow 2 [y], Ob.mkRow 2 (xs ++ [y])]) := by
 unfold most at h1 h2
 rw [callK_eq rfl Try.func121 rfl okend121]
 cases y with
 | agg cs =>
  have hy' : cs.length = 2 := hy
  simp [cend121, Try.f121, hw, hy', h1, h2]
 | _ => exact absurd hy (by simp [T.width, T.cells])
def cend103 : FCert := ⟨[true, false, true], true, [], [(11, [[], [], [], [], [], [], [], [], [4, 7]]), (15, [[], [], [], [], [], [], [], [], [4, 7]])]⟩
theorem okend103 : okCode cend103 Try.f103.body.get! = true := by kernel_rfl
theorem end103 (xs : List T) (y : T) (hw : wid 4 xs = true) (hy : y.width = 4) (h1 : (xs.length + 1) * 56 ≤ most) (h2 : xs.length + 1 ≤ most) : callT Try.prog (fun _ => cend103) (fun _ => none) 103 [.win 0 0 xs.length, .sc (.int .i64 xs.length), .win 1 0 1] [Ob.mkRow 4 xs, Ob.mkRow 4 [y]] = some (.win 2 0 (xs.length + 1), [⟨true, false, true, true, 0, 4, xs⟩, Ob.mkRow 4 [y], Ob.mkRow 4 (xs ++ [y])]) := by
 unfold most at h1 h2
 rw [callK_eq rfl Try.func103 rfl okend103]
 cases y with
 | agg cs =>
  have hy' : cs.length = 4 := hy
  simp [cend103, Try.f103, hw, hy', h1, h2]
 | _ => exact absurd hy (by simp [T.width, T.cells])
theorem fnOk_of {P : Program} {f : FuncId} {fn : Func} (h : P.funcs[f]? = some fn) (h1 : (fn.name == "runtime.NumGoroutine") = false) (h2 : fn.body.isNone = false) : FnOk P f := ⟨fn, h, h1, h2⟩
theorem prims_ok : PrimOk Try.prog P0 := by
 intro f D hD args objs r objs' h
 unfold P0 at hD
 split at hD
 · rename_i hf
   subst hf
   obtain rfl := Option.some.inj hD
   exact cmp_ok (fnOk_of Try.func132 rfl rfl) cmpW h
 split at hD
 · rename_i hf
   subst hf
   obtain rfl := Option.some.inj hD
   exact ins_ok (by decide) (fnOk_of Try.func121 rfl rfl) (fun xs y hw hy h1 h2 => let ⟨m, hm⟩ := callT_some.1 (end121 xs y hw hy h1 h2); (callF_ok (by kernel_rfl) (by kernel_rfl) prim_none m _ _ _ _ _ hm).2) (fun g c i n C vs vb vc V w a1 a2 a3 a4 a5 a6 a7 a8 a9 a10 a11 => by
   unfold most at a5
   by_cases hr : n + 1 ≤ c
   · exact insRoom_File g c i n C vs vb vc V w a1 a2 a3 hr (by omega) a6 a7 a8 a9 a10 a11
   · exact insGrow_File g c i n C vs vb vc V w a1 a2 a3 a4 (by omega) (by omega) a6 a7 a8 a9 a10) h
 split at hD
 · rename_i hf
   subst hf
   obtain rfl := Option.some.inj hD
   exact del_ok (by decide) (fnOk_of Try.func100 rfl rfl) (fun g c i n C w h1 h2 h3 h4 h5 => delW_File g c i n C w h1 h2 h3 h4 h5) h
 split at hD
 · rename_i hf
   subst hf
   obtain rfl := Option.some.inj hD
   exact ins_ok (by decide) (fnOk_of Try.func103 rfl rfl) (fun xs y hw hy h1 h2 => let ⟨m, hm⟩ := callT_some.1 (end103 xs y hw hy h1 h2); (callF_ok (by kernel_rfl) (by kernel_rfl) prim_none m _ _ _ _ _ hm).2) (fun g c i n C vs vb vc V w a1 a2 a3 a4 a5 a6 a7 a8 a9 a10 a11 => by
   unfold most at a5
   by_cases hr : n + 1 ≤ c
   · exact insRoom_DOp g c i n C vs vb vc V w a1 a2 a3 hr (by omega) a6 a7 a8 a9 a10 a11
   · exact insGrow_DOp g c i n C vs vb vc V w a1 a2 a3 a4 (by omega) (by omega) a6 a7 a8 a9 a10) h
 cases hD
end Go.Proofs.Ytfjoamlgbegpgaa.P
