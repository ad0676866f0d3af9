/- Part of the proof of FnExactCompact: no statement of its own. -/
import Derived.Handy
import Derived.KernelRfl
import Derived.Lib.SplitLaws
import Derived.Test.YtbfgmnjhikaagaaGreatDoorProg
import Derived.Test.YtbfgmnjhikaagaaGreatDoorCFnExactCompact2
set_option linter.unusedVariables false
set_option linter.unusedSimpArgs false
namespace Go.Proofs.YtbfgmnjhikaagaaGreatDoor.P
open Go Go.Proofs.YtbfgmnjhikaagaaGreatDoor.PM Go.Proofs.YtbfgmnjhikaagaaGreatDoor.PN Go.Proofs
set_option maxRecDepth 100000
set_option linter.unusedVariables false
structure S40 where
  f0 : Int
  f1 : Int
  f2 : ByteArray
instance : Inhabited S40 := ⟨⟨default, default, default⟩⟩
def e40 (x : S40) : T := .agg [T.sc (.int .i64 x.f0), T.sc (.int .i64 x.f1), T.sc (.string x.f2)]
structure S85 where
  f0 : Int
  f1 : Int
  f2 : ByteArray
instance : Inhabited S85 := ⟨⟨default, default, default⟩⟩
def e85 (x : S85) : T := .agg [T.sc (.int .i64 x.f0), T.sc (.int .i64 x.f1), T.sc (.string x.f2)]
structure S90 where
  f0 : Int
  f1 : Int
  f2 : Int
instance : Inhabited S90 := ⟨⟨default, default, default⟩⟩
def e90 (x : S90) : T := .agg [T.sc (.int .i64 x.f0), T.sc (.int .i64 x.f1), T.sc (.int .i64 x.f2)]
structure S92 where
  f0 : Int
  f1 : Int
  f2 : Int
instance : Inhabited S92 := ⟨⟨default, default, default⟩⟩
def e92 (x : S92) : T := .agg [T.sc (.int .i64 x.f0), T.sc (.int .i64 x.f1), T.sc (.int .i64 x.f2)]
def El : Nat → Type
  | 0 => Int
  | 1 => S85
  | 2 => S92
  | 3 => S40
  | 4 => S90
  | 5 => ByteArray
  | 6 => Int
  | _ + 7 => Unit
def tis : List (Nat × TI El) := [
  (2, ⟨1, false, 8, .int .i64, some (.il .i64 0), some [none], none⟩),
  (3, ⟨1, false, 8, .int .i64, some (.il .i64 0), some [none], none⟩),
  (4, ⟨1, false, 1, .bool, some (.bl false), some [none], none⟩),
  (5, ⟨1, false, 1, .int .u8, some (.il .u8 0), some [none], none⟩),
  (9, ⟨1, false, 16, .string, some (.s (⟨#[]⟩ : ByteArray)), some [none], none⟩),
  (22, ⟨1, false, 24, .slice 2 0, some (.nil), some [some 0], none⟩),
  (24, ⟨2, true, 48, .struct [(0, 22), (1, 22)], some (.agg [.nil, .nil]), some [some 0, some 0], none⟩),
  (25, ⟨1, false, 24, .slice 85 1, some (.nil), some [some 1], none⟩),
  (26, ⟨1, false, 24, .slice 92 2, some (.nil), some [some 2], none⟩),
  (28, ⟨14, true, 200, .struct [(0, 2), (1, 2), (2, 2), (3, 2), (4, 2), (5, 24), (7, 9), (8, 25), (9, 2), (10, 2), (11, 2), (12, 22), (13, 26)], some (.agg [.il .i64 0, .il .i64 0, .il .i64 0, .il .i64 0, .il .i64 0, .nil, .nil, .s (⟨#[]⟩ : ByteArray), .nil, .il .i64 0, .il .i64 0, .il .i64 0, .nil, .nil]), some [none, none, none, none, none, some 0, some 0, none, some 1, none, none, none, some 0, some 2], none⟩),
  (31, ⟨2, true, 48, .struct [(0, 22), (1, 22)], some (.agg [.nil, .nil]), some [some 0, some 0], none⟩),
  (32, ⟨1, false, 24, .slice 40 3, some (.nil), some [some 3], none⟩),
  (33, ⟨1, false, 24, .slice 90 4, some (.nil), some [some 4], none⟩),
  (35, ⟨14, true, 200, .struct [(0, 2), (1, 2), (2, 2), (3, 2), (4, 2), (5, 31), (7, 9), (8, 32), (9, 2), (10, 2), (11, 2), (12, 22), (13, 33)], some (.agg [.il .i64 0, .il .i64 0, .il .i64 0, .il .i64 0, .il .i64 0, .nil, .nil, .s (⟨#[]⟩ : ByteArray), .nil, .il .i64 0, .il .i64 0, .il .i64 0, .nil, .nil]), some [none, none, none, none, none, some 0, some 0, none, some 3, none, none, none, some 0, some 4], none⟩),
  (40, ⟨3, true, 32, .struct [(0, 2), (1, 2), (2, 9)], some (.agg [.il .i64 0, .il .i64 0, .s (⟨#[]⟩ : ByteArray)]), some [none, none, none], none⟩),
  (85, ⟨3, true, 32, .struct [(0, 2), (1, 2), (2, 9)], some (.agg [.il .i64 0, .il .i64 0, .s (⟨#[]⟩ : ByteArray)]), some [none, none, none], none⟩),
  (90, ⟨3, true, 24, .struct [(0, 2), (1, 2), (2, 2)], some (.agg [.il .i64 0, .il .i64 0, .il .i64 0]), some [none, none, none], none⟩),
  (92, ⟨3, true, 24, .struct [(0, 2), (1, 2), (2, 2)], some (.agg [.il .i64 0, .il .i64 0, .il .i64 0]), some [none, none, none], none⟩),
  (96, ⟨1, false, 24, .slice 5 6, some (.nil), some [some 6], none⟩),
  (97, ⟨1, false, 24, .slice 9 5, some (.nil), some [some 5], none⟩),
  (108, ⟨1, false, 16, .iface, some (.ifl false), some [none], none⟩),
  (125, ⟨1, false, 8, .int .u64, some (.il .u64 0), some [none], none⟩),
  (153, ⟨24, true, 24, .array 24 5, some (.agg [.il .u8 0, .il .u8 0, .il .u8 0, .il .u8 0, .il .u8 0, .il .u8 0, .il .u8 0, .il .u8 0, .il .u8 0, .il .u8 0, .il .u8 0, .il .u8 0, .il .u8 0, .il .u8 0, .il .u8 0, .il .u8 0, .il .u8 0, .il .u8 0, .il .u8 0, .il .u8 0, .il .u8 0, .il .u8 0, .il .u8 0, .il .u8 0]), some [none, none, none, none, none, none, none, none, none, none, none, none, none, none, none, none, none, none, none, none, none, none, none, none], none⟩)]
def G : Sg where
  El := El
  w := fun t => match t with | 0 => (1) | 1 => (3) | 2 => (3) | 3 => (3) | 4 => (3) | 5 => (1) | 6 => (1) | _ + 7 => 0
  aggE := fun t => match t with | 0 => (false) | 1 => (true) | 2 => (true) | 3 => (true) | 4 => (true) | 5 => (false) | 6 => (false) | _ + 7 => true
  flat := fun t => match t with | 0 => (true) | 1 => (true) | 2 => (true) | 3 => (true) | 4 => (true) | 5 => (true) | 6 => (true) | _ + 7 => true
  inh := fun t => match t with | 0 => ((default : Int)) | 1 => ((default : S85)) | 2 => ((default : S92)) | 3 => ((default : S40)) | 4 => ((default : S90)) | 5 => ((default : ByteArray)) | 6 => ((default : Int)) | _ + 7 => ()
  cells := fun t => match t with | 0 => (fun (x : Int) => [.id .i64 0 x]) | 1 => (fun (x : S85) => [.id .i64 0 x.f0, .id .i64 0 x.f1, .s x.f2]) | 2 => (fun (x : S92) => [.id .i64 0 x.f0, .id .i64 0 x.f1, .id .i64 0 x.f2]) | 3 => (fun (x : S40) => [.id .i64 0 x.f0, .id .i64 0 x.f1, .s x.f2]) | 4 => (fun (x : S90) => [.id .i64 0 x.f0, .id .i64 0 x.f1, .id .i64 0 x.f2]) | 5 => (fun (x : ByteArray) => [.s x]) | 6 => (fun (x : Int) => [.id .u8 0 x]) | _ + 7 => fun _ => []
  mkE := fun t => match t with | 0 => (fun cs => match cs with | [c0] => cI .i64 c0 fun a0 => some (a0 : Int) | _ => none) | 1 => (fun cs => match cs with | [c0, c1, c2] => cI .i64 c0 fun a0 => cI .i64 c1 fun a1 => cS c2 fun a2 => some (⟨a0, a1, a2⟩ : S85) | _ => none) | 2 => (fun cs => match cs with | [c0, c1, c2] => cI .i64 c0 fun a0 => cI .i64 c1 fun a1 => cI .i64 c2 fun a2 => some (⟨a0, a1, a2⟩ : S92) | _ => none) | 3 => (fun cs => match cs with | [c0, c1, c2] => cI .i64 c0 fun a0 => cI .i64 c1 fun a1 => cS c2 fun a2 => some (⟨a0, a1, a2⟩ : S40) | _ => none) | 4 => (fun cs => match cs with | [c0, c1, c2] => cI .i64 c0 fun a0 => cI .i64 c1 fun a1 => cI .i64 c2 fun a2 => some (⟨a0, a1, a2⟩ : S90) | _ => none) | 5 => (fun cs => match cs with | [c0] => cS c0 fun a0 => some (a0 : ByteArray) | _ => none) | 6 => (fun cs => match cs with | [c0] => cI .u8 c0 fun a0 => some (a0 : Int) | _ => none) | _ + 7 => fun _ => none
  ofStr := fun t => match t with | 0 => (fun _ => none) | 1 => (fun _ => none) | 2 => (fun _ => none) | 3 => (fun _ => none) | 4 => (fun _ => none) | 5 => (fun _ => none) | 6 => (fun s => some (bytesL s)) | _ + 7 => fun _ => none
  toStr := fun t => match t with | 0 => (fun _ => none) | 1 => (fun _ => none) | 2 => (fun _ => none) | 3 => (fun _ => none) | 4 => (fun _ => none) | 5 => (fun _ => none) | 6 => (fun xs => some (strOf xs)) | _ + 7 => fun _ => none
  ti := findK tis
  enc := fun t => match t with | 0 => (fun (x : Int) => T.sc (.int .i64 x)) | 1 => (e85) | 2 => (e92) | 3 => (e40) | 4 => (e90) | 5 => (fun (x : ByteArray) => T.sc (.string x)) | 6 => (fun (x : Int) => T.sc (.int .u8 x)) | _ + 7 => fun _ => T.agg []
def c3 : FCert := ⟨[], true, [], [(10, [[], [], [1], [0, 1, 2], []])]⟩
def c4 : FCert := ⟨[], true, [], [(10, [[], [], [1], [0, 1, 2], []])]⟩
def c5 : FCert := ⟨[], true, [], [(10, [[], [], [1], [0, 1, 2], []])]⟩
def c6 : FCert := ⟨[], true, [], [(10, [[], [], [1], [0, 1, 2], []])]⟩
def c7 : FCert := ⟨[], true, [], [(10, [[], [], [1], [0, 1, 2], []])]⟩
def c8 : FCert := ⟨[], true, [], [(10, [[], [], [1], [0, 1, 2], []])]⟩
def c9 : FCert := ⟨[], true, [], [(12, [[], [], [1], [0, 1, 2], []])]⟩
def c10 : FCert := ⟨[], true, [], []⟩
def c11 : FCert := ⟨[], true, [(7, [(1, 0), (3, 0), (4, 0)])], [(3, [[], [], [1], [], [], [], [1, 2], [1, 2, 6], [], [], [], [], [1, 2, 6, 7], [1, 2, 6, 7, 12], [], [], [], [], [1, 2, 6, 7, 12, 13], [], [1, 2, 6, 7, 12, 13], [1, 2, 6, 7, 12, 13], [1, 2, 6, 7, 12, 13, 21], [1, 2, 6, 7, 12, 13, 18, 20, 21, 22], [], []]), (9, [[], [], [], [1], [1, 3], [1, 3, 4], [], [], [], [1, 3, 4, 5], [], [1, 3, 4, 5, 9], [], [1, 3, 4, 5, 9, 11], [], [], [1, 3, 4, 5], [1, 3, 4, 5, 9, 11, 13, 16], [], []])]⟩
def c12 : FCert := ⟨[], true, [], []⟩
def c13 : FCert := ⟨[], true, [], []⟩
def c14 : FCert := ⟨[], true, [], []⟩
def c15 : FCert := ⟨[], true, [], [(1, [[], [0], [], [], [], [], [0, 1], [], [0, 1], [0, 1, 8], [0, 1, 6, 8, 9], [], []])]⟩
def c16 : FCert := ⟨[], true, [], []⟩
def c17 : FCert := ⟨[], true, [], []⟩
def c18 : FCert := ⟨[], true, [], [(3, [[], [0], [], [], [0, 1, 3], [0, 1, 2, 3, 4], [], []])]⟩
def c19 : FCert := ⟨[], true, [], [(3, [[], [0], [], [], [0, 1, 3], [0, 1, 2, 3, 4], [], []])]⟩
def c20 : FCert := ⟨[], true, [], []⟩
def c21 : FCert := ⟨[], true, [], []⟩
def c22 : FCert := ⟨[], true, [], []⟩
def c23 : FCert := ⟨[], true, [], []⟩
def c24 : FCert := ⟨[], true, [], []⟩
def c25 : FCert := ⟨[true], true, [], []⟩
def c26 : FCert := ⟨[true], true, [], []⟩
def c27 : FCert := ⟨[], true, [], []⟩
def c28 : FCert := ⟨[], true, [], []⟩
def c29 : FCert := ⟨[], true, [], []⟩
def c30 : FCert := ⟨[], true, [(4, [(0, 0), (1, 0), (5, 0)])], [(6, [[], [], [], [2], [], [], [], [6], [2, 3, 6, 7], []])]⟩
def c31 : FCert := ⟨[true], true, [(2, [(0, 0), (1, 0), (5, 0)])], []⟩
def c32 : FCert := ⟨[], true, [(2, [(0, 0), (1, 0), (5, 0)])], [(10, [[], [], [], [], [2], [], [], []])]⟩
def c33 : FCert := ⟨[], true, [], []⟩
def c34 : FCert := ⟨[], true, [], []⟩
def c35 : FCert := ⟨[], true, [], []⟩
def c36 : FCert := ⟨[], true, [(10, [(1, 0), (2, 0), (3, 0), (6, 0), (8, 0), (9, 0), (10, 0)])], []⟩
def c37 : FCert := ⟨[], true, [], []⟩
def c38 : FCert := ⟨[], true, [(5, [(0, 0), (1, 0), (5, 0)])], []⟩
def c39 : FCert := ⟨[], true, [], []⟩
def c40 : FCert := ⟨[], true, [], []⟩
def c41 : FCert := ⟨[], true, [], []⟩
def c42 : FCert := ⟨[], true, [(4, [(1, 0), (3, 0)])], [(6, [[], [], [], [], [], [3], [3, 5], [1, 3, 5, 6]])]⟩
def c43 : FCert := ⟨[], true, [], []⟩
def c44 : FCert := ⟨[], true, [], []⟩
def c45 : FCert := ⟨[], true, [], []⟩
def c46 : FCert := ⟨[], true, [(3, [(0, 0), (3, 0), (4, 0)])], []⟩
def c47 : FCert := ⟨[], true, [(3, [(0, 0), (3, 0), (4, 0)])], []⟩
def c48 : FCert := ⟨[], true, [(3, [(0, 0), (3, 0), (4, 0)])], []⟩
def c49 : FCert := ⟨[], true, [(5, [(1, 0), (3, 0), (71, 0), (72, 0), (73, 0)]), (14, [(1, 0), (123, 0), (124, 0), (125, 0)])], [(11, [[], [], [], [], [], [4], [1, 3, 4, 5], [], [], [], [1, 3, 4, 5, 6], [], [], [], [1, 3, 4, 5, 6, 10], [1, 3, 4, 5, 6, 10, 14], [], [], [], [], [], [1, 3, 4, 5, 6, 10, 14, 15], [], [], [], [1, 3, 4, 5, 6, 10, 14, 15, 21], [1, 3, 4, 5, 6, 10, 14, 15, 21, 25], [], [], []])]⟩
def c50 : FCert := ⟨[], true, [(4, [(0, 0), (1, 0), (5, 0)])], [(6, [[], [], [], [2], [], [], [], [6], []])]⟩
def c51 : FCert := ⟨[], true, [(4, [(0, 0), (1, 0), (5, 0)])], [(6, [[], [], [], [2], [], [], [], [6], [2, 3, 6, 7], []])]⟩
def c52 : FCert := ⟨[], true, [], []⟩
def c53 : FCert := ⟨[], true, [], []⟩
def c54 : FCert := ⟨[], true, [], []⟩
def c55 : FCert := ⟨[], true, [], [(1, [[], [], [], [0, 2], [], [], [], [0, 2, 3, 4, 6], [], [0, 2, 3, 4, 6, 7]])]⟩
def c56 : FCert := ⟨[], true, [], [(1, [[], [], [], [0, 2], [], [], [], [0, 2, 3, 4, 6], [], [0, 2, 3, 4, 6, 7]])]⟩
def c57 : FCert := ⟨[true], true, [(2, [(0, 0), (1, 0), (5, 0)])], []⟩
def c58 : FCert := ⟨[true], true, [(2, [(0, 0), (1, 0), (5, 0)])], []⟩
def c59 : FCert := ⟨[], true, [(2, [(0, 0), (1, 0), (5, 0)])], []⟩
def c60 : FCert := ⟨[], true, [(2, [(0, 0), (1, 0), (5, 0)])], []⟩
def c61 : FCert := ⟨[], true, [(4, [(0, 0), (3, 0)])], []⟩
def c62 : FCert := ⟨[], true, [(2, [(1, 0), (2, 0), (3, 0)])], []⟩
def c63 : FCert := ⟨[], false, [(2, [(1, 0), (2, 0), (3, 0)])], []⟩
def c64 : FCert := ⟨[], true, [], []⟩
def c65 : FCert := ⟨[], true, [(7, [(0, 0), (2, 0), (4, 0), (5, 0), (6, 0), (7, 0)])], []⟩
def c66 : FCert := ⟨[], true, [], []⟩
def c67 : FCert := ⟨[], true, [], []⟩
def c68 : FCert := ⟨[], true, [(4, [(0, 0), (5, 0)])], [(6, [[], [], [], [2], [2, 3], [], [], [], [], [], [], [], [2, 3, 4], [2, 3, 4, 12], [], [], [], [2, 3, 4], [2, 3, 4, 17], [], [], []])]⟩
def c69 : FCert := ⟨[], true, [(2, [(0, 0), (1, 0), (5, 0)])], []⟩
def c70 : FCert := ⟨[], true, [], []⟩
def c71 : FCert := ⟨[], true, [(5, [(1, 0), (3, 0), (4, 0)])], [(1, [[], [0], [], [], [0, 1, 3], []]), (8, [[], [], [], [], [], [4], [], [], [], [1, 4, 5], [1, 4, 5], [1, 4, 5, 10], [], [1, 4, 5, 9, 10, 11], [], [], [], [], [1, 4, 5, 9, 10, 11, 13], [], [1, 4, 5, 9, 10, 11, 13], [], [1, 4, 5, 9, 10, 11, 13, 18, 20], [], []])]⟩
def c72 : FCert := ⟨[], true, [], []⟩
def c73 : FCert := ⟨[], true, [], []⟩
def c74 : FCert := ⟨[], true, [], []⟩
def c75 : FCert := ⟨[], true, [], []⟩
def c76 : FCert := ⟨[], true, [], []⟩
def c77 : FCert := ⟨[], true, [], []⟩
def c78 : FCert := ⟨[], true, [], []⟩
def c79 : FCert := ⟨[], true, [(5, [(1, 0), (3, 0), (15, 0), (16, 0), (17, 0)])], [(7, [[], [], [], [], [], [], [4], [], [], [], [1, 4, 6], [1, 4, 6], [1, 4, 6, 11], [], [1, 4, 6, 10, 11, 12], [], [], [], [], [1, 4, 6, 10, 11, 12, 14], [], [1, 4, 6, 10, 11, 12, 14], [], [1, 4, 6, 10, 11, 12, 14, 19, 21], [], []])]⟩
def c80 : FCert := ⟨[], true, [], []⟩
def c81 : FCert := ⟨[], true, [(4, [(0, 0), (2, 0), (4, 0), (5, 0), (13, 0), (14, 0), (15, 0)])], []⟩
def c82 : FCert := ⟨[], true, [(4, [(0, 0), (1, 0), (5, 0), (6, 0), (7, 0)])], []⟩
def c83 : FCert := ⟨[], true, [(5, [(0, 0), (1, 0), (5, 0), (6, 0)])], []⟩
def c84 : FCert := ⟨[], true, [(5, [(1, 0), (3, 0), (4, 0)]), (11, [(1, 0), (3, 0), (5, 0)])], []⟩
def c85 : FCert := ⟨[], true, [(3, [(1, 0), (2, 0), (5, 0), (6, 0)])], []⟩
def c86 : FCert := ⟨[], true, [(2, [(0, 0), (5, 0), (6, 0), (7, 0)])], []⟩
def c87 : FCert := ⟨[], true, [], []⟩
def c88 : FCert := ⟨[], true, [], []⟩
def c89 : FCert := ⟨[], true, [], []⟩
def c90 : FCert := ⟨[], true, [], []⟩
def c91 : FCert := ⟨[], true, [(6, [(1, 0), (2, 0), (7, 0), (22, 0), (23, 0), (24, 0)])], [(2, [[], [], [], [0, 2], [], [], [0, 2, 3, 5], []])]⟩
def c92 : FCert := ⟨[], true, [], []⟩
def c93 : FCert := ⟨[], true, [], []⟩
def c94 : FCert := ⟨[], true, [(3, [(1, 0), (3, 0), (9, 0), (10, 0), (11, 0)]), (10, [(3, 0), (28, 0), (29, 0), (30, 0)])], []⟩
def c95 : FCert := ⟨[], true, [], []⟩
def c96 : FCert := ⟨[], true, [(4, [(0, 0), (3, 0)])], []⟩
def c97 : FCert := ⟨[], true, [(2, [(0, 0), (1, 0), (7, 0), (8, 0)])], []⟩
def c98 : FCert := ⟨[], true, [(2, [(0, 0), (1, 0), (7, 0), (8, 0)])], []⟩
def c99 : FCert := ⟨[true], true, [], []⟩
def c103 : FCert := ⟨[], true, [], []⟩
def c114 : FCert := ⟨[], true, [], []⟩
def c135 : FCert := ⟨[], true, [], []⟩
def C0 : Cert := fun f => if f = 3 then c3 else if f = 4 then c4 else if f = 5 then c5 else if f = 6 then c6 else if f = 7 then c7 else if f = 8 then c8 else if f = 9 then c9 else if f = 10 then c10 else if f = 11 then c11 else if f = 12 then c12 else if f = 13 then c13 else if f = 14 then c14 else if f = 15 then c15 else if f = 16 then c16 else if f = 17 then c17 else if f = 18 then c18 else if f = 19 then c19 else if f = 20 then c20 else if f = 21 then c21 else if f = 22 then c22 else if f = 23 then c23 else if f = 24 then c24 else if f = 25 then c25 else if f = 26 then c26 else if f = 27 then c27 else if f = 28 then c28 else if f = 29 then c29 else if f = 30 then c30 else if f = 31 then c31 else if f = 32 then c32 else if f = 33 then c33 else if f = 34 then c34 else if f = 35 then c35 else if f = 36 then c36 else if f = 37 then c37 else if f = 38 then c38 else if f = 39 then c39 else if f = 40 then c40 else if f = 41 then c41 else if f = 42 then c42 else if f = 43 then c43 else if f = 44 then c44 else if f = 45 then c45 else if f = 46 then c46 else if f = 47 then c47 else if f = 48 then c48 else if f = 49 then c49 else if f = 50 then c50 else if f = 51 then c51 else if f = 52 then c52 else if f = 53 then c53 else if f = 54 then c54 else if f = 55 then c55 else if f = 56 then c56 else if f = 57 then c57 else if f = 58 then c58 else if f = 59 then c59 else if f = 60 then c60 else if f = 61 then c61 else if f = 62 then c62 else if f = 63 then c63 else if f = 64 then c64 else if f = 65 then c65 else if f = 66 then c66 else if f = 67 then c67 else if f = 68 then c68 else if f = 69 then c69 else if f = 70 then c70 else if f = 71 then c71 else if f = 72 then c72 else if f = 73 then c73 else if f = 74 then c74 else if f = 75 then c75 else if f = 76 then c76 else if f = 77 then c77 else if f = 78 then c78 else if f = 79 then c79 else if f = 80 then c80 else if f = 81 then c81 else if f = 82 then c82 else if f = 83 then c83 else if f = 84 then c84 else if f = 85 then c85 else if f = 86 then c86 else if f = 87 then c87 else if f = 88 then c88 else if f = 89 then c89 else if f = 90 then c90 else if f = 91 then c91 else if f = 92 then c92 else if f = 93 then c93 else if f = 94 then c94 else if f = 95 then c95 else if f = 96 then c96 else if f = 97 then c97 else if f = 98 then c98 else if f = 99 then c99 else if f = 103 then c103 else if f = 114 then c114 else if f = 135 then c135 else ⟨[], false, [], []⟩
def P0 : FuncId → Option (List T → List Ob → Option (T × List Ob)) := fun f => if f = 92 then some (splD) else if f = 93 then some (pintD) else if f = 99 then some (srtD) else none
def f39.start (k : Nat) (a : List Int) (b : Int) : PT (Int) Empty := .ite ((IntKind.i64.wrap (b - (a.length : Int))) < 0) (fun h1 => .ret (-1)) (fun h1 => .ret (IntKind.i64.wrap (b - (a.length : Int))))
def f39 (k : Nat) (a : List Int) (b : Int) : Option (Int) := (f39.start k a b).run Empty.elim
def f39.o : (Int) → V El × List (O El) := fun r => (.id .i64 0 r, [])
abbrev sf39 (k : Nat) : List (V G.El) → List (O G.El) → Q G.El (V G.El × List (O G.El)) := fun as' os' => lT os' <| na as' (argL 0) fun a as' => na as' (argI .i64) fun b as' => lT as' <| .call _ (f39 k a b) fun r => .ret (f39.o r)
def f20.start (k : Nat) (a b : List Int) (c : Int) : PT (Int) Empty := .call _ (f39 k a c) fun t1 => .ite (t1 < 0) (fun h1 => .ret (-1)) (fun h1 => .call _ (f39 k b t1) fun t2 => .ite (t2 < 0) (fun h2 => .ret (-1)) (fun h2 => .ret t2))
def f20 (k : Nat) (a b : List Int) (c : Int) : Option (Int) := (f20.start k a b c).run Empty.elim
def f20.o : (Int) → V El × List (O El) := fun r => (.id .i64 0 r, [])
abbrev sf20 (k : Nat) : List (V G.El) → List (O G.El) → Q G.El (V G.El × List (O G.El)) := fun as' os' => lT os' <| na as' argA fun b' as' => nc b' (argL 0) fun a b' => nc b' (argL 0) fun b b' => argT b' <| na as' (argI .i64) fun c as' => lT as' <| .call _ (f20 k a b c) fun r => .ret (f20.o r)
def f67.start (k : Nat) (a b : Int) (c : ByteArray) (d : Int) : PT (Int) Empty := .ite ((IntKind.i64.wrap (d - (c.size : Int))) < 0) (fun h1 => .ret (-1)) (fun h1 => .ret (IntKind.i64.wrap (d - (c.size : Int))))
def f67 (k : Nat) (a b : Int) (c : ByteArray) (d : Int) : Option (Int) := (f67.start k a b c d).run Empty.elim
def f67.o : (Int) → V El × List (O El) := fun r => (.id .i64 0 r, [])
abbrev sf67 (k : Nat) : List (V G.El) → List (O G.El) → Q G.El (V G.El × List (O G.El)) := fun as' os' => lT os' <| na as' argA fun b' as' => nc b' (argI .i64) fun a b' => nc b' (argI .i64) fun b b' => nc b' argS fun c b' => argT b' <| na as' (argI .i64) fun d as' => lT as' <| .call _ (f67 k a b c d) fun r => .ret (f67.o r)
inductive f38.L where
  | l5 (x0 : List S85) (x1 : Int) (x5 : Int)
def f38.st : f38.L → Nat × S El
  | .l5 x0 x1 x5 => (5, ⟨27, .dead, [(0, .sl 1 x0 []), (1, .id .i64 2 x1), (5, .id .i64 6 x5)], [], 0, 0⟩)
def f38.blk (k : Nat) : f38.L → PT (Int) f38.L
  | .l5 x0 x1 x5 => .ite (x5 < (x0.length : Int)) (fun h2 => .need (0 ≤ x5) fun h3 => .th h2 <| .call _ (f67 k ((at' x0 x5).f0) ((at' x0 x5).f1) ((at' x0 x5).f2) x1) fun t1 => .ite (t1 < 0) (fun h4 => .ret (-1)) (fun h4 => .jump (.l5 x0 t1 (IntKind.i64.wrap (x5 + 1))))) (fun h2 => .ret x1)
abbrev f38.D : Nat → f38.L → Option (Int) := PT.iter f38.blk
def f38.start (k : Nat) (a : List S85) (b : Int) : PT (Int) f38.L := .ite ((IntKind.i64.wrap (b - (a.length : Int))) < 0) (fun h1 => .ret (-1)) (fun h1 => .jump (.l5 a (IntKind.i64.wrap (b - (a.length : Int))) 0))
def f38 (k : Nat) (a : List S85) (b : Int) : Option (Int) := (f38.start k a b).run (f38.D k)
def f38.o : (Int) → V El × List (O El) := fun r => (.id .i64 0 r, [])
abbrev sf38 (k : Nat) : List (V G.El) → List (O G.El) → Q G.El (V G.El × List (O G.El)) := fun as' os' => lT os' <| na as' (argL 1) fun a as' => na as' (argI .i64) fun b as' => lT as' <| .call _ (f38 k a b) fun r => .ret (f38.o r)
def f40.start (k : Nat) (a : List S92) (b : Int) : PT (Int) Empty := .ite ((IntKind.i64.wrap (b - (a.length : Int))) < 0) (fun h1 => .ret (-1)) (fun h1 => .ret (IntKind.i64.wrap (b - (a.length : Int))))
def f40 (k : Nat) (a : List S92) (b : Int) : Option (Int) := (f40.start k a b).run Empty.elim
def f40.o : (Int) → V El × List (O El) := fun r => (.id .i64 0 r, [])
abbrev sf40 (k : Nat) : List (V G.El) → List (O G.El) → Q G.El (V G.El × List (O G.El)) := fun as' os' => lT os' <| na as' (argL 2) fun a as' => na as' (argI .i64) fun b as' => lT as' <| .call _ (f40 k a b) fun r => .ret (f40.o r)
def f10.start (k : Nat) (a b c d e : Int) (g i : List Int) (j : ByteArray) (l : List S85) (m n p : Int) (u : List Int) (v : List S92) (w : Int) : PT (Int) Empty := .call _ (f20 k g i w) fun t1 => .ite (t1 < 0) (fun h1 => .ret (-1)) (fun h1 => .ite ((IntKind.i64.wrap (t1 - (j.size : Int))) < 0) (fun h2 => .ret (-1)) (fun h2 => .call _ (f38 k l (IntKind.i64.wrap (t1 - (j.size : Int)))) fun t2 => .ite (t2 < 0) (fun h3 => .ret (-1)) (fun h3 => .call _ (f39 k u t2) fun t3 => .ite (t3 < 0) (fun h4 => .ret (-1)) (fun h4 => .call _ (f40 k v t3) fun t4 => .ite (t4 < 0) (fun h5 => .ret (-1)) (fun h5 => .ret t4)))))
def f10 (k : Nat) (a b c d e : Int) (g i : List Int) (j : ByteArray) (l : List S85) (m n p : Int) (u : List Int) (v : List S92) (w : Int) : Option (Int) := (f10.start k a b c d e g i j l m n p u v w).run Empty.elim
def f10.o : (Int) → V El × List (O El) := fun r => (.id .i64 0 r, [])
abbrev sf10 (k : Nat) : List (V G.El) → List (O G.El) → Q G.El (V G.El × List (O G.El)) := fun as' os' => lT os' <| na as' argA fun b' as' => nc b' (argI .i64) fun a b' => nc b' (argI .i64) fun b b' => nc b' (argI .i64) fun c b' => nc b' (argI .i64) fun d b' => nc b' (argI .i64) fun e b' => nc b' (argL 0) fun g b' => nc b' (argL 0) fun i b' => nc b' argS fun j b' => nc b' (argL 1) fun l b' => nc b' (argI .i64) fun m b' => nc b' (argI .i64) fun n b' => nc b' (argI .i64) fun p b' => nc b' (argL 0) fun u b' => nc b' (argL 2) fun v b' => argT b' <| na as' (argI .i64) fun w as' => lT as' <| .call _ (f10 k a b c d e g i j l m n p u v w) fun r => .ret (f10.o r)
inductive f47.L where
  | l3 (q0 : List Int) (x0 : List Int) (x4 : Int)
def f47.st : f47.L → Nat × S El
  | .l3 q0 x0 x4 => (3, ⟨22, .dead, [(0, .sl 0 x0 []), (3, .win 0 true (.l 0) (.d 0 q0.length)), (4, .id .i64 5 x4)], [(0, .row true true true 0 0 q0 none)], 1, 0⟩)
def f47.blk (k : Nat) : f47.L → PT ((List Int)) f47.L
  | .l3 q0 x0 x4 => .ite (x4 < (x0.length : Int)) (fun h2 => .need (0 ≤ x4) fun h3 => .th h2 <| .th h3 <| .need (x4 < (q0.length : Int)) fun h4 => .triv (x4.toNat < q0.length) tv <| .tr q0.length <| .jump (.l3 (q0.set x4.toNat (at' x0 x4)) x0 (IntKind.i64.wrap (x4 + 1)))) (fun h2 => .tr q0.length <| .ret q0)
abbrev f47.D : Nat → f47.L → Option ((List Int)) := PT.iter f47.blk
def f47.start (k : Nat) (a : List Int) : PT ((List Int)) f47.L := .triv (0 ≤ (a.length : Int)) tv <| .triv ((a.length : Int) ≤ (a.length : Int)) tv <| .need ((a.length : Int) * 8 ≤ 70368744177664) fun h1 => .triv ((a.length : Int) ≤ 70368744177664) tv <| .triv ((a.length : Int).toNat = (List.replicate ((a.length : Int).toNat) (0 : Int)).length) tv <| .jump (.l3 (List.replicate ((a.length : Int).toNat) (0 : Int)) a 0)
def f47 (k : Nat) (a : List Int) : Option ((List Int)) := (f47.start k a).run (f47.D k)
def f47.o : ((List Int)) → V El × List (O El) := fun r => (.win 0 true (.l 0) (.d 0 r.length), [.row true true true 0 0 r none])
abbrev sf47 (k : Nat) : List (V G.El) → List (O G.El) → Q G.El (V G.El × List (O G.El)) := fun as' os' => lT os' <| na as' (argL 0) fun a as' => lT as' <| .call _ (f47 k a) fun r => .ret (f47.o r)
def f22.start (k : Nat) (a b : List Int) : PT ((List Int) × (List Int)) Empty := .call _ (f47 k a) fun t1 => .call _ (f47 k b) fun t2 => .tr t1.length <| .tr t2.length <| .ret (t1, t2)
def f22 (k : Nat) (a b : List Int) : Option ((List Int) × (List Int)) := (f22.start k a b).run Empty.elim
def f22.o : ((List Int) × (List Int)) → V El × List (O El) := fun r => (.agg [.win 0 true (.l 0) (.d 0 r.1.length), .win 1 true (.l 0) (.d 0 r.2.length)], [.row true true true 0 0 r.1 none, .row true true true 0 0 r.2 none])
abbrev sf22 (k : Nat) : List (V G.El) → List (O G.El) → Q G.El (V G.El × List (O G.El)) := fun as' os' => lT os' <| na as' argA fun b' as' => nc b' (argL 0) fun a b' => nc b' (argL 0) fun b b' => argT b' <| lT as' <| .call _ (f22 k a b) fun r => .ret (f22.o r)
def f72.start (k : Nat) (a b : Int) (c : ByteArray) : PT (Int × Int × ByteArray) Empty := .ret (a, b, c)
def f72 (k : Nat) (a b : Int) (c : ByteArray) : Option (Int × Int × ByteArray) := (f72.start k a b c).run Empty.elim
def f72.o : (Int × Int × ByteArray) → V El × List (O El) := fun r => (.agg [.id .i64 0 r.1, .id .i64 0 r.2.1, .s r.2.2], [])
abbrev sf72 (k : Nat) : List (V G.El) → List (O G.El) → Q G.El (V G.El × List (O G.El)) := fun as' os' => lT os' <| na as' argA fun b' as' => nc b' (argI .i64) fun a b' => nc b' (argI .i64) fun b b' => nc b' argS fun c b' => argT b' <| lT as' <| .call _ (f72 k a b c) fun r => .ret (f72.o r)
inductive f46.L where
  | l3 (q0 : List S40) (x0 : List S85) (x4 : Int)
def f46.st : f46.L → Nat × S El
  | .l3 q0 x0 x4 => (3, ⟨23, .dead, [(0, .sl 1 x0 []), (3, .win 0 true (.l 0) (.d 0 q0.length)), (4, .id .i64 5 x4)], [(0, .row true true true 0 3 q0 none)], 1, 0⟩)
def f46.blk (k : Nat) : f46.L → PT ((List S40)) f46.L
  | .l3 q0 x0 x4 => .ite (x4 < (x0.length : Int)) (fun h2 => .need (0 ≤ x4) fun h3 => .th h2 <| .call _ (f72 k ((at' x0 x4).f0) ((at' x0 x4).f1) ((at' x0 x4).f2)) fun t1 => .th h3 <| .need (x4 < (q0.length : Int)) fun h4 => .triv (x4.toNat < q0.length) tv <| .tr q0.length <| .jump (.l3 (q0.set x4.toNat (⟨t1.1, t1.2.1, t1.2.2⟩ : S40)) x0 (IntKind.i64.wrap (x4 + 1)))) (fun h2 => .tr q0.length <| .ret q0)
abbrev f46.D : Nat → f46.L → Option ((List S40)) := PT.iter f46.blk
def f46.start (k : Nat) (a : List S85) : PT ((List S40)) f46.L := .triv (0 ≤ (a.length : Int)) tv <| .triv ((a.length : Int) ≤ (a.length : Int)) tv <| .need ((a.length : Int) * 32 ≤ 70368744177664) fun h1 => .triv ((a.length : Int) ≤ 70368744177664) tv <| .triv ((a.length : Int).toNat = (List.replicate ((a.length : Int).toNat) (⟨0, 0, (⟨#[]⟩ : ByteArray)⟩ : S40)).length) tv <| .jump (.l3 (List.replicate ((a.length : Int).toNat) (⟨0, 0, (⟨#[]⟩ : ByteArray)⟩ : S40)) a 0)
def f46 (k : Nat) (a : List S85) : Option ((List S40)) := (f46.start k a).run (f46.D k)
def f46.o : ((List S40)) → V El × List (O El) := fun r => (.win 0 true (.l 0) (.d 0 r.length), [.row true true true 0 3 r none])
abbrev sf46 (k : Nat) : List (V G.El) → List (O G.El) → Q G.El (V G.El × List (O G.El)) := fun as' os' => lT os' <| na as' (argL 1) fun a as' => lT as' <| .call _ (f46 k a) fun r => .ret (f46.o r)
def f73.start (k : Nat) (a b c : Int) : PT (Int × Int × Int) Empty := .ret (a, b, c)
def f73 (k : Nat) (a b c : Int) : Option (Int × Int × Int) := (f73.start k a b c).run Empty.elim
def f73.o : (Int × Int × Int) → V El × List (O El) := fun r => (.agg [.id .i64 0 r.1, .id .i64 0 r.2.1, .id .i64 0 r.2.2], [])
abbrev sf73 (k : Nat) : List (V G.El) → List (O G.El) → Q G.El (V G.El × List (O G.El)) := fun as' os' => lT os' <| na as' argA fun b' as' => nc b' (argI .i64) fun a b' => nc b' (argI .i64) fun b b' => nc b' (argI .i64) fun c b' => argT b' <| lT as' <| .call _ (f73 k a b c) fun r => .ret (f73.o r)
inductive f48.L where
  | l3 (q0 : List S90) (x0 : List S92) (x4 : Int)
def f48.st : f48.L → Nat × S El
  | .l3 q0 x0 x4 => (3, ⟨23, .dead, [(0, .sl 2 x0 []), (3, .win 0 true (.l 0) (.d 0 q0.length)), (4, .id .i64 5 x4)], [(0, .row true true true 0 4 q0 none)], 1, 0⟩)
def f48.blk (k : Nat) : f48.L → PT ((List S90)) f48.L
  | .l3 q0 x0 x4 => .ite (x4 < (x0.length : Int)) (fun h2 => .need (0 ≤ x4) fun h3 => .th h2 <| .call _ (f73 k ((at' x0 x4).f0) ((at' x0 x4).f1) ((at' x0 x4).f2)) fun t1 => .th h3 <| .need (x4 < (q0.length : Int)) fun h4 => .triv (x4.toNat < q0.length) tv <| .tr q0.length <| .jump (.l3 (q0.set x4.toNat (⟨t1.1, t1.2.1, t1.2.2⟩ : S90)) x0 (IntKind.i64.wrap (x4 + 1)))) (fun h2 => .tr q0.length <| .ret q0)
abbrev f48.D : Nat → f48.L → Option ((List S90)) := PT.iter f48.blk
def f48.start (k : Nat) (a : List S92) : PT ((List S90)) f48.L := .triv (0 ≤ (a.length : Int)) tv <| .triv ((a.length : Int) ≤ (a.length : Int)) tv <| .need ((a.length : Int) * 24 ≤ 70368744177664) fun h1 => .triv ((a.length : Int) ≤ 70368744177664) tv <| .triv ((a.length : Int).toNat = (List.replicate ((a.length : Int).toNat) (⟨0, 0, 0⟩ : S90)).length) tv <| .jump (.l3 (List.replicate ((a.length : Int).toNat) (⟨0, 0, 0⟩ : S90)) a 0)
def f48 (k : Nat) (a : List S92) : Option ((List S90)) := (f48.start k a).run (f48.D k)
def f48.o : ((List S90)) → V El × List (O El) := fun r => (.win 0 true (.l 0) (.d 0 r.length), [.row true true true 0 4 r none])
abbrev sf48 (k : Nat) : List (V G.El) → List (O G.El) → Q G.El (V G.El × List (O G.El)) := fun as' os' => lT os' <| na as' (argL 2) fun a as' => lT as' <| .call _ (f48 k a) fun r => .ret (f48.o r)
def f12.start (k : Nat) (a b c d e : Int) (g i : List Int) (j : ByteArray) (l : List S85) (m n p : Int) (u : List Int) (v : List S92) : PT (Int × Int × Int × Int × Int × ByteArray × Int × Int × Int × (List Int) × (List Int) × (List S40) × (List Int) × (List S90)) Empty := .call _ (f22 k g i) fun t1 => .call _ (f46 k l) fun t2 => .call _ (f47 k u) fun t3 => .call _ (f48 k v) fun t4 => .tr t1.1.length <| .tr t1.2.length <| .tr t2.length <| .tr t3.length <| .tr t4.length <| .ret (a, b, c, d, e, j, m, n, p, t1.1, t1.2, t2, t3, t4)
def f12 (k : Nat) (a b c d e : Int) (g i : List Int) (j : ByteArray) (l : List S85) (m n p : Int) (u : List Int) (v : List S92) : Option (Int × Int × Int × Int × Int × ByteArray × Int × Int × Int × (List Int) × (List Int) × (List S40) × (List Int) × (List S90)) := (f12.start k a b c d e g i j l m n p u v).run Empty.elim
def f12.o : (Int × Int × Int × Int × Int × ByteArray × Int × Int × Int × (List Int) × (List Int) × (List S40) × (List Int) × (List S90)) → V El × List (O El) := fun r => (.agg [.id .i64 0 r.1, .id .i64 0 r.2.1, .id .i64 0 r.2.2.1, .id .i64 0 r.2.2.2.1, .id .i64 0 r.2.2.2.2.1, .win 0 true (.l 0) (.d 0 r.2.2.2.2.2.2.2.2.2.1.length), .win 1 true (.l 0) (.d 0 r.2.2.2.2.2.2.2.2.2.2.1.length), .s r.2.2.2.2.2.1, .win 2 true (.l 0) (.d 0 r.2.2.2.2.2.2.2.2.2.2.2.1.length), .id .i64 0 r.2.2.2.2.2.2.1, .id .i64 0 r.2.2.2.2.2.2.2.1, .id .i64 0 r.2.2.2.2.2.2.2.2.1, .win 3 true (.l 0) (.d 0 r.2.2.2.2.2.2.2.2.2.2.2.2.1.length), .win 4 true (.l 0) (.d 0 r.2.2.2.2.2.2.2.2.2.2.2.2.2.length)], [.row true true true 0 0 r.2.2.2.2.2.2.2.2.2.1 none, .row true true true 0 0 r.2.2.2.2.2.2.2.2.2.2.1 none, .row true true true 0 3 r.2.2.2.2.2.2.2.2.2.2.2.1 none, .row true true true 0 0 r.2.2.2.2.2.2.2.2.2.2.2.2.1 none, .row true true true 0 4 r.2.2.2.2.2.2.2.2.2.2.2.2.2 none])
abbrev sf12 (k : Nat) : List (V G.El) → List (O G.El) → Q G.El (V G.El × List (O G.El)) := fun as' os' => lT os' <| na as' argA fun b' as' => nc b' (argI .i64) fun a b' => nc b' (argI .i64) fun b b' => nc b' (argI .i64) fun c b' => nc b' (argI .i64) fun d b' => nc b' (argI .i64) fun e b' => nc b' (argL 0) fun g b' => nc b' (argL 0) fun i b' => nc b' argS fun j b' => nc b' (argL 1) fun l b' => nc b' (argI .i64) fun m b' => nc b' (argI .i64) fun n b' => nc b' (argI .i64) fun p b' => nc b' (argL 0) fun u b' => nc b' (argL 2) fun v b' => argT b' <| lT as' <| .call _ (f12 k a b c d e g i j l m n p u v) fun r => .ret (f12.o r)
def f41.start (k : Nat) (a b c : Int) : PT (Bool) Empty := .ite (b ≤ a) (fun h1 => .t3 h1 <| .ret (decide (a ≤ c))) (fun h1 => .t3 h1 <| .ret false)
def f41 (k : Nat) (a b c : Int) : Option (Bool) := (f41.start k a b c).run Empty.elim
def f41.o : (Bool) → V El × List (O El) := fun r => (.bb false r, [])
abbrev sf41 (k : Nat) : List (V G.El) → List (O G.El) → Q G.El (V G.El × List (O G.El)) := fun as' os' => lT os' <| na as' (argI .i64) fun a as' => na as' (argI .i64) fun b as' => na as' (argI .i64) fun c as' => lT as' <| .call _ (f41 k a b c) fun r => .ret (f41.o r)
inductive f68.L where
  | l4 (x0 : List Int) (x5 : Int)
def f68.st : f68.L → Nat × S El
  | .l4 x0 x5 => (4, ⟨38, .dead, [(0, .sl 0 x0 []), (5, .id .i64 6 x5)], [], 0, 0⟩)
def f68.hint : f68.L → H
  | .l4 .. => (.both (.skip (.both (.l (.l (.both (.l (.l (.l (.l (.l (.l (.l (.l (.l (.l (.l (.l .all)))))))))))) (.r (.r (.r (.r (.r (.r (.r (.r (.r (.l (.r (.l .all))))))))))))))) (.r (.r (.r (.r .all)))))) .all)
def f68.blk (k : Nat) : f68.L → PT (Bool) f68.L
  | .l4 x0 x5 => .ite (x5 < (x0.length : Int)) (fun h2 => .need (0 ≤ x5) fun h3 => .th h2 <| .call _ (f41 k (at' x0 x5) 1 50) fun t1 => .ite (t1 = true) (fun h4 => .t2 h4 <| .ite (0 < x5) (fun h5 => .t2 h5 <| .th h3 <| .th h2 <| .t5 h5 <| .need (0 ≤ (IntKind.i64.wrap (x5 - 1))) fun h6 => .need ((IntKind.i64.wrap (x5 - 1)) < (x0.length : Int)) fun h7 => .t2 h5 <| .th h4 <| .th h5 <| .th h4 <| .ite ((at' x0 x5) ≤ (at' x0 (IntKind.i64.wrap (x5 - 1)))) (fun h8 => .ret false) (fun h8 => .jump (.l4 x0 (IntKind.i64.wrap (x5 + 1))))) (fun h5 => .t9 h5 <| .th h4 <| .th h5 <| .th h4 <| .jump (.l4 x0 (IntKind.i64.wrap (x5 + 1))))) (fun h4 => .t4 h4 <| .ret false)) (fun h2 => .ret true)
abbrev f68.D : Nat → f68.L → Option (Bool) := PT.iter f68.blk
def f68.start (k : Nat) (a : List Int) (b : Int) : PT (Bool) f68.L := .ite (b < (a.length : Int)) (fun h1 => .ret false) (fun h1 => .jump (.l4 a 0))
def f68 (k : Nat) (a : List Int) (b : Int) : Option (Bool) := (f68.start k a b).run (f68.D k)
def f68.o : (Bool) → V El × List (O El) := fun r => (.bb false r, [])
abbrev sf68 (k : Nat) : List (V G.El) → List (O G.El) → Q G.El (V G.El × List (O G.El)) := fun as' os' => lT os' <| na as' (argL 0) fun a as' => na as' (argI .i64) fun b as' => lT as' <| .call _ (f68 k a b) fun r => .ret (f68.o r)
inductive f69.L where
  | l2 (x0 : List Int) (x1 : Int) (x5 : Int)
def f69.st : f69.L → Nat × S El
  | .l2 x0 x1 x5 => (2, ⟨18, .dead, [(0, .sl 0 x0 []), (1, .id .i64 2 x1), (5, .id .i64 6 x5)], [], 0, 0⟩)
def f69.blk (k : Nat) : f69.L → PT (Bool) f69.L
  | .l2 x0 x1 x5 => .ite (x5 < (x0.length : Int)) (fun h1 => .need (0 ≤ x5) fun h2 => .th h1 <| .ite ((at' x0 x5) = x1) (fun h3 => .ret true) (fun h3 => .jump (.l2 x0 x1 (IntKind.i64.wrap (x5 + 1))))) (fun h1 => .ret false)
abbrev f69.D : Nat → f69.L → Option (Bool) := PT.iter f69.blk
def f69.start (k : Nat) (a : List Int) (b : Int) : PT (Bool) f69.L := .jump (.l2 a b 0)
def f69 (k : Nat) (a : List Int) (b : Int) : Option (Bool) := (f69.start k a b).run (f69.D k)
def f69.o : (Bool) → V El × List (O El) := fun r => (.bb false r, [])
abbrev sf69 (k : Nat) : List (V G.El) → List (O G.El) → Q G.El (V G.El × List (O G.El)) := fun as' os' => lT os' <| na as' (argL 0) fun a as' => na as' (argI .i64) fun b as' => lT as' <| .call _ (f69 k a b) fun r => .ret (f69.o r)
inductive f42.L where
  | l4 (x3 : Int) (b0_0 : List Int) (b0_1 : List Int)
def f42.st : f42.L → Nat × S El
  | .l4 x3 b0_0 b0_1 => (4, ⟨35, .dead, [(1, .ptr 0 (.l 0) 0), (3, .id .i64 4 x3)], [(0, .box true true 0 2 true [.sl 0 b0_0 [], .sl 0 b0_1 []])], 1, 0⟩)
def f42.blk (k : Nat) : f42.L → PT (Bool) f42.L
  | .l4 x3 b0_0 b0_1 => .ite (x3 < (b0_1.length : Int)) (fun h4 => .need (0 ≤ x3) fun h5 => .th h4 <| .call _ (f69 k b0_0 (at' b0_1 x3)) fun t3 => .ite (t3 = true) (fun h6 => .ret false) (fun h6 => .jump (.l4 (IntKind.i64.wrap (x3 + 1)) b0_0 b0_1))) (fun h4 => .ret true)
abbrev f42.D : Nat → f42.L → Option (Bool) := PT.iter f42.blk
def f42.start (k : Nat) (a b : List Int) : PT (Bool) f42.L := .ite ((a.length : Int) < 1) (fun h1 => .t4 h1 <| .ret false) (fun h1 => .t2 h1 <| .call _ (f68 k a 7) fun t1 => .t2 h1 <| .ite (t1 = true) (fun h2 => .t2 h2 <| .call _ (f68 k b 7) fun t2 => .t2 h2 <| .ite (t2 = true) (fun h3 => .jump (.l4 0 a b)) (fun h3 => .ret false)) (fun h2 => .t4 h2 <| .ret false))
def f42 (k : Nat) (a b : List Int) : Option (Bool) := (f42.start k a b).run (f42.D k)
def f42.o : (Bool) → V El × List (O El) := fun r => (.bb false r, [])
abbrev sf42 (k : Nat) : List (V G.El) → List (O G.El) → Q G.El (V G.El × List (O G.El)) := fun as' os' => lT os' <| na as' argA fun b' as' => nc b' (argL 0) fun a b' => nc b' (argL 0) fun b b' => argT b' <| lT as' <| .call _ (f42 k a b) fun r => .ret (f42.o r)
def f43.start (k : Nat) (a b c d e : Int) (g i : List Int) (j : ByteArray) (l : List S40) (m n p : Int) (u : List Int) (v : List S90) : PT (Int) Empty := .ret (IntKind.i64.wrap (d + (l.length : Int)))
def f43 (k : Nat) (a b c d e : Int) (g i : List Int) (j : ByteArray) (l : List S40) (m n p : Int) (u : List Int) (v : List S90) : Option (Int) := (f43.start k a b c d e g i j l m n p u v).run Empty.elim
def f43.o : (Int) → V El × List (O El) := fun r => (.id .i64 0 r, [])
abbrev sf43 (k : Nat) : List (V G.El) → List (O G.El) → Q G.El (V G.El × List (O G.El)) := fun as' os' => lT os' <| na as' argA fun b' as' => nc b' (argI .i64) fun a b' => nc b' (argI .i64) fun b b' => nc b' (argI .i64) fun c b' => nc b' (argI .i64) fun d b' => nc b' (argI .i64) fun e b' => nc b' (argL 0) fun g b' => nc b' (argL 0) fun i b' => nc b' argS fun j b' => nc b' (argL 3) fun l b' => nc b' (argI .i64) fun m b' => nc b' (argI .i64) fun n b' => nc b' (argI .i64) fun p b' => nc b' (argL 0) fun u b' => nc b' (argL 4) fun v b' => argT b' <| lT as' <| .call _ (f43 k a b c d e g i j l m n p u v) fun r => .ret (f43.o r)
def f70.start (k : Nat) (a b : Int) (c : ByteArray) : PT (Bool) Empty := .call _ (f41 k a 1 1000000000000) fun t1 => .ite (t1 = true) (fun h1 => .t2 h1 <| .call _ (f41 k b 0 9) fun t2 => .th h1 <| .ite (t2 = true) (fun h2 => .t4 h2 <| .ret (decide ((c.size : Int) ≤ 4000))) (fun h2 => .t4 h2 <| .ret false)) (fun h1 => .t3 h1 <| .ret false)
def f70 (k : Nat) (a b : Int) (c : ByteArray) : Option (Bool) := (f70.start k a b c).run Empty.elim
def f70.o : (Bool) → V El × List (O El) := fun r => (.bb false r, [])
abbrev sf70 (k : Nat) : List (V G.El) → List (O G.El) → Q G.El (V G.El × List (O G.El)) := fun as' os' => lT os' <| na as' argA fun b' as' => nc b' (argI .i64) fun a b' => nc b' (argI .i64) fun b b' => nc b' argS fun c b' => argT b' <| lT as' <| .call _ (f70 k a b c) fun r => .ret (f70.o r)
inductive f82.L where
  | l4 (q0 : List ByteArray) (x0 : ByteArray) (x1 : Int) (x6 : Int) (x7 : Int)
def f82.st : f82.L → Nat × S El
  | .l4 q0 x0 x1 x6 x7 => (4, ⟨36, .dead, [(0, .s x0), (1, .id .u8 2 x1), (5, .win 0 true (.l 0) (.d 0 q0.length)), (6, .id .i64 7 x6), (7, .id .i64 8 x7)], [(0, .row true true true 0 5 q0 none)], 1, 0⟩)
def f82.hint : f82.L → H
  | .l4 .. => (.both (.both (.l (.l (.l (.l (.l .all))))) (.r (.r (.r (.r (.r .all)))))) .all)
def f82.blk (k : Nat) : f82.L → PT ((List ByteArray)) f82.L
  | .l4 q0 x0 x1 x6 x7 => .ite (x7 ≤ (x0.size : Int)) (fun h1 => .ite (x7 = (x0.size : Int)) (fun h2 => .t5 h2 <| .triv (0 ≤ x7) tv <| .th h1 <| .need (0 ≤ x6) fun h3 => .need (x6 ≤ ((x7.toNat : Nat) : Int)) fun h4 => .triv (1 = ([(x0.extract x6.toNat x7.toNat)] : List ByteArray).length) tv <| .tr q0.length <| .need ((q0.length + 1) * 16 ≤ 70368744177664) fun h5 => .triv ((q0.length + 1) ≤ 70368744177664) tv <| .triv ((q0.length + 1) = (q0 ++ ([(x0.extract x6.toNat x7.toNat)] : List ByteArray)).length) tv <| .jump (.l4 (q0 ++ ([(x0.extract x6.toNat x7.toNat)] : List ByteArray)) x0 x1 (IntKind.i64.wrap (x7 + 1)) (IntKind.i64.wrap (x7 + 1)))) (fun h2 => .t2 h2 <| .need (0 ≤ x7) fun h6 => .need (x7 < (x0.size : Int)) fun h7 => .t3 h2 <| .ite ((byteAt x0 x7) = x1) (fun h8 => .th h6 <| .th h1 <| .need (0 ≤ x6) fun h9 => .need (x6 ≤ ((x7.toNat : Nat) : Int)) fun h10 => .triv (1 = ([(x0.extract x6.toNat x7.toNat)] : List ByteArray).length) tv <| .tr q0.length <| .need ((q0.length + 1) * 16 ≤ 70368744177664) fun h11 => .triv ((q0.length + 1) ≤ 70368744177664) tv <| .triv ((q0.length + 1) = (q0 ++ ([(x0.extract x6.toNat x7.toNat)] : List ByteArray)).length) tv <| .jump (.l4 (q0 ++ ([(x0.extract x6.toNat x7.toNat)] : List ByteArray)) x0 x1 (IntKind.i64.wrap (x7 + 1)) (IntKind.i64.wrap (x7 + 1)))) (fun h8 => .tr q0.length <| .jump (.l4 q0 x0 x1 x6 (IntKind.i64.wrap (x7 + 1)))))) (fun h1 => .tr q0.length <| .ret q0)
abbrev f82.D : Nat → f82.L → Option ((List ByteArray)) := PT.iter f82.blk
def f82.start (k : Nat) (a : ByteArray) (b : Int) : PT ((List ByteArray)) f82.L := .triv (0 = ([] : List ByteArray).length) tv <| .jump (.l4 ([] : List ByteArray) a b 0 0)
def f82 (k : Nat) (a : ByteArray) (b : Int) : Option ((List ByteArray)) := (f82.start k a b).run (f82.D k)
def f82.o : ((List ByteArray)) → V El × List (O El) := fun r => (.win 0 true (.l 0) (.d 0 r.length), [.row true true true 0 5 r none])
abbrev sf82 (k : Nat) : List (V G.El) → List (O G.El) → Q G.El (V G.El × List (O G.El)) := fun as' os' => lT os' <| na as' argS fun a as' => na as' (argI .u8) fun b as' => lT as' <| .call _ (f82 k a b) fun r => .ret (f82.o r)
def f95.start (k : Nat) (a : Int) : PT (Bool) Empty := .ite (48 ≤ a) (fun h1 => .t2 h1 <| .ret (decide (a ≤ 57))) (fun h1 => .t2 h1 <| .ret false)
def f95 (k : Nat) (a : Int) : Option (Bool) := (f95.start k a).run Empty.elim
def f95.o : (Bool) → V El × List (O El) := fun r => (.bb false r, [])
abbrev sf95 (k : Nat) : List (V G.El) → List (O G.El) → Q G.El (V G.El × List (O G.El)) := fun as' os' => lT os' <| na as' (argI .u8) fun a as' => lT as' <| .call _ (f95 k a) fun r => .ret (f95.o r)
inductive f83.L where
  | l5 (x0 : ByteArray) (x1 : Int) (x5 : Int) (x6 : Int)
def f83.st : f83.L → Nat × S El
  | .l5 x0 x1 x5 x6 => (5, ⟨48, .dead, [(0, .s x0), (1, .id .i64 2 x1), (5, .id .i64 6 x5), (6, .id .i64 7 x6)], [], 0, 0⟩)
def f83.blk (k : Nat) : f83.L → PT (Int) f83.L
  | .l5 x0 x1 x5 x6 => .ite (x6 < (x0.size : Int)) (fun h5 => .need (0 ≤ x6) fun h6 => .th h5 <| .call _ (f95 k (byteAt x0 x6)) fun t1 => .ite (t1 = true) (fun h7 => .th h6 <| .th h5 <| .jump (.l5 x0 x1 (IntKind.i64.wrap ((IntKind.i64.wrap (x5 * 10)) + (IntKind.i64.wrap (IntKind.u8.wrap ((byteAt x0 x6) - 48))))) (IntKind.i64.wrap (x6 + 1)))) (fun h7 => .ret (-1))) (fun h5 => .ite (x1 < x5) (fun h8 => .ret (-1)) (fun h8 => .ret x5))
abbrev f83.D : Nat → f83.L → Option (Int) := PT.iter f83.blk
def f83.start (k : Nat) (a : ByteArray) (b : Int) : PT (Int) f83.L := .ite ((a.size : Int) < 1) (fun h1 => .t3 h1 <| .ret (-1)) (fun h1 => .t3 h1 <| .ite (15 < (a.size : Int)) (fun h2 => .t5 h2 <| .ret (-1)) (fun h2 => .t3 h2 <| .ite (1 < (a.size : Int)) (fun h3 => .th h3 <| .triv (0 < (a.size : Int)) tv <| .th h3 <| .th h2 <| .th h3 <| .th h2 <| .ite ((byteAt a 0) = 48) (fun h4 => .ret (-1)) (fun h4 => .jump (.l5 a b 0 0))) (fun h3 => .t2 h3 <| .th h2 <| .th h3 <| .th h2 <| .jump (.l5 a b 0 0))))
def f83 (k : Nat) (a : ByteArray) (b : Int) : Option (Int) := (f83.start k a b).run (f83.D k)
def f83.o : (Int) → V El × List (O El) := fun r => (.id .i64 0 r, [])
abbrev sf83 (k : Nat) : List (V G.El) → List (O G.El) → Q G.El (V G.El × List (O G.El)) := fun as' os' => lT os' <| na as' argS fun a as' => na as' (argI .i64) fun b as' => lT as' <| .call _ (f83 k a b) fun r => .ret (f83.o r)
inductive f96.L where
  | l4 (x0 : Int) (x3 : ByteArray)
def f96.st : f96.L → Nat × S El
  | .l4 x0 x3 => (4, ⟨19, .dead, [(0, .id .i64 1 x0), (3, .s x3)], [], 0, 0⟩)
def f96.blk (k : Nat) : f96.L → PT (ByteArray) f96.L
  | .l4 x0 x3 => .ite (0 < x0) (fun h2 => .triv (1 = ([(IntKind.u8.wrap (IntKind.i64.wrap (48 + (x0.tmod 10))))] : List Int).length) tv <| .need ((strOf ([(IntKind.u8.wrap (IntKind.i64.wrap (48 + (x0.tmod 10))))] : List Int)).size + x3.size ≤ 9223372036854775807) fun h3 => .jump (.l4 (IntKind.i64.wrap (x0.tdiv 10)) ((strOf ([(IntKind.u8.wrap (IntKind.i64.wrap (48 + (x0.tmod 10))))] : List Int)) ++ x3))) (fun h2 => .ret x3)
abbrev f96.D : Nat → f96.L → Option (ByteArray) := PT.iter f96.blk
def f96.start (k : Nat) (a : Int) : PT (ByteArray) f96.L := .ite (a = 0) (fun h1 => .ret (⟨#[48]⟩ : ByteArray)) (fun h1 => .jump (.l4 a (⟨#[]⟩ : ByteArray)))
def f96 (k : Nat) (a : Int) : Option (ByteArray) := (f96.start k a).run (f96.D k)
def f96.o : (ByteArray) → V El × List (O El) := fun r => (.s r, [])
abbrev sf96 (k : Nat) : List (V G.El) → List (O G.El) → Q G.El (V G.El × List (O G.El)) := fun as' os' => lT os' <| na as' (argI .i64) fun a as' => lT as' <| .call _ (f96 k a) fun r => .ret (f96.o r)
inductive f84.L where
  | l5 (x3 : ByteArray) (x4 : Int) (b0_0 : List Int) (b0_1 : List Int)
  | l11 (x3 : ByteArray) (x5 : Int) (b0_0 : List Int) (b0_1 : List Int)
def f84.st : f84.L → Nat × S El
  | .l5 x3 x4 b0_0 b0_1 => (5, ⟨48, .dead, [(1, .ptr 0 (.l 0) 0), (3, .s x3), (4, .id .i64 5 x4)], [(0, .box true true 0 2 true [.sl 0 b0_0 [], .sl 0 b0_1 []])], 1, 0⟩)
  | .l11 x3 x5 b0_0 b0_1 => (11, ⟨48, .dead, [(1, .ptr 0 (.l 0) 0), (3, .s x3), (5, .id .i64 6 x5)], [(0, .box true true 0 2 true [.sl 0 b0_0 [], .sl 0 b0_1 []])], 1, 0⟩)
def f84.blk (k : Nat) : f84.L → PT (ByteArray) f84.L
  | .l5 x3 x4 b0_0 b0_1 => .ite (x4 < (b0_0.length : Int)) (fun h2 => .need (x3.size + (⟨#[32]⟩ : ByteArray).size ≤ 9223372036854775807) fun h3 => .need (0 ≤ x4) fun h4 => .th h2 <| .call _ (f96 k (at' b0_0 x4)) fun t2 => .need ((x3 ++ (⟨#[32]⟩ : ByteArray)).size + t2.size ≤ 9223372036854775807) fun h5 => .jump (.l5 ((x3 ++ (⟨#[32]⟩ : ByteArray)) ++ t2) (IntKind.i64.wrap (x4 + 1)) b0_0 b0_1)) (fun h2 => .ite (0 < (b0_1.length : Int)) (fun h6 => .need (x3.size + (⟨#[32, 108]⟩ : ByteArray).size ≤ 9223372036854775807) fun h7 => .jump (.l11 (x3 ++ (⟨#[32, 108]⟩ : ByteArray)) 0 b0_0 b0_1)) (fun h6 => .jump (.l11 x3 0 b0_0 b0_1)))
  | .l11 x3 x5 b0_0 b0_1 => .ite (x5 < (b0_1.length : Int)) (fun h8 => .need (x3.size + (⟨#[32]⟩ : ByteArray).size ≤ 9223372036854775807) fun h9 => .need (0 ≤ x5) fun h10 => .th h8 <| .call _ (f96 k (at' b0_1 x5)) fun t3 => .need ((x3 ++ (⟨#[32]⟩ : ByteArray)).size + t3.size ≤ 9223372036854775807) fun h11 => .jump (.l11 ((x3 ++ (⟨#[32]⟩ : ByteArray)) ++ t3) (IntKind.i64.wrap (x5 + 1)) b0_0 b0_1)) (fun h8 => .ret x3)
abbrev f84.D : Nat → f84.L → Option (ByteArray) := PT.iter f84.blk
def f84.start (k : Nat) (a b : List Int) : PT (ByteArray) f84.L := .call _ (f42 k a b) fun t1 => .ite (t1 = true) (fun h1 => .jump (.l5 (⟨#[118]⟩ : ByteArray) 0 a b)) (fun h1 => .ret (⟨#[]⟩ : ByteArray))
def f84 (k : Nat) (a b : List Int) : Option (ByteArray) := (f84.start k a b).run (f84.D k)
def f84.o : (ByteArray) → V El × List (O El) := fun r => (.s r, [])
abbrev sf84 (k : Nat) : List (V G.El) → List (O G.El) → Q G.El (V G.El × List (O G.El)) := fun as' os' => lT os' <| na as' argA fun b' as' => nc b' (argL 0) fun a b' => nc b' (argL 0) fun b b' => argT b' <| lT as' <| .call _ (f84 k a b) fun r => .ret (f84.o r)
inductive f65.L where
  | l7 (q2 : List ByteArray) (x0 : ByteArray) (x6 : Bool) (x7 : Int)
  | l7v1 (q2 : List ByteArray) (q3 : List Int) (x0 : ByteArray) (x6 : Bool) (x7 : Int)
  | l7v2 (q2 : List ByteArray) (q3 : List Int) (q4 : List Int) (x0 : ByteArray) (x6 : Bool) (x7 : Int)
  | l7v3 (q2 : List ByteArray) (q3 : List Int) (x0 : ByteArray) (x6 : Bool) (x7 : Int)
def f65.st : f65.L → Nat × S El
  | .l7 q2 x0 x6 x7 => (7, ⟨59, .dead, [(0, .s x0), (2, .ptr 0 (.l 0) 0), (4, .ptr 1 (.l 0) 0), (5, .win 2 true (.l 0) (.d 0 q2.length)), (6, .bb false x6), (7, .id .i64 8 x7)], [(0, .box true true 0 2 true [.nil, .nil]), (1, .box true true 0 2 true [.nil, .nil]), (2, .row true true true 0 5 q2 none)], 3, 0⟩)
  | .l7v1 q2 q3 x0 x6 x7 => (7, ⟨59, .dead, [(0, .s x0), (2, .ptr 0 (.l 0) 0), (4, .ptr 1 (.l 0) 0), (5, .win 2 true (.l 0) (.d 0 q2.length)), (6, .bb false x6), (7, .id .i64 8 x7)], [(0, .box true true 0 2 true [.nil, .nil]), (1, .box true true 0 2 true [.nil, .win 3 true (.l 0) (.d 0 q3.length)]), (2, .row true true true 0 5 q2 none), (3, .row true true true 0 0 q3 none)], 4, 0⟩)
  | .l7v2 q2 q3 q4 x0 x6 x7 => (7, ⟨59, .dead, [(0, .s x0), (2, .ptr 0 (.l 0) 0), (4, .ptr 1 (.l 0) 0), (5, .win 2 true (.l 0) (.d 0 q2.length)), (6, .bb false x6), (7, .id .i64 8 x7)], [(0, .box true true 0 2 true [.nil, .nil]), (1, .box true true 0 2 true [.win 3 true (.l 0) (.d 0 q3.length), .win 4 true (.l 0) (.d 0 q4.length)]), (2, .row true true true 0 5 q2 none), (3, .row true true true 0 0 q3 none), (4, .row true true true 0 0 q4 none)], 5, 0⟩)
  | .l7v3 q2 q3 x0 x6 x7 => (7, ⟨59, .dead, [(0, .s x0), (2, .ptr 0 (.l 0) 0), (4, .ptr 1 (.l 0) 0), (5, .win 2 true (.l 0) (.d 0 q2.length)), (6, .bb false x6), (7, .id .i64 8 x7)], [(0, .box true true 0 2 true [.nil, .nil]), (1, .box true true 0 2 true [.win 3 true (.l 0) (.d 0 q3.length), .nil]), (2, .row true true true 0 5 q2 none), (3, .row true true true 0 0 q3 none)], 4, 0⟩)
def f65.hint : f65.L → H
  | .l7 .. => (.both (.both (.l (.l (.both (.skip (.l .all)) .all))) (.r (.r .all))) (.skip (.both (.l (.l .all)) (.r (.r .all)))))
  | .l7v1 .. => (.both (.both (.l (.l (.both (.skip (.l .all)) .all))) (.r (.r .all))) (.skip (.both (.l (.l .all)) (.r (.r .all)))))
  | .l7v2 .. => (.both (.both (.l (.l (.both (.skip (.l .all)) .all))) (.r (.r .all))) (.skip (.both (.l (.l .all)) (.r (.r .all)))))
  | .l7v3 .. => (.both (.both (.l (.l (.both (.skip (.l .all)) .all))) (.r (.r .all))) (.skip (.both (.l (.l .all)) (.r (.r .all)))))
def f65.blk (k : Nat) : f65.L → PT (Bool × (List Int) × (List Int)) f65.L
  | .l7 q2 x0 x6 x7 => .ite (x7 < (q2.length : Int)) (fun h2 => .need (0 ≤ x7) fun h3 => .th h2 <| .triv (x7.toNat < q2.length) tv <| .ite ((strEq (at' q2 x7) (⟨#[108]⟩ : ByteArray)) = true) (fun h4 => .t2 h4 <| .ite (x6 = true) (fun h5 => .th h3 <| .th h2 <| .triv (x7.toNat < q2.length) tv <| .call _ (f83 k (at' q2 x7) 50) fun t2 => .th h5 <| .triv (1 = ([t2] : List Int).length) tv <| .tr q2.length <| .triv (1 = ([t2] : List Int).length) tv <| .jump (.l7v1 q2 ([t2] : List Int) x0 x6 (IntKind.i64.wrap (x7 + 1)))) (fun h5 => .tr q2.length <| .jump (.l7 q2 x0 true (IntKind.i64.wrap (x7 + 1))))) (fun h4 => .t2 h4 <| .th h3 <| .th h2 <| .triv (x7.toNat < q2.length) tv <| .call _ (f83 k (at' q2 x7) 50) fun t9 => .ite (x6 = true) (fun h25 => .triv (1 = ([t9] : List Int).length) tv <| .tr q2.length <| .triv (1 = ([t9] : List Int).length) tv <| .jump (.l7v1 q2 ([t9] : List Int) x0 x6 (IntKind.i64.wrap (x7 + 1)))) (fun h25 => .triv (1 = ([t9] : List Int).length) tv <| .tr q2.length <| .triv (1 = ([t9] : List Int).length) tv <| .jump (.l7v3 q2 ([t9] : List Int) x0 x6 (IntKind.i64.wrap (x7 + 1)))))) (fun h2 => .call _ (f84 k ([] : List Int) ([] : List Int)) fun t13 => .ite ((strEq t13 x0) = true) (fun h34 => .t2 h34 <| .ite ((strEq x0 (⟨#[]⟩ : ByteArray)) = true) (fun h35 => .triv (0 = ([] : List Int).length) tv <| .triv (0 = ([] : List Int).length) tv <| .ret (false, ([] : List Int), ([] : List Int))) (fun h35 => .triv (0 = ([] : List Int).length) tv <| .triv (0 = ([] : List Int).length) tv <| .ret (true, ([] : List Int), ([] : List Int)))) (fun h34 => .t2 h34 <| .triv (0 = ([] : List Int).length) tv <| .triv (0 = ([] : List Int).length) tv <| .ret (false, ([] : List Int), ([] : List Int))))
  | .l7v1 q2 q3 x0 x6 x7 => .ite (x7 < (q2.length : Int)) (fun h6 => .need (0 ≤ x7) fun h7 => .th h6 <| .triv (x7.toNat < q2.length) tv <| .ite ((strEq (at' q2 x7) (⟨#[108]⟩ : ByteArray)) = true) (fun h8 => .t2 h8 <| .ite (x6 = true) (fun h9 => .th h7 <| .th h6 <| .triv (x7.toNat < q2.length) tv <| .call _ (f83 k (at' q2 x7) 50) fun t3 => .th h9 <| .triv (1 = ([t3] : List Int).length) tv <| .tr q3.length <| .need ((q3.length + 1) * 8 ≤ 70368744177664) fun h10 => .triv ((q3.length + 1) ≤ 70368744177664) tv <| .tr q2.length <| .triv ((q3.length + 1) = (q3 ++ ([t3] : List Int)).length) tv <| .jump (.l7v1 q2 (q3 ++ ([t3] : List Int)) x0 x6 (IntKind.i64.wrap (x7 + 1)))) (fun h9 => .tr q2.length <| .tr q3.length <| .jump (.l7v1 q2 q3 x0 true (IntKind.i64.wrap (x7 + 1))))) (fun h8 => .t2 h8 <| .th h7 <| .th h6 <| .triv (x7.toNat < q2.length) tv <| .call _ (f83 k (at' q2 x7) 50) fun t4 => .ite (x6 = true) (fun h11 => .triv (1 = ([t4] : List Int).length) tv <| .tr q3.length <| .need ((q3.length + 1) * 8 ≤ 70368744177664) fun h12 => .triv ((q3.length + 1) ≤ 70368744177664) tv <| .tr q2.length <| .triv ((q3.length + 1) = (q3 ++ ([t4] : List Int)).length) tv <| .jump (.l7v1 q2 (q3 ++ ([t4] : List Int)) x0 x6 (IntKind.i64.wrap (x7 + 1)))) (fun h11 => .triv (1 = ([t4] : List Int).length) tv <| .tr q2.length <| .triv (1 = ([t4] : List Int).length) tv <| .tr q3.length <| .jump (.l7v2 q2 ([t4] : List Int) q3 x0 x6 (IntKind.i64.wrap (x7 + 1)))))) (fun h6 => .tr q3.length <| .call _ (f84 k ([] : List Int) q3) fun t8 => .ite ((strEq t8 x0) = true) (fun h23 => .t2 h23 <| .ite ((strEq x0 (⟨#[]⟩ : ByteArray)) = true) (fun h24 => .triv (0 = ([] : List Int).length) tv <| .triv (0 = ([] : List Int).length) tv <| .ret (false, ([] : List Int), ([] : List Int))) (fun h24 => .triv (0 = ([] : List Int).length) tv <| .tr q3.length <| .ret (true, ([] : List Int), q3))) (fun h23 => .t2 h23 <| .triv (0 = ([] : List Int).length) tv <| .triv (0 = ([] : List Int).length) tv <| .ret (false, ([] : List Int), ([] : List Int))))
  | .l7v2 q2 q3 q4 x0 x6 x7 => .ite (x7 < (q2.length : Int)) (fun h13 => .need (0 ≤ x7) fun h14 => .th h13 <| .triv (x7.toNat < q2.length) tv <| .ite ((strEq (at' q2 x7) (⟨#[108]⟩ : ByteArray)) = true) (fun h15 => .t2 h15 <| .ite (x6 = true) (fun h16 => .th h14 <| .th h13 <| .triv (x7.toNat < q2.length) tv <| .call _ (f83 k (at' q2 x7) 50) fun t5 => .th h16 <| .triv (1 = ([t5] : List Int).length) tv <| .tr q4.length <| .need ((q4.length + 1) * 8 ≤ 70368744177664) fun h17 => .triv ((q4.length + 1) ≤ 70368744177664) tv <| .tr q2.length <| .tr q3.length <| .triv ((q4.length + 1) = (q4 ++ ([t5] : List Int)).length) tv <| .jump (.l7v2 q2 q3 (q4 ++ ([t5] : List Int)) x0 x6 (IntKind.i64.wrap (x7 + 1)))) (fun h16 => .tr q2.length <| .tr q3.length <| .tr q4.length <| .jump (.l7v2 q2 q3 q4 x0 true (IntKind.i64.wrap (x7 + 1))))) (fun h15 => .t2 h15 <| .th h14 <| .th h13 <| .triv (x7.toNat < q2.length) tv <| .call _ (f83 k (at' q2 x7) 50) fun t6 => .ite (x6 = true) (fun h18 => .triv (1 = ([t6] : List Int).length) tv <| .tr q4.length <| .need ((q4.length + 1) * 8 ≤ 70368744177664) fun h19 => .triv ((q4.length + 1) ≤ 70368744177664) tv <| .tr q2.length <| .tr q3.length <| .triv ((q4.length + 1) = (q4 ++ ([t6] : List Int)).length) tv <| .jump (.l7v2 q2 q3 (q4 ++ ([t6] : List Int)) x0 x6 (IntKind.i64.wrap (x7 + 1)))) (fun h18 => .triv (1 = ([t6] : List Int).length) tv <| .tr q3.length <| .need ((q3.length + 1) * 8 ≤ 70368744177664) fun h20 => .triv ((q3.length + 1) ≤ 70368744177664) tv <| .tr q2.length <| .triv ((q3.length + 1) = (q3 ++ ([t6] : List Int)).length) tv <| .tr q4.length <| .jump (.l7v2 q2 (q3 ++ ([t6] : List Int)) q4 x0 x6 (IntKind.i64.wrap (x7 + 1)))))) (fun h13 => .tr q3.length <| .tr q4.length <| .call _ (f84 k q3 q4) fun t7 => .ite ((strEq t7 x0) = true) (fun h21 => .t2 h21 <| .ite ((strEq x0 (⟨#[]⟩ : ByteArray)) = true) (fun h22 => .triv (0 = ([] : List Int).length) tv <| .triv (0 = ([] : List Int).length) tv <| .ret (false, ([] : List Int), ([] : List Int))) (fun h22 => .tr q3.length <| .tr q4.length <| .ret (true, q3, q4))) (fun h21 => .t2 h21 <| .triv (0 = ([] : List Int).length) tv <| .triv (0 = ([] : List Int).length) tv <| .ret (false, ([] : List Int), ([] : List Int))))
  | .l7v3 q2 q3 x0 x6 x7 => .ite (x7 < (q2.length : Int)) (fun h26 => .need (0 ≤ x7) fun h27 => .th h26 <| .triv (x7.toNat < q2.length) tv <| .ite ((strEq (at' q2 x7) (⟨#[108]⟩ : ByteArray)) = true) (fun h28 => .t2 h28 <| .ite (x6 = true) (fun h29 => .th h27 <| .th h26 <| .triv (x7.toNat < q2.length) tv <| .call _ (f83 k (at' q2 x7) 50) fun t10 => .th h29 <| .triv (1 = ([t10] : List Int).length) tv <| .tr q2.length <| .tr q3.length <| .triv (1 = ([t10] : List Int).length) tv <| .jump (.l7v2 q2 q3 ([t10] : List Int) x0 x6 (IntKind.i64.wrap (x7 + 1)))) (fun h29 => .tr q2.length <| .tr q3.length <| .jump (.l7v3 q2 q3 x0 true (IntKind.i64.wrap (x7 + 1))))) (fun h28 => .t2 h28 <| .th h27 <| .th h26 <| .triv (x7.toNat < q2.length) tv <| .call _ (f83 k (at' q2 x7) 50) fun t11 => .ite (x6 = true) (fun h30 => .triv (1 = ([t11] : List Int).length) tv <| .tr q2.length <| .tr q3.length <| .triv (1 = ([t11] : List Int).length) tv <| .jump (.l7v2 q2 q3 ([t11] : List Int) x0 x6 (IntKind.i64.wrap (x7 + 1)))) (fun h30 => .triv (1 = ([t11] : List Int).length) tv <| .tr q3.length <| .need ((q3.length + 1) * 8 ≤ 70368744177664) fun h31 => .triv ((q3.length + 1) ≤ 70368744177664) tv <| .tr q2.length <| .triv ((q3.length + 1) = (q3 ++ ([t11] : List Int)).length) tv <| .jump (.l7v3 q2 (q3 ++ ([t11] : List Int)) x0 x6 (IntKind.i64.wrap (x7 + 1)))))) (fun h26 => .tr q3.length <| .call _ (f84 k q3 ([] : List Int)) fun t12 => .ite ((strEq t12 x0) = true) (fun h32 => .t2 h32 <| .ite ((strEq x0 (⟨#[]⟩ : ByteArray)) = true) (fun h33 => .triv (0 = ([] : List Int).length) tv <| .triv (0 = ([] : List Int).length) tv <| .ret (false, ([] : List Int), ([] : List Int))) (fun h33 => .tr q3.length <| .triv (0 = ([] : List Int).length) tv <| .ret (true, q3, ([] : List Int)))) (fun h32 => .t2 h32 <| .triv (0 = ([] : List Int).length) tv <| .triv (0 = ([] : List Int).length) tv <| .ret (false, ([] : List Int), ([] : List Int))))
abbrev f65.D : Nat → f65.L → Option (Bool × (List Int) × (List Int)) := PT.iter f65.blk
def f65.start (k : Nat) (a : ByteArray) : PT (Bool × (List Int) × (List Int)) f65.L := .ite (200 < (a.size : Int)) (fun h1 => .triv (0 = ([] : List Int).length) tv <| .triv (0 = ([] : List Int).length) tv <| .ret (false, ([] : List Int), ([] : List Int))) (fun h1 => .call _ (f82 k a 32) fun t1 => .tr t1.length <| .jump (.l7 t1 a false 1))
def f65 (k : Nat) (a : ByteArray) : Option (Bool × (List Int) × (List Int)) := (f65.start k a).run (f65.D k)
def f65.o : (Bool × (List Int) × (List Int)) → V El × List (O El) := fun r => (.tup [.agg [.win 0 true (.l 0) (.d 0 r.2.1.length), .win 1 true (.l 0) (.d 0 r.2.2.length)], .bb false r.1], [.row true true true 0 0 r.2.1 none, .row true true true 0 0 r.2.2 none])
abbrev sf65 (k : Nat) : List (V G.El) → List (O G.El) → Q G.El (V G.El × List (O G.El)) := fun as' os' => lT os' <| na as' argS fun a as' => lT as' <| .call _ (f65 k a) fun r => .ret (f65.o r)
def f44.start (k : Nat) (a b : Int) (c : ByteArray) : PT (Bool) Empty := .call _ (f70 k a b c) fun t1 => .ite (t1 = true) (fun h1 => .ite (b = 0) (fun h2 => .ret (strEq c (⟨#[]⟩ : ByteArray))) (fun h2 => .ite (b = 1) (fun h3 => .ret true) (fun h3 => .ite (b = 2) (fun h4 => .call _ (f65 k c) fun t2 => .ret t2.1) (fun h4 => .ret false)))) (fun h1 => .ret false)
def f44 (k : Nat) (a b : Int) (c : ByteArray) : Option (Bool) := (f44.start k a b c).run Empty.elim
def f44.o : (Bool) → V El × List (O El) := fun r => (.bb false r, [])
abbrev sf44 (k : Nat) : List (V G.El) → List (O G.El) → Q G.El (V G.El × List (O G.El)) := fun as' os' => lT os' <| na as' argA fun b' as' => nc b' (argI .i64) fun a b' => nc b' (argI .i64) fun b b' => nc b' argS fun c b' => argT b' <| lT as' <| .call _ (f44 k a b c) fun r => .ret (f44.o r)
def f55.start (k : Nat) (a b : List Int) : PT ((List Int) × (List Int)) Empty := .triv (0 = ([] : List Int).length) tv <| .need (a.length * 8 ≤ 70368744177664) fun h1 => .triv (a.length ≤ 70368744177664) tv <| .triv (0 = ([] : List Int).length) tv <| .need (b.length * 8 ≤ 70368744177664) fun h2 => .triv (b.length ≤ 70368744177664) tv <| .tr a.length <| .tr b.length <| .ret (a, b)
def f55 (k : Nat) (a b : List Int) : Option ((List Int) × (List Int)) := (f55.start k a b).run Empty.elim
def f55.o : ((List Int) × (List Int)) → V El × List (O El) := fun r => (.agg [.win 0 true (.l 0) (.d 0 r.1.length), .win 1 true (.l 0) (.d 0 r.2.length)], [.row true true true 0 0 r.1 none, .row true true true 0 0 r.2 none])
abbrev sf55 (k : Nat) : List (V G.El) → List (O G.El) → Q G.El (V G.El × List (O G.El)) := fun as' os' => lT os' <| na as' argA fun b' as' => nc b' (argL 0) fun a b' => nc b' (argL 0) fun b b' => argT b' <| lT as' <| .call _ (f55 k a b) fun r => .ret (f55.o r)
inductive f62.L where
  | l2 (x3 : Int) (b0_0 : Int) (b0_1 : Int) (b0_2 : Int) (b0_3 : Int) (b0_4 : Int) (b0_5 : List Int) (b0_6 : List Int) (b0_7 : ByteArray) (b0_8 : List S40) (b0_9 : Int) (b0_10 : Int) (b0_11 : Int) (b0_12 : List Int) (b0_13 : List S90)
def f62.st : f62.L → Nat × S El
  | .l2 x3 b0_0 b0_1 b0_2 b0_3 b0_4 b0_5 b0_6 b0_7 b0_8 b0_9 b0_10 b0_11 b0_12 b0_13 => (2, ⟨35, .dead, [(1, .ptr 0 (.l 0) 0), (2, .ptr 1 (.l 0) 0), (3, .id .i64 4 x3)], [(0, .box true true 0 14 true [.id .i64 50000 b0_0, .id .i64 50001 b0_1, .id .i64 50002 b0_2, .id .i64 50003 b0_3, .id .i64 50004 b0_4, .sl 0 b0_5 [], .sl 0 b0_6 [], .s b0_7, .sl 3 b0_8 [], .id .i64 50009 b0_9, .id .i64 50010 b0_10, .id .i64 50011 b0_11, .sl 0 b0_12 [], .sl 4 b0_13 []]), (1, .box true true 0 2 true [.nil, .nil])], 2, 0⟩)
def f62.blk (k : Nat) : f62.L → PT ((List Int) × (List Int)) f62.L
  | .l2 x3 b0_0 b0_1 b0_2 b0_3 b0_4 b0_5 b0_6 b0_7 b0_8 b0_9 b0_10 b0_11 b0_12 b0_13 => .ite (0 ≤ x3) (fun h1 => .th h1 <| .need (x3 < (b0_8.length : Int)) fun h2 => .ite ((at' b0_8 x3).f1 = 2) (fun h3 => .th h1 <| .th h2 <| .call _ (f65 k ((at' b0_8 x3).f2)) fun t1 => .tr t1.2.1.length <| .tr t1.2.2.length <| .ret (t1.2.1, t1.2.2)) (fun h3 => .jump (.l2 (IntKind.i64.wrap (x3 - 1)) b0_0 b0_1 b0_2 b0_3 b0_4 b0_5 b0_6 b0_7 b0_8 b0_9 b0_10 b0_11 b0_12 b0_13))) (fun h1 => .call _ (f55 k b0_5 b0_6) fun t2 => .tr t2.1.length <| .tr t2.2.length <| .ret (t2.1, t2.2))
abbrev f62.D : Nat → f62.L → Option ((List Int) × (List Int)) := PT.iter f62.blk
def f62.start (k : Nat) (a b c d e : Int) (g i : List Int) (j : ByteArray) (l : List S40) (m n p : Int) (u : List Int) (v : List S90) : PT ((List Int) × (List Int)) f62.L := .jump (.l2 (IntKind.i64.wrap ((l.length : Int) - 1)) a b c d e g i j l m n p u v)
def f62 (k : Nat) (a b c d e : Int) (g i : List Int) (j : ByteArray) (l : List S40) (m n p : Int) (u : List Int) (v : List S90) : Option ((List Int) × (List Int)) := (f62.start k a b c d e g i j l m n p u v).run (f62.D k)
def f62.o : ((List Int) × (List Int)) → V El × List (O El) := fun r => (.agg [.win 0 true (.l 0) (.d 0 r.1.length), .win 1 true (.l 0) (.d 0 r.2.length)], [.row true true true 0 0 r.1 none, .row true true true 0 0 r.2 none])
abbrev sf62 (k : Nat) : List (V G.El) → List (O G.El) → Q G.El (V G.El × List (O G.El)) := fun as' os' => lT os' <| na as' argA fun b' as' => nc b' (argI .i64) fun a b' => nc b' (argI .i64) fun b b' => nc b' (argI .i64) fun c b' => nc b' (argI .i64) fun d b' => nc b' (argI .i64) fun e b' => nc b' (argL 0) fun g b' => nc b' (argL 0) fun i b' => nc b' argS fun j b' => nc b' (argL 3) fun l b' => nc b' (argI .i64) fun m b' => nc b' (argI .i64) fun n b' => nc b' (argI .i64) fun p b' => nc b' (argL 0) fun u b' => nc b' (argL 4) fun v b' => argT b' <| lT as' <| .call _ (f62 k a b c d e g i j l m n p u v) fun r => .ret (f62.o r)
inductive f85.L where
  | l3 (q1 : List Int) (x1 : Int) (x6 : Int) (b0_0 : List Int) (b0_1 : List Int)
def f85.st : f85.L → Nat × S El
  | .l3 q1 x1 x6 b0_0 b0_1 => (3, ⟨32, .dead, [(1, .id .i64 2 x1), (2, .ptr 0 (.l 0) 0), (5, .win 1 true (.l 0) (.d 0 q1.length)), (6, .id .i64 7 x6)], [(0, .box true true 0 2 true [.sl 0 b0_0 [], .sl 0 b0_1 []]), (1, .row true true true 0 0 q1 none)], 2, 0⟩)
def f85.hint : f85.L → H
  | .l3 .. => (.both (.both (.l (.l (.l (.l (.l (.l .all)))))) (.r (.r (.r (.skip (.r (.both (.l (.l (.l (.r (.l (.r .all)))))) (.r (.r (.r (.skip (.r (.r (.r .all)))))))))))))) .all)
def f85.blk (k : Nat) : f85.L → PT ((List Int)) f85.L
  | .l3 q1 x1 x6 b0_0 b0_1 => .ite (x6 ≤ 50) (fun h1 => .ite (x6 = x1) (fun h2 => .t6 h2 <| .tr q1.length <| .jump (.l3 q1 x1 (IntKind.i64.wrap (x6 + 1)) b0_0 b0_1)) (fun h2 => .t3 h2 <| .call _ (f69 k b0_0 x6) fun t1 => .th h2 <| .ite (t1 = true) (fun h3 => .t3 h3 <| .th h2 <| .th h3 <| .th h2 <| .triv (1 = ([x6] : List Int).length) tv <| .tr q1.length <| .need ((q1.length + 1) * 8 ≤ 70368744177664) fun h4 => .triv ((q1.length + 1) ≤ 70368744177664) tv <| .triv ((q1.length + 1) = (q1 ++ ([x6] : List Int)).length) tv <| .jump (.l3 (q1 ++ ([x6] : List Int)) x1 (IntKind.i64.wrap (x6 + 1)) b0_0 b0_1)) (fun h3 => .t3 h3 <| .call _ (f69 k b0_1 x6) fun t2 => .th h2 <| .th h3 <| .th h2 <| .ite (t2 = true) (fun h5 => .triv (1 = ([x6] : List Int).length) tv <| .tr q1.length <| .need ((q1.length + 1) * 8 ≤ 70368744177664) fun h6 => .triv ((q1.length + 1) ≤ 70368744177664) tv <| .triv ((q1.length + 1) = (q1 ++ ([x6] : List Int)).length) tv <| .jump (.l3 (q1 ++ ([x6] : List Int)) x1 (IntKind.i64.wrap (x6 + 1)) b0_0 b0_1)) (fun h5 => .tr q1.length <| .jump (.l3 q1 x1 (IntKind.i64.wrap (x6 + 1)) b0_0 b0_1))))) (fun h1 => .tr q1.length <| .ret q1)
abbrev f85.D : Nat → f85.L → Option ((List Int)) := PT.iter f85.blk
def f85.start (k : Nat) (a b : List Int) (c : Int) : PT ((List Int)) f85.L := .triv (0 = ([] : List Int).length) tv <| .jump (.l3 ([] : List Int) c 1 a b)
def f85 (k : Nat) (a b : List Int) (c : Int) : Option ((List Int)) := (f85.start k a b c).run (f85.D k)
def f85.o : ((List Int)) → V El × List (O El) := fun r => (.win 0 true (.l 0) (.d 0 r.length), [.row true true true 0 0 r none])
abbrev sf85 (k : Nat) : List (V G.El) → List (O G.El) → Q G.El (V G.El × List (O G.El)) := fun as' os' => lT os' <| na as' argA fun b' as' => nc b' (argL 0) fun a b' => nc b' (argL 0) fun b b' => argT b' <| na as' (argI .i64) fun c as' => lT as' <| .call _ (f85 k a b c) fun r => .ret (f85.o r)
inductive f71.L where
  | l5 (q1 : List Int) (x4 : Int) (b0_0 : Int) (b0_1 : Int) (b0_2 : Int) (b0_3 : Int) (b0_4 : Int) (b0_5 : List Int) (b0_6 : List Int) (b0_7 : ByteArray) (b0_8 : List S40) (b0_9 : Int) (b0_10 : Int) (b0_11 : Int) (b0_12 : List Int) (b0_13 : List S90)
def f71.st : f71.L → Nat × S El
  | .l5 q1 x4 b0_0 b0_1 b0_2 b0_3 b0_4 b0_5 b0_6 b0_7 b0_8 b0_9 b0_10 b0_11 b0_12 b0_13 => (5, ⟨53, .dead, [(1, .ptr 0 (.l 0) 0), (3, .win 1 true (.l 0) (.d 0 q1.length)), (4, .id .i64 5 x4)], [(0, .box true true 0 14 true [.id .i64 50000 b0_0, .id .i64 50001 b0_1, .id .i64 50002 b0_2, .id .i64 50003 b0_3, .id .i64 50004 b0_4, .sl 0 b0_5 [], .sl 0 b0_6 [], .s b0_7, .sl 3 b0_8 [], .id .i64 50009 b0_9, .id .i64 50010 b0_10, .id .i64 50011 b0_11, .sl 0 b0_12 [], .sl 4 b0_13 []]), (1, .row true true true 0 0 q1 none)], 2, 0⟩)
def f71.hint : f71.L → H
  | .l5 .. => (.both (.both (.l (.l (.l (.skip (.l (.l (.skip (.l (.l (.both (.l (.l (.l (.l (.l (.skip (.l (.l .all)))))))) (.r (.r (.r (.r (.r (.r (.r .all))))))))))))))))) (.r (.r (.r (.r (.r (.r (.r .all)))))))) .all)
def f71.blk (k : Nat) : f71.L → PT (Bool) f71.L
  | .l5 q1 x4 b0_0 b0_1 b0_2 b0_3 b0_4 b0_5 b0_6 b0_7 b0_8 b0_9 b0_10 b0_11 b0_12 b0_13 => .ite (x4 < (q1.length : Int)) (fun h2 => .need (0 ≤ x4) fun h3 => .need (x4 < (b0_13.length : Int)) fun h4 => .th h3 <| .th h2 <| .triv (x4.toNat < q1.length) tv <| .ite ((at' b0_13 x4).f0 = (at' q1 x4)) (fun h5 => .t3 h5 <| .call _ (f43 k b0_0 b0_1 b0_2 b0_3 b0_4 b0_5 b0_6 b0_7 b0_8 b0_9 b0_10 b0_11 b0_12 b0_13) fun t3 => .t2 h5 <| .call _ (f41 k ((at' b0_13 x4).f1) 1 (IntKind.i64.wrap (t3 + 1))) fun t4 => .t2 h5 <| .ite (t4 = true) (fun h6 => .t5 h6 <| .call _ (f41 k ((at' b0_13 x4).f2) 0 (IntKind.i64.wrap ((at' b0_13 x4).f1 - 1))) fun t5 => .t2 h6 <| .ite (t5 = true) (fun h7 => .tr q1.length <| .jump (.l5 q1 (IntKind.i64.wrap (x4 + 1)) b0_0 b0_1 b0_2 b0_3 b0_4 b0_5 b0_6 b0_7 b0_8 b0_9 b0_10 b0_11 b0_12 b0_13)) (fun h7 => .ret false)) (fun h6 => .t7 h6 <| .ret false)) (fun h5 => .t7 h5 <| .ret false)) (fun h2 => .ret true)
abbrev f71.D : Nat → f71.L → Option (Bool) := PT.iter f71.blk
def f71.start (k : Nat) (a b c d e : Int) (g i : List Int) (j : ByteArray) (l : List S40) (m n p : Int) (u : List Int) (v : List S90) : PT (Bool) f71.L := .call _ (f62 k a b c d e g i j l m n p u v) fun t1 => .tr t1.1.length <| .tr t1.2.length <| .call _ (f85 k t1.1 t1.2 a) fun t2 => .ite ((t2.length : Int) = (v.length : Int)) (fun h1 => .tr t2.length <| .jump (.l5 t2 0 a b c d e g i j l m n p u v)) (fun h1 => .ret false)
def f71 (k : Nat) (a b c d e : Int) (g i : List Int) (j : ByteArray) (l : List S40) (m n p : Int) (u : List Int) (v : List S90) : Option (Bool) := (f71.start k a b c d e g i j l m n p u v).run (f71.D k)
def f71.o : (Bool) → V El × List (O El) := fun r => (.bb false r, [])
abbrev sf71 (k : Nat) : List (V G.El) → List (O G.El) → Q G.El (V G.El × List (O G.El)) := fun as' os' => lT os' <| na as' argA fun b' as' => nc b' (argI .i64) fun a b' => nc b' (argI .i64) fun b b' => nc b' (argI .i64) fun c b' => nc b' (argI .i64) fun d b' => nc b' (argI .i64) fun e b' => nc b' (argL 0) fun g b' => nc b' (argL 0) fun i b' => nc b' argS fun j b' => nc b' (argL 3) fun l b' => nc b' (argI .i64) fun m b' => nc b' (argI .i64) fun n b' => nc b' (argI .i64) fun p b' => nc b' (argL 0) fun u b' => nc b' (argL 4) fun v b' => argT b' <| lT as' <| .call _ (f71 k a b c d e g i j l m n p u v) fun r => .ret (f71.o r)
def f45.start (k : Nat) (a b c d e : Int) (g i : List Int) (j : ByteArray) (l : List S40) (m n p : Int) (u : List Int) (v : List S90) : PT (Bool) Empty := .call _ (f68 k u 50) fun t1 => .ite (t1 = true) (fun h1 => .ite (n = 0) (fun h2 => .ite ((u.length : Int) = 0) (fun h3 => .t4 h3 <| .ite ((v.length : Int) = 0) (fun h4 => .t5 h4 <| .ret (!decide (p = a))) (fun h4 => .t5 h4 <| .ret false)) (fun h3 => .t4 h3 <| .ret false)) (fun h2 => .ite (n = 1) (fun h5 => .ite (0 < b) (fun h6 => .t4 h6 <| .ite ((v.length : Int) = 0) (fun h7 => .t5 h7 <| .ite (c = a) (fun h8 => .t5 h8 <| .ret (!decide (p = a))) (fun h8 => .t5 h8 <| .ret false)) (fun h7 => .t5 h7 <| .ret false)) (fun h6 => .t4 h6 <| .ret false)) (fun h5 => .ite (n = 2) (fun h9 => .ite (0 < b) (fun h10 => .t4 h10 <| .ite ((u.length : Int) = 0) (fun h11 => .t5 h11 <| .ite (c = a) (fun h12 => .t5 h12 <| .ite (p = a) (fun h13 => .th h13 <| .call _ (f71 k a b c d e g i j l m n p u v) fun t2 => .th h13 <| .ret t2) (fun h13 => .t2 h13 <| .ret false)) (fun h12 => .t5 h12 <| .ret false)) (fun h11 => .t5 h11 <| .ret false)) (fun h10 => .t4 h10 <| .ret false)) (fun h9 => .ret false)))) (fun h1 => .ret false)
def f45 (k : Nat) (a b c d e : Int) (g i : List Int) (j : ByteArray) (l : List S40) (m n p : Int) (u : List Int) (v : List S90) : Option (Bool) := (f45.start k a b c d e g i j l m n p u v).run Empty.elim
def f45.o : (Bool) → V El × List (O El) := fun r => (.bb false r, [])
abbrev sf45 (k : Nat) : List (V G.El) → List (O G.El) → Q G.El (V G.El × List (O G.El)) := fun as' os' => lT os' <| na as' argA fun b' as' => nc b' (argI .i64) fun a b' => nc b' (argI .i64) fun b b' => nc b' (argI .i64) fun c b' => nc b' (argI .i64) fun d b' => nc b' (argI .i64) fun e b' => nc b' (argL 0) fun g b' => nc b' (argL 0) fun i b' => nc b' argS fun j b' => nc b' (argL 3) fun l b' => nc b' (argI .i64) fun m b' => nc b' (argI .i64) fun n b' => nc b' (argI .i64) fun p b' => nc b' (argL 0) fun u b' => nc b' (argL 4) fun v b' => argT b' <| lT as' <| .call _ (f45 k a b c d e g i j l m n p u v) fun r => .ret (f45.o r)
inductive f11.L where
  | l7 (x3 : Int) (x4 : Int) (b0_0 : Int) (b0_1 : Int) (b0_2 : Int) (b0_3 : Int) (b0_4 : Int) (b0_5 : List Int) (b0_6 : List Int) (b0_7 : ByteArray) (b0_8 : List S40) (b0_9 : Int) (b0_10 : Int) (b0_11 : Int) (b0_12 : List Int) (b0_13 : List S90)
def f11.st : f11.L → Nat × S El
  | .l7 x3 x4 b0_0 b0_1 b0_2 b0_3 b0_4 b0_5 b0_6 b0_7 b0_8 b0_9 b0_10 b0_11 b0_12 b0_13 => (7, ⟨104, .dead, [(1, .ptr 0 (.l 0) 0), (3, .id .i64 4 x3), (4, .id .i64 5 x4)], [(0, .box true true 0 14 true [.id .i64 50000 b0_0, .id .i64 50001 b0_1, .id .i64 50002 b0_2, .id .i64 50003 b0_3, .id .i64 50004 b0_4, .sl 0 b0_5 [], .sl 0 b0_6 [], .s b0_7, .sl 3 b0_8 [], .id .i64 50009 b0_9, .id .i64 50010 b0_10, .id .i64 50011 b0_11, .sl 0 b0_12 [], .sl 4 b0_13 []])], 1, 0⟩)
def f11.hint : f11.L → H
  | .l7 .. => (.both (.skip (.both (.l (.l (.l (.l (.l (.l (.l (.l (.l (.skip (.l (.l .all)))))))))))) (.r (.r (.r (.r (.r (.r (.r (.r (.r (.r (.r .all))))))))))))) .all)
def f11.blk (k : Nat) : f11.L → PT (Bool) f11.L
  | .l7 x3 x4 b0_0 b0_1 b0_2 b0_3 b0_4 b0_5 b0_6 b0_7 b0_8 b0_9 b0_10 b0_11 b0_12 b0_13 => .ite (x4 < (b0_8.length : Int)) (fun h11 => .need (0 ≤ x4) fun h12 => .th h11 <| .call _ (f44 k ((at' b0_8 x4).f0) ((at' b0_8 x4).f1) ((at' b0_8 x4).f2)) fun t10 => .ite (t10 = true) (fun h13 => .t3 h13 <| .th h12 <| .th h11 <| .t6 h13 <| .call _ (f41 k ((at' b0_8 x4).f0) x3 b0_1) fun t11 => .t2 h13 <| .ite (t11 = true) (fun h14 => .th h12 <| .th h11 <| .jump (.l7 ((at' b0_8 x4).f0) (IntKind.i64.wrap (x4 + 1)) b0_0 b0_1 b0_2 b0_3 b0_4 b0_5 b0_6 b0_7 b0_8 b0_9 b0_10 b0_11 b0_12 b0_13)) (fun h14 => .ret false)) (fun h13 => .t11 h13 <| .ret false)) (fun h11 => .call _ (f45 k b0_0 b0_1 b0_2 b0_3 b0_4 b0_5 b0_6 b0_7 b0_8 b0_9 b0_10 b0_11 b0_12 b0_13) fun t12 => .ret t12)
abbrev f11.D : Nat → f11.L → Option (Bool) := PT.iter f11.blk
def f11.start (k : Nat) (a b c d e : Int) (g i : List Int) (j : ByteArray) (l : List S40) (m n p : Int) (u : List Int) (v : List S90) : PT (Bool) f11.L := .call _ (f41 k a 1 50) fun t1 => .ite (t1 = true) (fun h1 => .t2 h1 <| .call _ (f41 k b 0 1000000000000) fun t2 => .t2 h1 <| .ite (t2 = true) (fun h2 => .t2 h2 <| .call _ (f41 k c 0 1000000000000) fun t3 => .t2 h2 <| .ite (t3 = true) (fun h3 => .t2 h3 <| .call _ (f41 k p 0 1000000000000) fun t4 => .t2 h3 <| .ite (t4 = true) (fun h4 => .t2 h4 <| .call _ (f41 k d 0 999999999500) fun t5 => .t2 h4 <| .ite (t5 = true) (fun h5 => .t4 h5 <| .call _ (f41 k e 0 b) fun t6 => .t2 h5 <| .ite (t6 = true) (fun h6 => .call _ (f42 k g i) fun t7 => .ite (t7 = true) (fun h7 => .t4 h7 <| .ite (20000 < (j.size : Int)) (fun h8 => .t4 h8 <| .ret false) (fun h8 => .t4 h8 <| .ite (500 < (l.length : Int)) (fun h9 => .t8 h9 <| .ret false) (fun h9 => .t5 h9 <| .call _ (f43 k a b c d e g i j l m n p u v) fun t8 => .th h9 <| .call _ (f41 k m d t8) fun t9 => .t2 h9 <| .ite (t9 = true) (fun h10 => .jump (.l7 e 0 a b c d e g i j l m n p u v)) (fun h10 => .ret false)))) (fun h7 => .t4 h7 <| .ret false)) (fun h6 => .ret false)) (fun h5 => .t6 h5 <| .ret false)) (fun h4 => .t4 h4 <| .ret false)) (fun h3 => .t4 h3 <| .ret false)) (fun h2 => .t4 h2 <| .ret false)) (fun h1 => .t4 h1 <| .ret false)
def f11 (k : Nat) (a b c d e : Int) (g i : List Int) (j : ByteArray) (l : List S40) (m n p : Int) (u : List Int) (v : List S90) : Option (Bool) := (f11.start k a b c d e g i j l m n p u v).run (f11.D k)
def f11.o : (Bool) → V El × List (O El) := fun r => (.bb false r, [])
abbrev sf11 (k : Nat) : List (V G.El) → List (O G.El) → Q G.El (V G.El × List (O G.El)) := fun as' os' => lT os' <| na as' argA fun b' as' => nc b' (argI .i64) fun a b' => nc b' (argI .i64) fun b b' => nc b' (argI .i64) fun c b' => nc b' (argI .i64) fun d b' => nc b' (argI .i64) fun e b' => nc b' (argL 0) fun g b' => nc b' (argL 0) fun i b' => nc b' argS fun j b' => nc b' (argL 3) fun l b' => nc b' (argI .i64) fun m b' => nc b' (argI .i64) fun n b' => nc b' (argI .i64) fun p b' => nc b' (argL 0) fun u b' => nc b' (argL 4) fun v b' => argT b' <| lT as' <| .call _ (f11 k a b c d e g i j l m n p u v) fun r => .ret (f11.o r)
def f76.start (k : Nat) (a b c : Int) : PT (Bool) Empty := .ite (b ≤ a) (fun h1 => .t3 h1 <| .ret (decide (a ≤ c))) (fun h1 => .t3 h1 <| .ret false)
def f76 (k : Nat) (a b c : Int) : Option (Bool) := (f76.start k a b c).run Empty.elim
def f76.o : (Bool) → V El × List (O El) := fun r => (.bb false r, [])
abbrev sf76 (k : Nat) : List (V G.El) → List (O G.El) → Q G.El (V G.El × List (O G.El)) := fun as' os' => lT os' <| na as' (argI .i64) fun a as' => na as' (argI .i64) fun b as' => na as' (argI .i64) fun c as' => lT as' <| .call _ (f76 k a b c) fun r => .ret (f76.o r)
def f74.start (k : Nat) (a : Int) : PT (Bool) Empty := .call _ (f76 k a 1 50) fun t1 => .ret t1
def f74 (k : Nat) (a : Int) : Option (Bool) := (f74.start k a).run Empty.elim
def f74.o : (Bool) → V El × List (O El) := fun r => (.bb false r, [])
abbrev sf74 (k : Nat) : List (V G.El) → List (O G.El) → Q G.El (V G.El × List (O G.El)) := fun as' os' => lT os' <| na as' (argI .i64) fun a as' => lT as' <| .call _ (f74 k a) fun r => .ret (f74.o r)
def f75.start (k : Nat) (a : Int) : PT (Bool) Empty := .call _ (f76 k a 0 1000000000000) fun t1 => .ret t1
def f75 (k : Nat) (a : Int) : Option (Bool) := (f75.start k a).run Empty.elim
def f75.o : (Bool) → V El × List (O El) := fun r => (.bb false r, [])
abbrev sf75 (k : Nat) : List (V G.El) → List (O G.El) → Q G.El (V G.El × List (O G.El)) := fun as' os' => lT os' <| na as' (argI .i64) fun a as' => lT as' <| .call _ (f75 k a) fun r => .ret (f75.o r)
inductive f86.L where
  | l2 (x0 : List Int) (x5 : List Int) (x6 : Int) (x7 : Int)
def f86.st : f86.L → Nat × S El
  | .l2 x0 x5 x6 x7 => (2, ⟨32, .dead, [(0, .sl 0 x0 []), (5, .sl 0 x5 []), (6, .id .i64 7 x6), (7, .id .i64 8 x7)], [], 0, 0⟩)
def f86.hint : f86.L → H
  | .l2 .. => (.both (.skip (.both (.l (.l (.both (.l (.l (.l (.l (.l (.l (.l (.l (.l .all))))))))) (.r (.r (.r (.r (.r (.r (.l (.r (.l .all)))))))))))) (.r (.r (.r (.r .all)))))) .all)
def f86.blk (k : Nat) : f86.L → PT (Bool) f86.L
  | .l2 x0 x5 x6 x7 => .ite (x7 < x6) (fun h1 => .need (0 ≤ x7) fun h2 => .need (x7 < (x5.length : Int)) fun h3 => .call _ (f74 k (at' x5 x7)) fun t1 => .ite (t1 = true) (fun h4 => .t2 h4 <| .ite (0 < x7) (fun h5 => .t3 h5 <| .need (0 ≤ (IntKind.i64.wrap (x7 - 1))) fun h6 => .need ((IntKind.i64.wrap (x7 - 1)) < (x0.length : Int)) fun h7 => .t3 h5 <| .th h4 <| .th h5 <| .th h4 <| .ite ((at' x5 x7) ≤ (at' x0 (IntKind.i64.wrap (x7 - 1)))) (fun h8 => .ret false) (fun h8 => .jump (.l2 x0 x5 x6 (IntKind.i64.wrap (x7 + 1))))) (fun h5 => .t6 h5 <| .th h4 <| .th h5 <| .th h4 <| .jump (.l2 x0 x5 x6 (IntKind.i64.wrap (x7 + 1))))) (fun h4 => .t4 h4 <| .ret false)) (fun h1 => .ret (decide ((x0.length : Int) ≤ 7)))
abbrev f86.D : Nat → f86.L → Option (Bool) := PT.iter f86.blk
def f86.start (k : Nat) (a : List Int) : PT (Bool) f86.L := .jump (.l2 a a (a.length : Int) 0)
def f86 (k : Nat) (a : List Int) : Option (Bool) := (f86.start k a).run (f86.D k)
def f86.o : (Bool) → V El × List (O El) := fun r => (.bb false r, [])
abbrev sf86 (k : Nat) : List (V G.El) → List (O G.El) → Q G.El (V G.El × List (O G.El)) := fun as' os' => lT os' <| na as' (argL 0) fun a as' => lT as' <| .call _ (f86 k a) fun r => .ret (f86.o r)
inductive f98.L where
  | l2 (x0 : List Int) (x1 : Int) (x7 : Int) (x8 : Int)
def f98.st : f98.L → Nat × S El
  | .l2 x0 x1 x7 x8 => (2, ⟨19, .dead, [(0, .sl 0 x0 []), (1, .id .i64 2 x1), (7, .id .i64 8 x7), (8, .id .i64 9 x8)], [], 0, 0⟩)
def f98.blk (k : Nat) : f98.L → PT (Int) f98.L
  | .l2 x0 x1 x7 x8 => .ite (x8 < x7) (fun h1 => .need (0 ≤ x8) fun h2 => .need (x8 < (x0.length : Int)) fun h3 => .ite (x1 = (at' x0 x8)) (fun h4 => .ret x8) (fun h4 => .jump (.l2 x0 x1 x7 (IntKind.i64.wrap (x8 + 1))))) (fun h1 => .ret (-1))
abbrev f98.D : Nat → f98.L → Option (Int) := PT.iter f98.blk
def f98.start (k : Nat) (a : List Int) (b : Int) : PT (Int) f98.L := .jump (.l2 a b (a.length : Int) 0)
def f98 (k : Nat) (a : List Int) (b : Int) : Option (Int) := (f98.start k a b).run (f98.D k)
def f98.o : (Int) → V El × List (O El) := fun r => (.id .i64 0 r, [])
abbrev sf98 (k : Nat) : List (V G.El) → List (O G.El) → Q G.El (V G.El × List (O G.El)) := fun as' os' => lT os' <| na as' (argL 0) fun a as' => na as' (argI .i64) fun b as' => lT as' <| .call _ (f98 k a b) fun r => .ret (f98.o r)
def f89.start (k : Nat) (a : List Int) (b : Int) : PT (Bool) Empty := .call _ (f98 k a b) fun t1 => .ret (decide (0 ≤ t1))
def f89 (k : Nat) (a : List Int) (b : Int) : Option (Bool) := (f89.start k a b).run Empty.elim
def f89.o : (Bool) → V El × List (O El) := fun r => (.bb false r, [])
abbrev sf89 (k : Nat) : List (V G.El) → List (O G.El) → Q G.El (V G.El × List (O G.El)) := fun as' os' => lT os' <| na as' (argL 0) fun a as' => na as' (argI .i64) fun b as' => lT as' <| .call _ (f89 k a b) fun r => .ret (f89.o r)
def f88.start (k : Nat) (a : Int) (o0_0 o0_1 : List Int) : PT (Bool) Empty := .call _ (f89 k o0_0 a) fun t1 => .ret t1
def f88 (k : Nat) (a : Int) (o0_0 o0_1 : List Int) : Option (Bool) := (f88.start k a o0_0 o0_1).run Empty.elim
def f88.o (o0_0 o0_1 : List Int) : (Bool) → V El × List (O El) := fun r => (.bb false r, [.box true true 0 2 true [.sl 0 o0_0 [], .sl 0 o0_1 []]])
abbrev sf88 (k : Nat) : List (V G.El) → List (O G.El) → Q G.El (V G.El × List (O G.El)) := fun as' os' => lH os' fun x0' os' => lT os' <| argX 2 true x0' fun b' => nc b' (argL 0) fun o0_0 b' => nc b' (argL 0) fun o0_1 b' => argT b' <| na as' (argI .i64) fun a as' => na0 as' (argV 0 0) fun as' => lT as' <| .call _ (f88 k a o0_0 o0_1) fun r => .ret (f88.o o0_0 o0_1 r)
inductive f97.L where
  | l2 (x0 : List Int) (x7 : Int) (x8 : Int) (b0_0 : List Int) (b0_1 : List Int)
def f97.st : f97.L → Nat × S El
  | .l2 x0 x7 x8 b0_0 b0_1 => (2, ⟨19, .dead, [(0, .sl 0 x0 []), (1, .fn 88 [.ptr 0 (.l 0) 0]), (7, .id .i64 8 x7), (8, .id .i64 9 x8)], [(0, .box true true 0 2 true [.sl 0 b0_0 [], .sl 0 b0_1 []])], 1, 1⟩)
def f97.blk (k : Nat) : f97.L → PT (Int × (List Int) × (List Int)) f97.L
  | .l2 x0 x7 x8 b0_0 b0_1 => .ite (x8 < x7) (fun h1 => .need (0 ≤ x8) fun h2 => .need (x8 < (x0.length : Int)) fun h3 => .call _ (f88 k (at' x0 x8) b0_0 b0_1) fun t1 => .ite (t1 = true) (fun h4 => .ret (x8, b0_0, b0_1)) (fun h4 => .jump (.l2 x0 x7 (IntKind.i64.wrap (x8 + 1)) b0_0 b0_1))) (fun h1 => .ret ((-1), b0_0, b0_1))
abbrev f97.D : Nat → f97.L → Option (Int × (List Int) × (List Int)) := PT.iter f97.blk
def f97.start (k : Nat) (a o0_0 o0_1 : List Int) : PT (Int × (List Int) × (List Int)) f97.L := .jump (.l2 a (a.length : Int) 0 o0_0 o0_1)
def f97 (k : Nat) (a o0_0 o0_1 : List Int) : Option (Int × (List Int) × (List Int)) := (f97.start k a o0_0 o0_1).run (f97.D k)
def f97.o : (Int × (List Int) × (List Int)) → V El × List (O El) := fun r => (.id .i64 0 r.1, [.box true true 0 2 true [.sl 0 r.2.1 [], .sl 0 r.2.2 []]])
abbrev sf97 (k : Nat) : List (V G.El) → List (O G.El) → Q G.El (V G.El × List (O G.El)) := fun as' os' => lH os' fun x0' os' => lT os' <| argX 2 true x0' fun b' => nc b' (argL 0) fun o0_0 b' => nc b' (argL 0) fun o0_1 b' => argT b' <| na as' (argL 0) fun a as' => lH as' fun y' as' => argF 88 y' fun c' => argPH c' fun y' c' => argV 0 0 y' <| argT c' <| lT as' <| .call _ (f97 k a o0_0 o0_1) fun r => .ret (f97.o r)
def f87.start (k : Nat) (a o0_0 o0_1 : List Int) : PT (Bool × (List Int) × (List Int)) Empty := .call _ (f97 k a o0_0 o0_1) fun t1 => .ret ((decide (0 ≤ t1.1)), t1.2.1, t1.2.2)
def f87 (k : Nat) (a o0_0 o0_1 : List Int) : Option (Bool × (List Int) × (List Int)) := (f87.start k a o0_0 o0_1).run Empty.elim
def f87.o : (Bool × (List Int) × (List Int)) → V El × List (O El) := fun r => (.bb false r.1, [.box true true 0 2 true [.sl 0 r.2.1 [], .sl 0 r.2.2 []]])
abbrev sf87 (k : Nat) : List (V G.El) → List (O G.El) → Q G.El (V G.El × List (O G.El)) := fun as' os' => lH os' fun x0' os' => lT os' <| argX 2 true x0' fun b' => nc b' (argL 0) fun o0_0 b' => nc b' (argL 0) fun o0_1 b' => argT b' <| na as' (argL 0) fun a as' => lH as' fun y' as' => argF 88 y' fun c' => argPH c' fun y' c' => argV 0 0 y' <| argT c' <| lT as' <| .call _ (f87 k a o0_0 o0_1) fun r => .ret (f87.o r)
def f77.start (k : Nat) (a b : List Int) : PT (Bool) Empty := .ite (0 < (a.length : Int)) (fun h1 => .t2 h1 <| .call _ (f86 k a) fun t1 => .th h1 <| .ite (t1 = true) (fun h2 => .t2 h2 <| .call _ (f86 k b) fun t2 => .th h2 <| .ite (t2 = true) (fun h3 => .t3 h3 <| .call _ (f87 k b a b) fun t3 => .t2 h3 <| .ret (!t3.1)) (fun h3 => .t5 h3 <| .ret false)) (fun h2 => .t3 h2 <| .ret false)) (fun h1 => .t3 h1 <| .ret false)
def f77 (k : Nat) (a b : List Int) : Option (Bool) := (f77.start k a b).run Empty.elim
def f77.o : (Bool) → V El × List (O El) := fun r => (.bb false r, [])
abbrev sf77 (k : Nat) : List (V G.El) → List (O G.El) → Q G.El (V G.El × List (O G.El)) := fun as' os' => lT os' <| na as' argA fun b' as' => nc b' (argL 0) fun a b' => nc b' (argL 0) fun b b' => argT b' <| lT as' <| .call _ (f77 k a b) fun r => .ret (f77.o r)
def f90.start (k : Nat) (a b : Int) (c : ByteArray) : PT (Bool) Empty := .call _ (f76 k a 1 1000000000000) fun t1 => .ite (t1 = true) (fun h1 => .t2 h1 <| .call _ (f76 k b 0 9) fun t2 => .th h1 <| .ite (t2 = true) (fun h2 => .t4 h2 <| .ret (decide ((c.size : Int) ≤ 4000))) (fun h2 => .t4 h2 <| .ret false)) (fun h1 => .t3 h1 <| .ret false)
def f90 (k : Nat) (a b : Int) (c : ByteArray) : Option (Bool) := (f90.start k a b c).run Empty.elim
def f90.o : (Bool) → V El × List (O El) := fun r => (.bb false r, [])
abbrev sf90 (k : Nat) : List (V G.El) → List (O G.El) → Q G.El (V G.El × List (O G.El)) := fun as' os' => lT os' <| na as' argA fun b' as' => nc b' (argI .i64) fun a b' => nc b' (argI .i64) fun b b' => nc b' argS fun c b' => argT b' <| lT as' <| .call _ (f90 k a b c) fun r => .ret (f90.o r)
def f92 (k : Nat) (a0_0 a1_0 : ByteArray) : Option (List ByteArray) := if a1_0.size = 1 ∧ a0_0.size ≤ 4194304 then some (splV a0_0 a1_0) else none
abbrev sf92 (k : Nat) : List (V G.El) → List (O G.El) → Q G.El (V G.El × List (O G.El)) := fun as' os' => lT os' <| na as' argS fun a0_0 as' => na as' argS fun a1_0 as' => lT as' <| .call _ (f92 k a0_0 a1_0) fun r => .ret (.win 0 true (.l 0) (.d 0 r.length), [.row true true true 0 5 r none])
def f93 (k : Nat) (a0_0 : ByteArray) (a1_0 a2_0 : Int) : Option (Int × Bool) := if a1_0 = 10 ∧ a2_0 = 64 ∧ a0_0.size ≤ 281474976710656 then some (pintV a0_0) else none
abbrev sf93 (k : Nat) : List (V G.El) → List (O G.El) → Q G.El (V G.El × List (O G.El)) := fun as' os' => lT os' <| na as' argS fun a0_0 as' => na as' (argI .i64) fun a1_0 as' => na as' (argI .i64) fun a2_0 as' => lT as' <| .call _ (f93 k a0_0 a1_0 a2_0) fun r => .ret (.tup [.id .i64 0 r.1, .ifd r.2], [])
def f135.start (k : Nat) (a : Int) : PT (ByteArray) Empty := .ite (a < 10) (fun h1 => .need (0 ≤ (IntKind.i64.wrap (a + 1))) fun h2 => .need ((IntKind.i64.wrap (a + 1)) ≤ (((⟨#[48, 49, 50, 51, 52, 53, 54, 55, 56, 57, 97, 98, 99, 100, 101, 102, 103, 104, 105, 106, 107, 108, 109, 110, 111, 112, 113, 114, 115, 116, 117, 118, 119, 120, 121, 122]⟩ : ByteArray).size : Nat) : Int)) fun h3 => .need (0 ≤ a) fun h4 => .need (a ≤ (((IntKind.i64.wrap (a + 1)).toNat : Nat) : Int)) fun h5 => .ret ((⟨#[48, 49, 50, 51, 52, 53, 54, 55, 56, 57, 97, 98, 99, 100, 101, 102, 103, 104, 105, 106, 107, 108, 109, 110, 111, 112, 113, 114, 115, 116, 117, 118, 119, 120, 121, 122]⟩ : ByteArray).extract a.toNat ((IntKind.i64.wrap (a + 1)).toNat))) (fun h1 => .need (0 ≤ (IntKind.i64.wrap ((IntKind.i64.wrap (a * 2)) + 2))) fun h6 => .need ((IntKind.i64.wrap ((IntKind.i64.wrap (a * 2)) + 2)) ≤ (((⟨#[48, 48, 48, 49, 48, 50, 48, 51, 48, 52, 48, 53, 48, 54, 48, 55, 48, 56, 48, 57, 49, 48, 49, 49, 49, 50, 49, 51, 49, 52, 49, 53, 49, 54, 49, 55, 49, 56, 49, 57, 50, 48, 50, 49, 50, 50, 50, 51, 50, 52, 50, 53, 50, 54, 50, 55, 50, 56, 50, 57, 51, 48, 51, 49, 51, 50, 51, 51, 51, 52, 51, 53, 51, 54, 51, 55, 51, 56, 51, 57, 52, 48, 52, 49, 52, 50, 52, 51, 52, 52, 52, 53, 52, 54, 52, 55, 52, 56, 52, 57, 53, 48, 53, 49, 53, 50, 53, 51, 53, 52, 53, 53, 53, 54, 53, 55, 53, 56, 53, 57, 54, 48, 54, 49, 54, 50, 54, 51, 54, 52, 54, 53, 54, 54, 54, 55, 54, 56, 54, 57, 55, 48, 55, 49, 55, 50, 55, 51, 55, 52, 55, 53, 55, 54, 55, 55, 55, 56, 55, 57, 56, 48, 56, 49, 56, 50, 56, 51, 56, 52, 56, 53, 56, 54, 56, 55, 56, 56, 56, 57, 57, 48, 57, 49, 57, 50, 57, 51, 57, 52, 57, 53, 57, 54, 57, 55, 57, 56, 57, 57]⟩ : ByteArray).size : Nat) : Int)) fun h7 => .need (0 ≤ (IntKind.i64.wrap (a * 2))) fun h8 => .need ((IntKind.i64.wrap (a * 2)) ≤ (((IntKind.i64.wrap ((IntKind.i64.wrap (a * 2)) + 2)).toNat : Nat) : Int)) fun h9 => .ret ((⟨#[48, 48, 48, 49, 48, 50, 48, 51, 48, 52, 48, 53, 48, 54, 48, 55, 48, 56, 48, 57, 49, 48, 49, 49, 49, 50, 49, 51, 49, 52, 49, 53, 49, 54, 49, 55, 49, 56, 49, 57, 50, 48, 50, 49, 50, 50, 50, 51, 50, 52, 50, 53, 50, 54, 50, 55, 50, 56, 50, 57, 51, 48, 51, 49, 51, 50, 51, 51, 51, 52, 51, 53, 51, 54, 51, 55, 51, 56, 51, 57, 52, 48, 52, 49, 52, 50, 52, 51, 52, 52, 52, 53, 52, 54, 52, 55, 52, 56, 52, 57, 53, 48, 53, 49, 53, 50, 53, 51, 53, 52, 53, 53, 53, 54, 53, 55, 53, 56, 53, 57, 54, 48, 54, 49, 54, 50, 54, 51, 54, 52, 54, 53, 54, 54, 54, 55, 54, 56, 54, 57, 55, 48, 55, 49, 55, 50, 55, 51, 55, 52, 55, 53, 55, 54, 55, 55, 55, 56, 55, 57, 56, 48, 56, 49, 56, 50, 56, 51, 56, 52, 56, 53, 56, 54, 56, 55, 56, 56, 56, 57, 57, 48, 57, 49, 57, 50, 57, 51, 57, 52, 57, 53, 57, 54, 57, 55, 57, 56, 57, 57]⟩ : ByteArray).extract ((IntKind.i64.wrap (a * 2)).toNat) ((IntKind.i64.wrap ((IntKind.i64.wrap (a * 2)) + 2)).toNat)))
def f135 (k : Nat) (a : Int) : Option (ByteArray) := (f135.start k a).run Empty.elim
def f135.o : (ByteArray) → V El × List (O El) := fun r => (.s r, [])
abbrev sf135 (k : Nat) : List (V G.El) → List (O G.El) → Q G.El (V G.El × List (O G.El)) := fun as' os' => lT os' <| na as' (argI .i64) fun a as' => lT as' <| .call _ (f135 k a) fun r => .ret (f135.o r)
def f114.start (k : Nat) (a b : Int) : PT (ByteArray) Empty := .ite (b = 10) (fun h1 => .ite (0 ≤ a) (fun h2 => .t2 h2 <| .ite (a < 100) (fun h3 => .call _ (f135 k a) fun t1 => .ret t1) (fun h3 => .triv (¬ (a < 0)) tv <| .fail)) (fun h2 => .t2 h2 <| .triv (a < 0) tv <| .fail)) (fun h1 => .fail)
def f114 (k : Nat) (a b : Int) : Option (ByteArray) := (f114.start k a b).run Empty.elim
def f114.o : (ByteArray) → V El × List (O El) := fun r => (.s r, [])
abbrev sf114 (k : Nat) : List (V G.El) → List (O G.El) → Q G.El (V G.El × List (O G.El)) := fun as' os' => lT os' <| na as' (argI .i64) fun a as' => na as' (argI .i64) fun b as' => lT as' <| .call _ (f114 k a b) fun r => .ret (f114.o r)
def f103.start (k : Nat) (a b : Int) : PT (ByteArray) Empty := .call _ (f114 k a b) fun t1 => .ret t1
def f103 (k : Nat) (a b : Int) : Option (ByteArray) := (f103.start k a b).run Empty.elim
def f103.o : (ByteArray) → V El × List (O El) := fun r => (.s r, [])
abbrev sf103 (k : Nat) : List (V G.El) → List (O G.El) → Q G.El (V G.El × List (O G.El)) := fun as' os' => lT os' <| na as' (argI .i64) fun a as' => na as' (argI .i64) fun b as' => lT as' <| .call _ (f103 k a b) fun r => .ret (f103.o r)
inductive f94.L where
  | l3 (x3 : ByteArray) (x9 : List Int) (x10 : Int) (x11 : Int) (b0_0 : List Int) (b0_1 : List Int)
  | l10 (x3 : ByteArray) (x28 : List Int) (x29 : Int) (x30 : Int)
def f94.st : f94.L → Nat × S El
  | .l3 x3 x9 x10 x11 b0_0 b0_1 => (3, ⟨41, .dead, [(1, .ptr 0 (.l 0) 0), (3, .s x3), (9, .sl 0 x9 []), (10, .id .i64 11 x10), (11, .id .i64 12 x11)], [(0, .box true true 0 2 true [.sl 0 b0_0 [], .sl 0 b0_1 []])], 1, 0⟩)
  | .l10 x3 x28 x29 x30 => (10, ⟨41, .dead, [(3, .s x3), (28, .sl 0 x28 []), (29, .id .i64 30 x29), (30, .id .i64 31 x30)], [], 0, 0⟩)
def f94.blk (k : Nat) : f94.L → PT (ByteArray) f94.L
  | .l3 x3 x9 x10 x11 b0_0 b0_1 => .ite (x11 < x10) (fun h1 => .need (0 ≤ x11) fun h2 => .need (x11 < (x9.length : Int)) fun h3 => .call _ (f103 k (at' x9 x11) 10) fun t1 => .need ((⟨#[32]⟩ : ByteArray).size + t1.size ≤ 9223372036854775807) fun h4 => .need (x3.size + ((⟨#[32]⟩ : ByteArray) ++ t1).size ≤ 9223372036854775807) fun h5 => .jump (.l3 (x3 ++ ((⟨#[32]⟩ : ByteArray) ++ t1)) x9 x10 (IntKind.i64.wrap (x11 + 1)) b0_0 b0_1)) (fun h1 => .ite (0 < (b0_1.length : Int)) (fun h6 => .need (x3.size + (⟨#[32, 108]⟩ : ByteArray).size ≤ 9223372036854775807) fun h7 => .jump (.l10 (x3 ++ (⟨#[32, 108]⟩ : ByteArray)) b0_1 (b0_1.length : Int) 0)) (fun h6 => .jump (.l10 x3 b0_1 (b0_1.length : Int) 0)))
  | .l10 x3 x28 x29 x30 => .ite (x30 < x29) (fun h8 => .need (0 ≤ x30) fun h9 => .need (x30 < (x28.length : Int)) fun h10 => .call _ (f103 k (at' x28 x30) 10) fun t2 => .need ((⟨#[32]⟩ : ByteArray).size + t2.size ≤ 9223372036854775807) fun h11 => .need (x3.size + ((⟨#[32]⟩ : ByteArray) ++ t2).size ≤ 9223372036854775807) fun h12 => .jump (.l10 (x3 ++ ((⟨#[32]⟩ : ByteArray) ++ t2)) x28 x29 (IntKind.i64.wrap (x30 + 1)))) (fun h8 => .ret x3)
abbrev f94.D : Nat → f94.L → Option (ByteArray) := PT.iter f94.blk
def f94.start (k : Nat) (a b : List Int) : PT (ByteArray) f94.L := .jump (.l3 (⟨#[118]⟩ : ByteArray) a (a.length : Int) 0 a b)
def f94 (k : Nat) (a b : List Int) : Option (ByteArray) := (f94.start k a b).run (f94.D k)
def f94.o : (ByteArray) → V El × List (O El) := fun r => (.s r, [])
abbrev sf94 (k : Nat) : List (V G.El) → List (O G.El) → Q G.El (V G.El × List (O G.El)) := fun as' os' => lT os' <| na as' argA fun b' as' => nc b' (argL 0) fun a b' => nc b' (argL 0) fun b b' => argT b' <| lT as' <| .call _ (f94 k a b) fun r => .ret (f94.o r)
inductive f81.L where
  | l4 (q2 : List ByteArray) (x0 : ByteArray) (x14 : Int) (x15 : Int)
  | l4v1 (q2 : List ByteArray) (x0 : ByteArray) (x14 : Int) (x15 : Int)
  | l4v2 (q2 : List ByteArray) (q3 : List Int) (x0 : ByteArray) (x14 : Int) (x15 : Int)
  | l4v3 (q2 : List ByteArray) (q3 : List Int) (x0 : ByteArray) (x14 : Int) (x15 : Int)
  | l4v4 (q2 : List ByteArray) (q3 : List Int) (x0 : ByteArray) (x14 : Int) (x15 : Int)
  | l4v5 (q2 : List ByteArray) (q3 : List Int) (q4 : List Int) (x0 : ByteArray) (x14 : Int) (x15 : Int)
def f81.st : f81.L → Nat × S El
  | .l4 q2 x0 x14 x15 => (4, ⟨59, .dead, [(0, .s x0), (2, .ptr 0 (.l 0) 0), (4, .ptr 1 (.l 0) 0), (5, .ptr 1 (.l 0) 0), (13, .win 2 true (.l 0) (.d 0 q2.length)), (14, .id .i64 15 x14), (15, .id .i64 16 x15)], [(0, .box true true 0 2 true [.nil, .nil]), (1, .box true true 0 2 true [.nil, .nil]), (2, .row true true true 0 5 q2 none)], 3, 0⟩)
  | .l4v1 q2 x0 x14 x15 => (4, ⟨59, .dead, [(0, .s x0), (2, .ptr 0 (.l 0) 0), (4, .ptr 1 (.l 0) 0), (5, .ptr 1 (.l 0) 1), (13, .win 2 true (.l 0) (.d 0 q2.length)), (14, .id .i64 15 x14), (15, .id .i64 16 x15)], [(0, .box true true 0 2 true [.nil, .nil]), (1, .box true true 0 2 true [.nil, .nil]), (2, .row true true true 0 5 q2 none)], 3, 0⟩)
  | .l4v2 q2 q3 x0 x14 x15 => (4, ⟨59, .dead, [(0, .s x0), (2, .ptr 0 (.l 0) 0), (4, .ptr 1 (.l 0) 0), (5, .ptr 1 (.l 0) 1), (13, .win 2 true (.l 0) (.d 0 q2.length)), (14, .id .i64 15 x14), (15, .id .i64 16 x15)], [(0, .box true true 0 2 true [.nil, .nil]), (1, .box true true 0 2 true [.nil, .win 3 true (.l 0) (.d 0 q3.length)]), (2, .row true true true 0 5 q2 none), (3, .row true true true 0 0 q3 none)], 4, 0⟩)
  | .l4v3 q2 q3 x0 x14 x15 => (4, ⟨59, .dead, [(0, .s x0), (2, .ptr 0 (.l 0) 0), (4, .ptr 1 (.l 0) 0), (5, .ptr 1 (.l 0) 0), (13, .win 2 true (.l 0) (.d 0 q2.length)), (14, .id .i64 15 x14), (15, .id .i64 16 x15)], [(0, .box true true 0 2 true [.nil, .nil]), (1, .box true true 0 2 true [.win 3 true (.l 0) (.d 0 q3.length), .nil]), (2, .row true true true 0 5 q2 none), (3, .row true true true 0 0 q3 none)], 4, 0⟩)
  | .l4v4 q2 q3 x0 x14 x15 => (4, ⟨59, .dead, [(0, .s x0), (2, .ptr 0 (.l 0) 0), (4, .ptr 1 (.l 0) 0), (5, .ptr 1 (.l 0) 1), (13, .win 2 true (.l 0) (.d 0 q2.length)), (14, .id .i64 15 x14), (15, .id .i64 16 x15)], [(0, .box true true 0 2 true [.nil, .nil]), (1, .box true true 0 2 true [.win 3 true (.l 0) (.d 0 q3.length), .nil]), (2, .row true true true 0 5 q2 none), (3, .row true true true 0 0 q3 none)], 4, 0⟩)
  | .l4v5 q2 q3 q4 x0 x14 x15 => (4, ⟨59, .dead, [(0, .s x0), (2, .ptr 0 (.l 0) 0), (4, .ptr 1 (.l 0) 0), (5, .ptr 1 (.l 0) 1), (13, .win 2 true (.l 0) (.d 0 q2.length)), (14, .id .i64 15 x14), (15, .id .i64 16 x15)], [(0, .box true true 0 2 true [.nil, .nil]), (1, .box true true 0 2 true [.win 3 true (.l 0) (.d 0 q3.length), .win 4 true (.l 0) (.d 0 q4.length)]), (2, .row true true true 0 5 q2 none), (3, .row true true true 0 0 q3 none), (4, .row true true true 0 0 q4 none)], 5, 0⟩)
def f81.hint : f81.L → H
  | .l4 .. => (.both (.both (.l (.l .all)) (.r (.r .all))) (.skip (.both (.l (.skip (.l (.l (.l .all))))) (.r (.r (.r (.r .all)))))))
  | .l4v1 .. => (.both (.both (.l (.l .all)) (.r (.r .all))) (.skip (.both (.l (.skip (.l (.l (.l .all))))) (.r (.r (.r (.r .all)))))))
  | .l4v2 .. => (.both (.both (.l (.l .all)) (.r (.r .all))) (.skip (.both (.l (.skip (.l (.l (.l .all))))) (.r (.r (.r (.r .all)))))))
  | .l4v3 .. => (.both (.both (.l (.l .all)) (.r (.r .all))) (.skip (.both (.l (.skip (.l (.l (.l .all))))) (.r (.r (.r (.r .all)))))))
  | .l4v4 .. => (.both (.both (.l (.l .all)) (.r (.r .all))) (.skip (.both (.l (.skip (.l (.l (.l .all))))) (.r (.r (.r (.r .all)))))))
  | .l4v5 .. => (.both (.both (.l (.l .all)) (.r (.r .all))) (.skip (.both (.l (.skip (.l (.l (.l .all))))) (.r (.r (.r (.r .all)))))))
def f81.blk (k : Nat) : f81.L → PT (Bool × (List Int) × (List Int)) f81.L
  | .l4 q2 x0 x14 x15 => .ite (x15 < x14) (fun h1 => .need (0 ≤ x15) fun h2 => .need (x15 < (q2.length : Int)) fun h3 => .triv (x15.toNat < q2.length) tv <| .ite (x15 = 0) (fun h4 => .t2 h4 <| .ite ((strEq (at' q2 x15) (⟨#[118]⟩ : ByteArray)) = true) (fun h5 => .tr q2.length <| .jump (.l4 q2 x0 x14 (IntKind.i64.wrap (x15 + 1)))) (fun h5 => .ite ((strEq (at' q2 x15) (⟨#[108]⟩ : ByteArray)) = true) (fun h6 => .tr q2.length <| .jump (.l4v1 q2 x0 x14 (IntKind.i64.wrap (x15 + 1)))) (fun h6 => .call _ (f93 k (at' q2 x15) 10 64) fun t10 => .ite (t10.2 = true) (fun h31 => .triv (0 = ([] : List Int).length) tv <| .triv (0 = ([] : List Int).length) tv <| .ret (false, ([] : List Int), ([] : List Int))) (fun h31 => .triv (1 = ([t10.1] : List Int).length) tv <| .tr q2.length <| .triv (1 = ([t10.1] : List Int).length) tv <| .jump (.l4v3 q2 ([t10.1] : List Int) x0 x14 (IntKind.i64.wrap (x15 + 1))))))) (fun h4 => .t2 h4 <| .ite ((strEq (at' q2 x15) (⟨#[108]⟩ : ByteArray)) = true) (fun h69 => .tr q2.length <| .jump (.l4v1 q2 x0 x14 (IntKind.i64.wrap (x15 + 1)))) (fun h69 => .call _ (f93 k (at' q2 x15) 10 64) fun t23 => .ite (t23.2 = true) (fun h70 => .triv (0 = ([] : List Int).length) tv <| .triv (0 = ([] : List Int).length) tv <| .ret (false, ([] : List Int), ([] : List Int))) (fun h70 => .triv (1 = ([t23.1] : List Int).length) tv <| .tr q2.length <| .triv (1 = ([t23.1] : List Int).length) tv <| .jump (.l4v3 q2 ([t23.1] : List Int) x0 x14 (IntKind.i64.wrap (x15 + 1))))))) (fun h1 => .call _ (f77 k ([] : List Int) ([] : List Int)) fun t24 => .ite (t24 = true) (fun h71 => .th h71 <| .call _ (f94 k ([] : List Int) ([] : List Int)) fun t25 => .t3 h71 <| .ite ((strEq t25 x0) = true) (fun h72 => .triv (0 = ([] : List Int).length) tv <| .triv (0 = ([] : List Int).length) tv <| .ret (true, ([] : List Int), ([] : List Int))) (fun h72 => .triv (0 = ([] : List Int).length) tv <| .triv (0 = ([] : List Int).length) tv <| .ret (false, ([] : List Int), ([] : List Int)))) (fun h71 => .t4 h71 <| .triv (0 = ([] : List Int).length) tv <| .triv (0 = ([] : List Int).length) tv <| .ret (false, ([] : List Int), ([] : List Int))))
  | .l4v1 q2 x0 x14 x15 => .ite (x15 < x14) (fun h7 => .need (0 ≤ x15) fun h8 => .need (x15 < (q2.length : Int)) fun h9 => .triv (x15.toNat < q2.length) tv <| .ite (x15 = 0) (fun h10 => .t2 h10 <| .ite ((strEq (at' q2 x15) (⟨#[118]⟩ : ByteArray)) = true) (fun h11 => .tr q2.length <| .jump (.l4v1 q2 x0 x14 (IntKind.i64.wrap (x15 + 1)))) (fun h11 => .ite ((strEq (at' q2 x15) (⟨#[108]⟩ : ByteArray)) = true) (fun h12 => .tr q2.length <| .jump (.l4v1 q2 x0 x14 (IntKind.i64.wrap (x15 + 1)))) (fun h12 => .call _ (f93 k (at' q2 x15) 10 64) fun t2 => .ite (t2.2 = true) (fun h13 => .triv (0 = ([] : List Int).length) tv <| .triv (0 = ([] : List Int).length) tv <| .ret (false, ([] : List Int), ([] : List Int))) (fun h13 => .triv (1 = ([t2.1] : List Int).length) tv <| .tr q2.length <| .triv (1 = ([t2.1] : List Int).length) tv <| .jump (.l4v2 q2 ([t2.1] : List Int) x0 x14 (IntKind.i64.wrap (x15 + 1))))))) (fun h10 => .t2 h10 <| .ite ((strEq (at' q2 x15) (⟨#[108]⟩ : ByteArray)) = true) (fun h27 => .tr q2.length <| .jump (.l4v1 q2 x0 x14 (IntKind.i64.wrap (x15 + 1)))) (fun h27 => .call _ (f93 k (at' q2 x15) 10 64) fun t7 => .ite (t7.2 = true) (fun h28 => .triv (0 = ([] : List Int).length) tv <| .triv (0 = ([] : List Int).length) tv <| .ret (false, ([] : List Int), ([] : List Int))) (fun h28 => .triv (1 = ([t7.1] : List Int).length) tv <| .tr q2.length <| .triv (1 = ([t7.1] : List Int).length) tv <| .jump (.l4v2 q2 ([t7.1] : List Int) x0 x14 (IntKind.i64.wrap (x15 + 1))))))) (fun h7 => .call _ (f77 k ([] : List Int) ([] : List Int)) fun t8 => .ite (t8 = true) (fun h29 => .th h29 <| .call _ (f94 k ([] : List Int) ([] : List Int)) fun t9 => .t3 h29 <| .ite ((strEq t9 x0) = true) (fun h30 => .triv (0 = ([] : List Int).length) tv <| .triv (0 = ([] : List Int).length) tv <| .ret (true, ([] : List Int), ([] : List Int))) (fun h30 => .triv (0 = ([] : List Int).length) tv <| .triv (0 = ([] : List Int).length) tv <| .ret (false, ([] : List Int), ([] : List Int)))) (fun h29 => .t4 h29 <| .triv (0 = ([] : List Int).length) tv <| .triv (0 = ([] : List Int).length) tv <| .ret (false, ([] : List Int), ([] : List Int))))
  | .l4v2 q2 q3 x0 x14 x15 => .ite (x15 < x14) (fun h14 => .need (0 ≤ x15) fun h15 => .need (x15 < (q2.length : Int)) fun h16 => .triv (x15.toNat < q2.length) tv <| .ite (x15 = 0) (fun h17 => .t2 h17 <| .ite ((strEq (at' q2 x15) (⟨#[118]⟩ : ByteArray)) = true) (fun h18 => .tr q2.length <| .tr q3.length <| .jump (.l4v2 q2 q3 x0 x14 (IntKind.i64.wrap (x15 + 1)))) (fun h18 => .ite ((strEq (at' q2 x15) (⟨#[108]⟩ : ByteArray)) = true) (fun h19 => .tr q2.length <| .tr q3.length <| .jump (.l4v2 q2 q3 x0 x14 (IntKind.i64.wrap (x15 + 1)))) (fun h19 => .call _ (f93 k (at' q2 x15) 10 64) fun t3 => .ite (t3.2 = true) (fun h20 => .triv (0 = ([] : List Int).length) tv <| .triv (0 = ([] : List Int).length) tv <| .ret (false, ([] : List Int), ([] : List Int))) (fun h20 => .triv (1 = ([t3.1] : List Int).length) tv <| .tr q3.length <| .need ((q3.length + 1) * 8 ≤ 70368744177664) fun h21 => .triv ((q3.length + 1) ≤ 70368744177664) tv <| .tr q2.length <| .triv ((q3.length + 1) = (q3 ++ ([t3.1] : List Int)).length) tv <| .jump (.l4v2 q2 (q3 ++ ([t3.1] : List Int)) x0 x14 (IntKind.i64.wrap (x15 + 1))))))) (fun h17 => .t2 h17 <| .ite ((strEq (at' q2 x15) (⟨#[108]⟩ : ByteArray)) = true) (fun h22 => .tr q2.length <| .tr q3.length <| .jump (.l4v2 q2 q3 x0 x14 (IntKind.i64.wrap (x15 + 1)))) (fun h22 => .call _ (f93 k (at' q2 x15) 10 64) fun t4 => .ite (t4.2 = true) (fun h23 => .triv (0 = ([] : List Int).length) tv <| .triv (0 = ([] : List Int).length) tv <| .ret (false, ([] : List Int), ([] : List Int))) (fun h23 => .triv (1 = ([t4.1] : List Int).length) tv <| .tr q3.length <| .need ((q3.length + 1) * 8 ≤ 70368744177664) fun h24 => .triv ((q3.length + 1) ≤ 70368744177664) tv <| .tr q2.length <| .triv ((q3.length + 1) = (q3 ++ ([t4.1] : List Int)).length) tv <| .jump (.l4v2 q2 (q3 ++ ([t4.1] : List Int)) x0 x14 (IntKind.i64.wrap (x15 + 1))))))) (fun h14 => .tr q3.length <| .call _ (f77 k ([] : List Int) q3) fun t5 => .ite (t5 = true) (fun h25 => .th h25 <| .tr q3.length <| .call _ (f94 k ([] : List Int) q3) fun t6 => .t3 h25 <| .ite ((strEq t6 x0) = true) (fun h26 => .triv (0 = ([] : List Int).length) tv <| .tr q3.length <| .ret (true, ([] : List Int), q3)) (fun h26 => .triv (0 = ([] : List Int).length) tv <| .triv (0 = ([] : List Int).length) tv <| .ret (false, ([] : List Int), ([] : List Int)))) (fun h25 => .t4 h25 <| .triv (0 = ([] : List Int).length) tv <| .triv (0 = ([] : List Int).length) tv <| .ret (false, ([] : List Int), ([] : List Int))))
  | .l4v3 q2 q3 x0 x14 x15 => .ite (x15 < x14) (fun h32 => .need (0 ≤ x15) fun h33 => .need (x15 < (q2.length : Int)) fun h34 => .triv (x15.toNat < q2.length) tv <| .ite (x15 = 0) (fun h35 => .t2 h35 <| .ite ((strEq (at' q2 x15) (⟨#[118]⟩ : ByteArray)) = true) (fun h36 => .tr q2.length <| .tr q3.length <| .jump (.l4v3 q2 q3 x0 x14 (IntKind.i64.wrap (x15 + 1)))) (fun h36 => .ite ((strEq (at' q2 x15) (⟨#[108]⟩ : ByteArray)) = true) (fun h37 => .tr q2.length <| .tr q3.length <| .jump (.l4v4 q2 q3 x0 x14 (IntKind.i64.wrap (x15 + 1)))) (fun h37 => .call _ (f93 k (at' q2 x15) 10 64) fun t19 => .ite (t19.2 = true) (fun h62 => .triv (0 = ([] : List Int).length) tv <| .triv (0 = ([] : List Int).length) tv <| .ret (false, ([] : List Int), ([] : List Int))) (fun h62 => .triv (1 = ([t19.1] : List Int).length) tv <| .tr q3.length <| .need ((q3.length + 1) * 8 ≤ 70368744177664) fun h63 => .triv ((q3.length + 1) ≤ 70368744177664) tv <| .tr q2.length <| .triv ((q3.length + 1) = (q3 ++ ([t19.1] : List Int)).length) tv <| .jump (.l4v3 q2 (q3 ++ ([t19.1] : List Int)) x0 x14 (IntKind.i64.wrap (x15 + 1))))))) (fun h35 => .t2 h35 <| .ite ((strEq (at' q2 x15) (⟨#[108]⟩ : ByteArray)) = true) (fun h64 => .tr q2.length <| .tr q3.length <| .jump (.l4v4 q2 q3 x0 x14 (IntKind.i64.wrap (x15 + 1)))) (fun h64 => .call _ (f93 k (at' q2 x15) 10 64) fun t20 => .ite (t20.2 = true) (fun h65 => .triv (0 = ([] : List Int).length) tv <| .triv (0 = ([] : List Int).length) tv <| .ret (false, ([] : List Int), ([] : List Int))) (fun h65 => .triv (1 = ([t20.1] : List Int).length) tv <| .tr q3.length <| .need ((q3.length + 1) * 8 ≤ 70368744177664) fun h66 => .triv ((q3.length + 1) ≤ 70368744177664) tv <| .tr q2.length <| .triv ((q3.length + 1) = (q3 ++ ([t20.1] : List Int)).length) tv <| .jump (.l4v3 q2 (q3 ++ ([t20.1] : List Int)) x0 x14 (IntKind.i64.wrap (x15 + 1))))))) (fun h32 => .tr q3.length <| .call _ (f77 k q3 ([] : List Int)) fun t21 => .ite (t21 = true) (fun h67 => .th h67 <| .tr q3.length <| .call _ (f94 k q3 ([] : List Int)) fun t22 => .t3 h67 <| .ite ((strEq t22 x0) = true) (fun h68 => .tr q3.length <| .triv (0 = ([] : List Int).length) tv <| .ret (true, q3, ([] : List Int))) (fun h68 => .triv (0 = ([] : List Int).length) tv <| .triv (0 = ([] : List Int).length) tv <| .ret (false, ([] : List Int), ([] : List Int)))) (fun h67 => .t4 h67 <| .triv (0 = ([] : List Int).length) tv <| .triv (0 = ([] : List Int).length) tv <| .ret (false, ([] : List Int), ([] : List Int))))
  | .l4v4 q2 q3 x0 x14 x15 => .ite (x15 < x14) (fun h38 => .need (0 ≤ x15) fun h39 => .need (x15 < (q2.length : Int)) fun h40 => .triv (x15.toNat < q2.length) tv <| .ite (x15 = 0) (fun h41 => .t2 h41 <| .ite ((strEq (at' q2 x15) (⟨#[118]⟩ : ByteArray)) = true) (fun h42 => .tr q2.length <| .tr q3.length <| .jump (.l4v4 q2 q3 x0 x14 (IntKind.i64.wrap (x15 + 1)))) (fun h42 => .ite ((strEq (at' q2 x15) (⟨#[108]⟩ : ByteArray)) = true) (fun h43 => .tr q2.length <| .tr q3.length <| .jump (.l4v4 q2 q3 x0 x14 (IntKind.i64.wrap (x15 + 1)))) (fun h43 => .call _ (f93 k (at' q2 x15) 10 64) fun t11 => .ite (t11.2 = true) (fun h44 => .triv (0 = ([] : List Int).length) tv <| .triv (0 = ([] : List Int).length) tv <| .ret (false, ([] : List Int), ([] : List Int))) (fun h44 => .triv (1 = ([t11.1] : List Int).length) tv <| .tr q2.length <| .tr q3.length <| .triv (1 = ([t11.1] : List Int).length) tv <| .jump (.l4v5 q2 q3 ([t11.1] : List Int) x0 x14 (IntKind.i64.wrap (x15 + 1))))))) (fun h41 => .t2 h41 <| .ite ((strEq (at' q2 x15) (⟨#[108]⟩ : ByteArray)) = true) (fun h58 => .tr q2.length <| .tr q3.length <| .jump (.l4v4 q2 q3 x0 x14 (IntKind.i64.wrap (x15 + 1)))) (fun h58 => .call _ (f93 k (at' q2 x15) 10 64) fun t16 => .ite (t16.2 = true) (fun h59 => .triv (0 = ([] : List Int).length) tv <| .triv (0 = ([] : List Int).length) tv <| .ret (false, ([] : List Int), ([] : List Int))) (fun h59 => .triv (1 = ([t16.1] : List Int).length) tv <| .tr q2.length <| .tr q3.length <| .triv (1 = ([t16.1] : List Int).length) tv <| .jump (.l4v5 q2 q3 ([t16.1] : List Int) x0 x14 (IntKind.i64.wrap (x15 + 1))))))) (fun h38 => .tr q3.length <| .call _ (f77 k q3 ([] : List Int)) fun t17 => .ite (t17 = true) (fun h60 => .th h60 <| .tr q3.length <| .call _ (f94 k q3 ([] : List Int)) fun t18 => .t3 h60 <| .ite ((strEq t18 x0) = true) (fun h61 => .tr q3.length <| .triv (0 = ([] : List Int).length) tv <| .ret (true, q3, ([] : List Int))) (fun h61 => .triv (0 = ([] : List Int).length) tv <| .triv (0 = ([] : List Int).length) tv <| .ret (false, ([] : List Int), ([] : List Int)))) (fun h60 => .t4 h60 <| .triv (0 = ([] : List Int).length) tv <| .triv (0 = ([] : List Int).length) tv <| .ret (false, ([] : List Int), ([] : List Int))))
  | .l4v5 q2 q3 q4 x0 x14 x15 => .ite (x15 < x14) (fun h45 => .need (0 ≤ x15) fun h46 => .need (x15 < (q2.length : Int)) fun h47 => .triv (x15.toNat < q2.length) tv <| .ite (x15 = 0) (fun h48 => .t2 h48 <| .ite ((strEq (at' q2 x15) (⟨#[118]⟩ : ByteArray)) = true) (fun h49 => .tr q2.length <| .tr q3.length <| .tr q4.length <| .jump (.l4v5 q2 q3 q4 x0 x14 (IntKind.i64.wrap (x15 + 1)))) (fun h49 => .ite ((strEq (at' q2 x15) (⟨#[108]⟩ : ByteArray)) = true) (fun h50 => .tr q2.length <| .tr q3.length <| .tr q4.length <| .jump (.l4v5 q2 q3 q4 x0 x14 (IntKind.i64.wrap (x15 + 1)))) (fun h50 => .call _ (f93 k (at' q2 x15) 10 64) fun t12 => .ite (t12.2 = true) (fun h51 => .triv (0 = ([] : List Int).length) tv <| .triv (0 = ([] : List Int).length) tv <| .ret (false, ([] : List Int), ([] : List Int))) (fun h51 => .triv (1 = ([t12.1] : List Int).length) tv <| .tr q4.length <| .need ((q4.length + 1) * 8 ≤ 70368744177664) fun h52 => .triv ((q4.length + 1) ≤ 70368744177664) tv <| .tr q2.length <| .tr q3.length <| .triv ((q4.length + 1) = (q4 ++ ([t12.1] : List Int)).length) tv <| .jump (.l4v5 q2 q3 (q4 ++ ([t12.1] : List Int)) x0 x14 (IntKind.i64.wrap (x15 + 1))))))) (fun h48 => .t2 h48 <| .ite ((strEq (at' q2 x15) (⟨#[108]⟩ : ByteArray)) = true) (fun h53 => .tr q2.length <| .tr q3.length <| .tr q4.length <| .jump (.l4v5 q2 q3 q4 x0 x14 (IntKind.i64.wrap (x15 + 1)))) (fun h53 => .call _ (f93 k (at' q2 x15) 10 64) fun t13 => .ite (t13.2 = true) (fun h54 => .triv (0 = ([] : List Int).length) tv <| .triv (0 = ([] : List Int).length) tv <| .ret (false, ([] : List Int), ([] : List Int))) (fun h54 => .triv (1 = ([t13.1] : List Int).length) tv <| .tr q4.length <| .need ((q4.length + 1) * 8 ≤ 70368744177664) fun h55 => .triv ((q4.length + 1) ≤ 70368744177664) tv <| .tr q2.length <| .tr q3.length <| .triv ((q4.length + 1) = (q4 ++ ([t13.1] : List Int)).length) tv <| .jump (.l4v5 q2 q3 (q4 ++ ([t13.1] : List Int)) x0 x14 (IntKind.i64.wrap (x15 + 1))))))) (fun h45 => .tr q3.length <| .tr q4.length <| .call _ (f77 k q3 q4) fun t14 => .ite (t14 = true) (fun h56 => .th h56 <| .tr q3.length <| .tr q4.length <| .call _ (f94 k q3 q4) fun t15 => .t3 h56 <| .ite ((strEq t15 x0) = true) (fun h57 => .tr q3.length <| .tr q4.length <| .ret (true, q3, q4)) (fun h57 => .triv (0 = ([] : List Int).length) tv <| .triv (0 = ([] : List Int).length) tv <| .ret (false, ([] : List Int), ([] : List Int)))) (fun h56 => .t4 h56 <| .triv (0 = ([] : List Int).length) tv <| .triv (0 = ([] : List Int).length) tv <| .ret (false, ([] : List Int), ([] : List Int))))
abbrev f81.D : Nat → f81.L → Option (Bool × (List Int) × (List Int)) := PT.iter f81.blk
def f81.start (k : Nat) (a : ByteArray) : PT (Bool × (List Int) × (List Int)) f81.L := .call _ (f92 k a (⟨#[32]⟩ : ByteArray)) fun t1 => .tr t1.length <| .jump (.l4 t1 a (t1.length : Int) 0)
def f81 (k : Nat) (a : ByteArray) : Option (Bool × (List Int) × (List Int)) := (f81.start k a).run (f81.D k)
def f81.o : (Bool × (List Int) × (List Int)) → V El × List (O El) := fun r => (.tup [.agg [.win 0 true (.l 0) (.d 0 r.2.1.length), .win 1 true (.l 0) (.d 0 r.2.2.length)], .bb false r.1], [.row true true true 0 0 r.2.1 none, .row true true true 0 0 r.2.2 none])
abbrev sf81 (k : Nat) : List (V G.El) → List (O G.El) → Q G.El (V G.El × List (O G.El)) := fun as' os' => lT os' <| na as' argS fun a as' => lT as' <| .call _ (f81 k a) fun r => .ret (f81.o r)
def f78.start (k : Nat) (a b : Int) (c : ByteArray) : PT (Bool) Empty := .call _ (f90 k a b c) fun t1 => .ite (t1 = true) (fun h1 => .ite (b = 0) (fun h2 => .ret (strEq c (⟨#[]⟩ : ByteArray))) (fun h2 => .ite (b = 1) (fun h3 => .ret true) (fun h3 => .ite (b = 2) (fun h4 => .call _ (f81 k c) fun t2 => .ret t2.1) (fun h4 => .ret false)))) (fun h1 => .ret false)
def f78 (k : Nat) (a b : Int) (c : ByteArray) : Option (Bool) := (f78.start k a b c).run Empty.elim
def f78.o : (Bool) → V El × List (O El) := fun r => (.bb false r, [])
abbrev sf78 (k : Nat) : List (V G.El) → List (O G.El) → Q G.El (V G.El × List (O G.El)) := fun as' os' => lT os' <| na as' argA fun b' as' => nc b' (argI .i64) fun a b' => nc b' (argI .i64) fun b b' => nc b' argS fun c b' => argT b' <| lT as' <| .call _ (f78 k a b c) fun r => .ret (f78.o r)
def f52.start (k : Nat) (a b c d e : Int) (g i : List Int) (j : ByteArray) (l : List S40) (m n p : Int) (u : List Int) (v : List S90) : PT (Int) Empty := .ret (IntKind.i64.wrap (d + (l.length : Int)))
def f52 (k : Nat) (a b c d e : Int) (g i : List Int) (j : ByteArray) (l : List S40) (m n p : Int) (u : List Int) (v : List S90) : Option (Int) := (f52.start k a b c d e g i j l m n p u v).run Empty.elim
def f52.o : (Int) → V El × List (O El) := fun r => (.id .i64 0 r, [])
abbrev sf52 (k : Nat) : List (V G.El) → List (O G.El) → Q G.El (V G.El × List (O G.El)) := fun as' os' => lT os' <| na as' argA fun b' as' => nc b' (argI .i64) fun a b' => nc b' (argI .i64) fun b b' => nc b' (argI .i64) fun c b' => nc b' (argI .i64) fun d b' => nc b' (argI .i64) fun e b' => nc b' (argL 0) fun g b' => nc b' (argL 0) fun i b' => nc b' argS fun j b' => nc b' (argL 3) fun l b' => nc b' (argI .i64) fun m b' => nc b' (argI .i64) fun n b' => nc b' (argI .i64) fun p b' => nc b' (argL 0) fun u b' => nc b' (argL 4) fun v b' => argT b' <| lT as' <| .call _ (f52 k a b c d e g i j l m n p u v) fun r => .ret (f52.o r)
inductive f63.L where
  | l2 (x3 : Int) (b0_0 : Int) (b0_1 : Int) (b0_2 : Int) (b0_3 : Int) (b0_4 : Int) (b0_5 : List Int) (b0_6 : List Int) (b0_7 : ByteArray) (b0_8 : List S40) (b0_9 : Int) (b0_10 : Int) (b0_11 : Int) (b0_12 : List Int) (b0_13 : List S90)
def f63.st : f63.L → Nat × S El
  | .l2 x3 b0_0 b0_1 b0_2 b0_3 b0_4 b0_5 b0_6 b0_7 b0_8 b0_9 b0_10 b0_11 b0_12 b0_13 => (2, ⟨34, .dead, [(1, .ptr 0 (.l 0) 0), (2, .ptr 1 (.l 0) 0), (3, .id .i64 4 x3)], [(0, .box true true 0 14 true [.id .i64 50000 b0_0, .id .i64 50001 b0_1, .id .i64 50002 b0_2, .id .i64 50003 b0_3, .id .i64 50004 b0_4, .sl 0 b0_5 [], .sl 0 b0_6 [], .s b0_7, .sl 3 b0_8 [], .id .i64 50009 b0_9, .id .i64 50010 b0_10, .id .i64 50011 b0_11, .sl 0 b0_12 [], .sl 4 b0_13 []]), (1, .box true true 0 2 true [.nil, .nil])], 2, 0⟩)
def f63.blk (k : Nat) : f63.L → PT ((List Int) × (List Int)) f63.L
  | .l2 x3 b0_0 b0_1 b0_2 b0_3 b0_4 b0_5 b0_6 b0_7 b0_8 b0_9 b0_10 b0_11 b0_12 b0_13 => .ite (0 ≤ x3) (fun h1 => .th h1 <| .need (x3 < (b0_8.length : Int)) fun h2 => .ite ((at' b0_8 x3).f1 = 2) (fun h3 => .th h1 <| .th h2 <| .call _ (f81 k ((at' b0_8 x3).f2)) fun t1 => .tr t1.2.1.length <| .tr t1.2.2.length <| .ret (t1.2.1, t1.2.2)) (fun h3 => .jump (.l2 (IntKind.i64.wrap (x3 - 1)) b0_0 b0_1 b0_2 b0_3 b0_4 b0_5 b0_6 b0_7 b0_8 b0_9 b0_10 b0_11 b0_12 b0_13))) (fun h1 => .ret (b0_5, b0_6))
abbrev f63.D : Nat → f63.L → Option ((List Int) × (List Int)) := PT.iter f63.blk
def f63.start (k : Nat) (a b c d e : Int) (g i : List Int) (j : ByteArray) (l : List S40) (m n p : Int) (u : List Int) (v : List S90) : PT ((List Int) × (List Int)) f63.L := .jump (.l2 (IntKind.i64.wrap ((l.length : Int) - 1)) a b c d e g i j l m n p u v)
def f63 (k : Nat) (a b c d e : Int) (g i : List Int) (j : ByteArray) (l : List S40) (m n p : Int) (u : List Int) (v : List S90) : Option ((List Int) × (List Int)) := (f63.start k a b c d e g i j l m n p u v).run (f63.D k)
def f63.o : ((List Int) × (List Int)) → V El × List (O El) := fun r => (.agg [.sl 0 r.1 [], .sl 0 r.2 []], [])
abbrev sf63 (k : Nat) : List (V G.El) → List (O G.El) → Q G.El (V G.El × List (O G.El)) := fun as' os' => lT os' <| na as' argA fun b' as' => nc b' (argI .i64) fun a b' => nc b' (argI .i64) fun b b' => nc b' (argI .i64) fun c b' => nc b' (argI .i64) fun d b' => nc b' (argI .i64) fun e b' => nc b' (argL 0) fun g b' => nc b' (argL 0) fun i b' => nc b' argS fun j b' => nc b' (argL 3) fun l b' => nc b' (argI .i64) fun m b' => nc b' (argI .i64) fun n b' => nc b' (argI .i64) fun p b' => nc b' (argL 0) fun u b' => nc b' (argL 4) fun v b' => argT b' <| lT as' <| .call _ (f63 k a b c d e g i j l m n p u v) fun r => .ret (f63.o r)
def f99 (k : Nat) (o0 : List Int) : Option (List Int) := if 0 < o0.length ∧ o0.length ≤ 1073741824 then some (sortI o0) else none
abbrev sf99 (k : Nat) : List (V G.El) → List (O G.El) → Q G.El (V G.El × List (O G.El)) := fun as' os' => lH os' fun x0' os' => lT os' <| argR 0 x0' fun o0 => na0 as' (argW 0 o0.length) fun as' => lT as' <| .call _ (f99 k o0) fun r => .ret (.tup [], [.row true true false 0 0 r none])
inductive f91.L where
  | l6 (q1 : List S90) (q2 : List Int) (x1 : Int) (x22n : Nat) (x23 : Int) (x24 : Int) (b0_0 : Int) (b0_1 : Int) (b0_2 : Int) (b0_3 : Int) (b0_4 : Int) (b0_5 : List Int) (b0_6 : List Int) (b0_7 : ByteArray) (b0_8 : List S40) (b0_9 : Int) (b0_10 : Int) (b0_11 : Int) (b0_12 : List Int) (b0_13 : List S90)
def f91.st : f91.L → Nat × S El
  | .l6 q1 q2 x1 x22n x23 x24 b0_0 b0_1 b0_2 b0_3 b0_4 b0_5 b0_6 b0_7 b0_8 b0_9 b0_10 b0_11 b0_12 b0_13 => (6, ⟨40, .dead, [(1, .id .i64 2 x1), (2, .ptr 0 (.l 0) 0), (7, .win 1 true (.l 0) (.d 0 q1.length)), (22, .win 2 false (.l 0) (.d 0 x22n)), (23, .id .i64 24 x23), (24, .id .i64 25 x24)], [(0, .box true true 0 14 true [.id .i64 50000 b0_0, .id .i64 50001 b0_1, .id .i64 50002 b0_2, .id .i64 50003 b0_3, .id .i64 50004 b0_4, .sl 0 b0_5 [], .sl 0 b0_6 [], .s b0_7, .sl 3 b0_8 [], .id .i64 50009 b0_9, .id .i64 50010 b0_10, .id .i64 50011 b0_11, .sl 0 b0_12 [], .sl 4 b0_13 []]), (1, .row true true true 0 4 q1 none), (2, .row true true true 0 0 q2 none)], 3, 0⟩)
def f91.blk (k : Nat) : f91.L → PT ((List S90)) f91.L
  | .l6 q1 q2 x1 x22n x23 x24 b0_0 b0_1 b0_2 b0_3 b0_4 b0_5 b0_6 b0_7 b0_8 b0_9 b0_10 b0_11 b0_12 b0_13 => .ite (x24 < x23) (fun h3 => .need (0 ≤ x24) fun h4 => .need (x24 < ((x22n : Nat) : Int)) fun h5 => .need (x24.toNat < q2.length) fun h6 => .ite ((at' q2 x24) = b0_0) (fun h7 => .tr q1.length <| .jump (.l6 q1 q2 x1 x22n x23 (IntKind.i64.wrap (x24 + 1)) b0_0 b0_1 b0_2 b0_3 b0_4 b0_5 b0_6 b0_7 b0_8 b0_9 b0_10 b0_11 b0_12 b0_13)) (fun h7 => .triv (1 = ([(⟨(at' q2 x24), x1, 0⟩ : S90)] : List S90).length) tv <| .tr q1.length <| .need ((q1.length + 1) * 24 ≤ 70368744177664) fun h8 => .triv ((q1.length + 1) ≤ 70368744177664) tv <| .triv ((q1.length + 1) = (q1 ++ ([(⟨(at' q2 x24), x1, 0⟩ : S90)] : List S90)).length) tv <| .jump (.l6 (q1 ++ ([(⟨(at' q2 x24), x1, 0⟩ : S90)] : List S90)) q2 x1 x22n x23 (IntKind.i64.wrap (x24 + 1)) b0_0 b0_1 b0_2 b0_3 b0_4 b0_5 b0_6 b0_7 b0_8 b0_9 b0_10 b0_11 b0_12 b0_13))) (fun h3 => .tr q1.length <| .ret q1)
abbrev f91.D : Nat → f91.L → Option ((List S90)) := PT.iter f91.blk
def f91.start (k : Nat) (a b c d e : Int) (g i : List Int) (j : ByteArray) (l : List S40) (m n p : Int) (u : List Int) (v : List S90) (w : Int) : PT ((List S90)) f91.L := .call _ (f63 k a b c d e g i j l m n p u v) fun t1 => .triv (0 = ([] : List Int).length) tv <| .need (t1.1.length * 8 ≤ 70368744177664) fun h1 => .triv (t1.1.length ≤ 70368744177664) tv <| .tr t1.1.length <| .need ((t1.1.length + t1.2.length) * 8 ≤ 70368744177664) fun h2 => .triv ((t1.1.length + t1.2.length) ≤ 70368744177664) tv <| .triv ((t1.1.length + t1.2.length) = (t1.1 ++ t1.2).length) tv <| .call _ (f99 k (t1.1 ++ t1.2)) fun t2 => .triv (0 = ([] : List S90).length) tv <| .jump (.l6 ([] : List S90) t2 w (t1.1.length + t1.2.length) (((t1.1.length + t1.2.length) : Nat) : Int) 0 a b c d e g i j l m n p u v)
def f91 (k : Nat) (a b c d e : Int) (g i : List Int) (j : ByteArray) (l : List S40) (m n p : Int) (u : List Int) (v : List S90) (w : Int) : Option ((List S90)) := (f91.start k a b c d e g i j l m n p u v w).run (f91.D k)
def f91.o : ((List S90)) → V El × List (O El) := fun r => (.win 0 true (.l 0) (.d 0 r.length), [.row true true true 0 4 r none])
abbrev sf91 (k : Nat) : List (V G.El) → List (O G.El) → Q G.El (V G.El × List (O G.El)) := fun as' os' => lT os' <| na as' argA fun b' as' => nc b' (argI .i64) fun a b' => nc b' (argI .i64) fun b b' => nc b' (argI .i64) fun c b' => nc b' (argI .i64) fun d b' => nc b' (argI .i64) fun e b' => nc b' (argL 0) fun g b' => nc b' (argL 0) fun i b' => nc b' argS fun j b' => nc b' (argL 3) fun l b' => nc b' (argI .i64) fun m b' => nc b' (argI .i64) fun n b' => nc b' (argI .i64) fun p b' => nc b' (argL 0) fun u b' => nc b' (argL 4) fun v b' => argT b' <| na as' (argI .i64) fun w as' => lT as' <| .call _ (f91 k a b c d e g i j l m n p u v w) fun r => .ret (f91.o r)
inductive f79.L where
  | l5 (q1 : List S90) (x15 : List S90) (x16 : Int) (x17 : Int) (b0_0 : Int) (b0_1 : Int) (b0_2 : Int) (b0_3 : Int) (b0_4 : Int) (b0_5 : List Int) (b0_6 : List Int) (b0_7 : ByteArray) (b0_8 : List S40) (b0_9 : Int) (b0_10 : Int) (b0_11 : Int) (b0_12 : List Int) (b0_13 : List S90)
def f79.st : f79.L → Nat × S El
  | .l5 q1 x15 x16 x17 b0_0 b0_1 b0_2 b0_3 b0_4 b0_5 b0_6 b0_7 b0_8 b0_9 b0_10 b0_11 b0_12 b0_13 => (5, ⟨49, .dead, [(1, .ptr 0 (.l 0) 0), (3, .win 1 true (.l 0) (.d 0 q1.length)), (15, .sl 4 x15 []), (16, .id .i64 17 x16), (17, .id .i64 18 x17)], [(0, .box true true 0 14 true [.id .i64 50000 b0_0, .id .i64 50001 b0_1, .id .i64 50002 b0_2, .id .i64 50003 b0_3, .id .i64 50004 b0_4, .sl 0 b0_5 [], .sl 0 b0_6 [], .s b0_7, .sl 3 b0_8 [], .id .i64 50009 b0_9, .id .i64 50010 b0_10, .id .i64 50011 b0_11, .sl 0 b0_12 [], .sl 4 b0_13 []]), (1, .row true true true 0 4 q1 none)], 2, 0⟩)
def f79.hint : f79.L → H
  | .l5 .. => (.both (.both (.l (.l (.l (.skip (.l (.l (.skip (.l (.l (.both (.l (.l (.l (.l (.l (.skip (.l (.l .all)))))))) (.r (.r (.r (.r (.r (.r (.r .all))))))))))))))))) (.r (.r (.r (.r (.r (.r (.r .all)))))))) .all)
def f79.blk (k : Nat) : f79.L → PT (Bool) f79.L
  | .l5 q1 x15 x16 x17 b0_0 b0_1 b0_2 b0_3 b0_4 b0_5 b0_6 b0_7 b0_8 b0_9 b0_10 b0_11 b0_12 b0_13 => .ite (x17 < x16) (fun h2 => .need (0 ≤ x17) fun h3 => .need (x17 < (x15.length : Int)) fun h4 => .th h3 <| .need (x17 < (q1.length : Int)) fun h5 => .triv (x17.toNat < q1.length) tv <| .ite ((at' x15 x17).f0 = (at' q1 x17).f0) (fun h6 => .t3 h6 <| .call _ (f52 k b0_0 b0_1 b0_2 b0_3 b0_4 b0_5 b0_6 b0_7 b0_8 b0_9 b0_10 b0_11 b0_12 b0_13) fun t2 => .t2 h6 <| .call _ (f76 k ((at' x15 x17).f1) 1 (IntKind.i64.wrap (t2 + 1))) fun t3 => .t2 h6 <| .ite (t3 = true) (fun h7 => .t5 h7 <| .call _ (f76 k ((at' x15 x17).f2) 0 (IntKind.i64.wrap ((at' x15 x17).f1 - 1))) fun t4 => .t2 h7 <| .ite (t4 = true) (fun h8 => .tr q1.length <| .jump (.l5 q1 x15 x16 (IntKind.i64.wrap (x17 + 1)) b0_0 b0_1 b0_2 b0_3 b0_4 b0_5 b0_6 b0_7 b0_8 b0_9 b0_10 b0_11 b0_12 b0_13)) (fun h8 => .ret false)) (fun h7 => .t7 h7 <| .ret false)) (fun h6 => .t7 h6 <| .ret false)) (fun h2 => .ret true)
abbrev f79.D : Nat → f79.L → Option (Bool) := PT.iter f79.blk
def f79.start (k : Nat) (a b c d e : Int) (g i : List Int) (j : ByteArray) (l : List S40) (m n p : Int) (u : List Int) (v : List S90) : PT (Bool) f79.L := .call _ (f91 k a b c d e g i j l m n p u v 1) fun t1 => .ite ((t1.length : Int) = (v.length : Int)) (fun h1 => .tr t1.length <| .jump (.l5 t1 v (v.length : Int) 0 a b c d e g i j l m n p u v)) (fun h1 => .ret false)
def f79 (k : Nat) (a b c d e : Int) (g i : List Int) (j : ByteArray) (l : List S40) (m n p : Int) (u : List Int) (v : List S90) : Option (Bool) := (f79.start k a b c d e g i j l m n p u v).run (f79.D k)
def f79.o : (Bool) → V El × List (O El) := fun r => (.bb false r, [])
abbrev sf79 (k : Nat) : List (V G.El) → List (O G.El) → Q G.El (V G.El × List (O G.El)) := fun as' os' => lT os' <| na as' argA fun b' as' => nc b' (argI .i64) fun a b' => nc b' (argI .i64) fun b b' => nc b' (argI .i64) fun c b' => nc b' (argI .i64) fun d b' => nc b' (argI .i64) fun e b' => nc b' (argL 0) fun g b' => nc b' (argL 0) fun i b' => nc b' argS fun j b' => nc b' (argL 3) fun l b' => nc b' (argI .i64) fun m b' => nc b' (argI .i64) fun n b' => nc b' (argI .i64) fun p b' => nc b' (argL 0) fun u b' => nc b' (argL 4) fun v b' => argT b' <| lT as' <| .call _ (f79 k a b c d e g i j l m n p u v) fun r => .ret (f79.o r)
inductive f49.L where
  | l5 (x3 : Int) (x71 : List S40) (x72 : Int) (x73 : Int) (b0_0 : Int) (b0_1 : Int) (b0_2 : Int) (b0_3 : Int) (b0_4 : Int) (b0_5 : List Int) (b0_6 : List Int) (b0_7 : ByteArray) (b0_8 : List S40) (b0_9 : Int) (b0_10 : Int) (b0_11 : Int) (b0_12 : List Int) (b0_13 : List S90)
  | l14 (x123 : List Int) (x124 : Int) (x125 : Int) (b0_0 : Int) (b0_1 : Int) (b0_2 : Int) (b0_3 : Int) (b0_4 : Int) (b0_5 : List Int) (b0_6 : List Int) (b0_7 : ByteArray) (b0_8 : List S40) (b0_9 : Int) (b0_10 : Int) (b0_11 : Int) (b0_12 : List Int) (b0_13 : List S90)
def f49.st : f49.L → Nat × S El
  | .l5 x3 x71 x72 x73 b0_0 b0_1 b0_2 b0_3 b0_4 b0_5 b0_6 b0_7 b0_8 b0_9 b0_10 b0_11 b0_12 b0_13 => (5, ⟨183, .dead, [(1, .ptr 0 (.l 0) 0), (3, .id .i64 4 x3), (71, .sl 3 x71 []), (72, .id .i64 73 x72), (73, .id .i64 74 x73)], [(0, .box true true 0 14 true [.id .i64 50000 b0_0, .id .i64 50001 b0_1, .id .i64 50002 b0_2, .id .i64 50003 b0_3, .id .i64 50004 b0_4, .sl 0 b0_5 [], .sl 0 b0_6 [], .s b0_7, .sl 3 b0_8 [], .id .i64 50009 b0_9, .id .i64 50010 b0_10, .id .i64 50011 b0_11, .sl 0 b0_12 [], .sl 4 b0_13 []])], 1, 0⟩)
  | .l14 x123 x124 x125 b0_0 b0_1 b0_2 b0_3 b0_4 b0_5 b0_6 b0_7 b0_8 b0_9 b0_10 b0_11 b0_12 b0_13 => (14, ⟨183, .dead, [(1, .ptr 0 (.l 0) 0), (123, .sl 0 x123 []), (124, .id .i64 125 x124), (125, .id .i64 126 x125)], [(0, .box true true 0 14 true [.id .i64 50000 b0_0, .id .i64 50001 b0_1, .id .i64 50002 b0_2, .id .i64 50003 b0_3, .id .i64 50004 b0_4, .sl 0 b0_5 [], .sl 0 b0_6 [], .s b0_7, .sl 3 b0_8 [], .id .i64 50009 b0_9, .id .i64 50010 b0_10, .id .i64 50011 b0_11, .sl 0 b0_12 [], .sl 4 b0_13 []])], 1, 0⟩)
def f49.hint : f49.L → H
  | .l5 .. => (.both (.skip (.both (.l (.l (.l (.l (.l (.skip (.l (.l .all)))))))) (.r (.r (.r (.r (.r (.r (.r .all))))))))) (.skip (.skip (.both (.l (.l (.l (.both (.l (.l (.l (.l (.l (.l (.both (.l (.l (.l (.l .all)))) (.r (.r (.r (.r .all))))))))))) (.r (.r (.r (.l (.r (.l (.both (.l (.l (.l (.l (.l .all))))) (.r (.r (.r (.both (.l (.l (.l (.r (.l (.r .all)))))) (.r (.r (.r (.r (.r (.r .all))))))))))))))))))))) (.r (.r (.r (.r (.r .all)))))))))
  | .l14 .. => (.both (.skip (.both (.l (.l (.both (.l (.l (.l (.l (.l (.l (.l (.l (.l (.l .all)))))))))) (.r (.r (.r (.r (.r (.r (.r (.l (.r (.l .all))))))))))))) (.r (.r (.r (.r .all)))))) (.both .all (.both (.l (.l (.l (.l (.l .all))))) (.r (.r (.r (.r (.r (.both (.both .all (.both (.l (.skip (.l .all))) (.r (.r .all)))) .all)))))))))
def f49.blk (k : Nat) : f49.L → PT (Bool) f49.L
  | .l5 x3 x71 x72 x73 b0_0 b0_1 b0_2 b0_3 b0_4 b0_5 b0_6 b0_7 b0_8 b0_9 b0_10 b0_11 b0_12 b0_13 => .ite (x73 < x72) (fun h11 => .need (0 ≤ x73) fun h12 => .need (x73 < (x71.length : Int)) fun h13 => .call _ (f78 k ((at' x71 x73).f0) ((at' x71 x73).f1) ((at' x71 x73).f2)) fun t9 => .ite (t9 = true) (fun h14 => .t5 h14 <| .call _ (f76 k ((at' x71 x73).f0) x3 b0_1) fun t10 => .t2 h14 <| .ite (t10 = true) (fun h15 => .jump (.l5 ((at' x71 x73).f0) x71 x72 (IntKind.i64.wrap (x73 + 1)) b0_0 b0_1 b0_2 b0_3 b0_4 b0_5 b0_6 b0_7 b0_8 b0_9 b0_10 b0_11 b0_12 b0_13)) (fun h15 => .ret false)) (fun h14 => .t7 h14 <| .ret false)) (fun h11 => .call _ (f52 k b0_0 b0_1 b0_2 b0_3 b0_4 b0_5 b0_6 b0_7 b0_8 b0_9 b0_10 b0_11 b0_12 b0_13) fun t11 => .call _ (f76 k b0_9 b0_3 t11) fun t12 => .ite (t12 = true) (fun h16 => .t3 h16 <| .ite (b0_10 = 1) (fun h17 => .t3 h17 <| .th h16 <| .th h17 <| .th h16 <| .ite (b0_10 = 2) (fun h18 => .t4 h18 <| .jump (.l14 b0_12 (b0_12.length : Int) 0 b0_0 b0_1 b0_2 b0_3 b0_4 b0_5 b0_6 b0_7 b0_8 b0_9 b0_10 b0_11 b0_12 b0_13)) (fun h18 => .t4 h18 <| .ite (0 < (b0_13.length : Int)) (fun h32 => .ret false) (fun h32 => .jump (.l14 b0_12 (b0_12.length : Int) 0 b0_0 b0_1 b0_2 b0_3 b0_4 b0_5 b0_6 b0_7 b0_8 b0_9 b0_10 b0_11 b0_12 b0_13)))) (fun h17 => .t3 h17 <| .th h16 <| .th h17 <| .th h16 <| .ite (0 < (b0_12.length : Int)) (fun h33 => .t5 h33 <| .ret false) (fun h33 => .t3 h33 <| .ite (b0_10 = 2) (fun h34 => .t3 h34 <| .th h33 <| .th h34 <| .th h33 <| .jump (.l14 b0_12 (b0_12.length : Int) 0 b0_0 b0_1 b0_2 b0_3 b0_4 b0_5 b0_6 b0_7 b0_8 b0_9 b0_10 b0_11 b0_12 b0_13)) (fun h34 => .t3 h34 <| .th h33 <| .th h34 <| .th h33 <| .ite (0 < (b0_13.length : Int)) (fun h35 => .ret false) (fun h35 => .jump (.l14 b0_12 (b0_12.length : Int) 0 b0_0 b0_1 b0_2 b0_3 b0_4 b0_5 b0_6 b0_7 b0_8 b0_9 b0_10 b0_11 b0_12 b0_13)))))) (fun h16 => .t5 h16 <| .ret false))
  | .l14 x123 x124 x125 b0_0 b0_1 b0_2 b0_3 b0_4 b0_5 b0_6 b0_7 b0_8 b0_9 b0_10 b0_11 b0_12 b0_13 => .ite (x125 < x124) (fun h19 => .need (0 ≤ x125) fun h20 => .need (x125 < (x123.length : Int)) fun h21 => .call _ (f74 k (at' x123 x125)) fun t13 => .ite (t13 = true) (fun h22 => .t2 h22 <| .ite (0 < x125) (fun h23 => .t4 h23 <| .need (0 ≤ (IntKind.i64.wrap (x125 - 1))) fun h24 => .need ((IntKind.i64.wrap (x125 - 1)) < (b0_12.length : Int)) fun h25 => .t3 h23 <| .th h22 <| .th h23 <| .th h22 <| .ite ((at' x123 x125) ≤ (at' b0_12 (IntKind.i64.wrap (x125 - 1)))) (fun h26 => .ret false) (fun h26 => .jump (.l14 x123 x124 (IntKind.i64.wrap (x125 + 1)) b0_0 b0_1 b0_2 b0_3 b0_4 b0_5 b0_6 b0_7 b0_8 b0_9 b0_10 b0_11 b0_12 b0_13))) (fun h23 => .t7 h23 <| .th h22 <| .th h23 <| .th h22 <| .jump (.l14 x123 x124 (IntKind.i64.wrap (x125 + 1)) b0_0 b0_1 b0_2 b0_3 b0_4 b0_5 b0_6 b0_7 b0_8 b0_9 b0_10 b0_11 b0_12 b0_13))) (fun h22 => .t4 h22 <| .ret false)) (fun h19 => .ite (b0_10 = 0) (fun h27 => .ret (!decide (b0_11 = b0_0))) (fun h27 => .ite (b0_1 < 1) (fun h28 => .t5 h28 <| .ret false) (fun h28 => .t5 h28 <| .ite (b0_2 = b0_0) (fun h29 => .ite (b0_10 = 1) (fun h30 => .ret (!decide (b0_11 = b0_0))) (fun h30 => .ite (b0_11 = b0_0) (fun h31 => .th h31 <| .call _ (f79 k b0_0 b0_1 b0_2 b0_3 b0_4 b0_5 b0_6 b0_7 b0_8 b0_9 b0_10 b0_11 b0_12 b0_13) fun t14 => .th h31 <| .ret t14) (fun h31 => .t2 h31 <| .ret false))) (fun h29 => .ret false))))
abbrev f49.D : Nat → f49.L → Option (Bool) := PT.iter f49.blk
def f49.start (k : Nat) (a b c d e : Int) (g i : List Int) (j : ByteArray) (l : List S40) (m n p : Int) (u : List Int) (v : List S90) : PT (Bool) f49.L := .call _ (f74 k a) fun t1 => .ite (t1 = true) (fun h1 => .t2 h1 <| .call _ (f75 k b) fun t2 => .t2 h1 <| .ite (t2 = true) (fun h2 => .t2 h2 <| .call _ (f75 k c) fun t3 => .t2 h2 <| .ite (t3 = true) (fun h3 => .t2 h3 <| .call _ (f76 k d 0 999999999500) fun t4 => .t2 h3 <| .ite (t4 = true) (fun h4 => .t4 h4 <| .call _ (f76 k e 0 b) fun t5 => .t2 h4 <| .ite (t5 = true) (fun h5 => .t2 h5 <| .call _ (f75 k p) fun t6 => .t2 h5 <| .ite (t6 = true) (fun h6 => .t2 h6 <| .call _ (f77 k g i) fun t7 => .t2 h6 <| .ite (t7 = true) (fun h7 => .t4 h7 <| .ite (500 < (l.length : Int)) (fun h8 => .t4 h8 <| .ret false) (fun h8 => .t4 h8 <| .ite (20000 < (j.size : Int)) (fun h9 => .t4 h9 <| .ret false) (fun h9 => .t2 h9 <| .call _ (f76 k n 0 2) fun t8 => .t2 h9 <| .ite (t8 = true) (fun h10 => .jump (.l5 e l (l.length : Int) 0 a b c d e g i j l m n p u v)) (fun h10 => .ret false)))) (fun h7 => .t4 h7 <| .ret false)) (fun h6 => .t4 h6 <| .ret false)) (fun h5 => .t4 h5 <| .ret false)) (fun h4 => .t6 h4 <| .ret false)) (fun h3 => .t4 h3 <| .ret false)) (fun h2 => .t4 h2 <| .ret false)) (fun h1 => .t4 h1 <| .ret false)
def f49 (k : Nat) (a b c d e : Int) (g i : List Int) (j : ByteArray) (l : List S40) (m n p : Int) (u : List Int) (v : List S90) : Option (Bool) := (f49.start k a b c d e g i j l m n p u v).run (f49.D k)
def f49.o : (Bool) → V El × List (O El) := fun r => (.bb false r, [])
abbrev sf49 (k : Nat) : List (V G.El) → List (O G.El) → Q G.El (V G.El × List (O G.El)) := fun as' os' => lT os' <| na as' argA fun b' as' => nc b' (argI .i64) fun a b' => nc b' (argI .i64) fun b b' => nc b' (argI .i64) fun c b' => nc b' (argI .i64) fun d b' => nc b' (argI .i64) fun e b' => nc b' (argL 0) fun g b' => nc b' (argL 0) fun i b' => nc b' argS fun j b' => nc b' (argL 3) fun l b' => nc b' (argI .i64) fun m b' => nc b' (argI .i64) fun n b' => nc b' (argI .i64) fun p b' => nc b' (argL 0) fun u b' => nc b' (argL 4) fun v b' => argT b' <| lT as' <| .call _ (f49 k a b c d e g i j l m n p u v) fun r => .ret (f49.o r)
def f13.start (k : Nat) (a b c d e : Int) (g i : List Int) (j : ByteArray) (l : List S40) (m n p : Int) (u : List Int) (v : List S90) : PT (Bool) Empty := .call _ (f49 k a b c d e g i j l m n p u v) fun t1 => .ret t1
def f13 (k : Nat) (a b c d e : Int) (g i : List Int) (j : ByteArray) (l : List S40) (m n p : Int) (u : List Int) (v : List S90) : Option (Bool) := (f13.start k a b c d e g i j l m n p u v).run Empty.elim
inductive f50.L where
  | l4 (x0 : List Int) (x1 : List Int) (x5 : Int)
def f50.st : f50.L → Nat × S El
  | .l4 x0 x1 x5 => (4, ⟨26, .dead, [(0, .sl 0 x0 []), (1, .sl 0 x1 []), (5, .id .i64 6 x5)], [], 0, 0⟩)
def f50.blk (k : Nat) : f50.L → PT (Bool) f50.L
  | .l4 x0 x1 x5 => .ite (x5 < (x0.length : Int)) (fun h2 => .need (0 ≤ x5) fun h3 => .th h2 <| .th h3 <| .need (x5 < (x1.length : Int)) fun h4 => .ite ((at' x0 x5) = (at' x1 x5)) (fun h5 => .jump (.l4 x0 x1 (IntKind.i64.wrap (x5 + 1)))) (fun h5 => .ret false)) (fun h2 => .ret true)
abbrev f50.D : Nat → f50.L → Option (Bool) := PT.iter f50.blk
def f50.start (k : Nat) (a b : List Int) : PT (Bool) f50.L := .ite ((a.length : Int) = (b.length : Int)) (fun h1 => .jump (.l4 a b 0)) (fun h1 => .ret false)
def f50 (k : Nat) (a b : List Int) : Option (Bool) := (f50.start k a b).run (f50.D k)
def f50.o : (Bool) → V El × List (O El) := fun r => (.bb false r, [])
abbrev sf50 (k : Nat) : List (V G.El) → List (O G.El) → Q G.El (V G.El × List (O G.El)) := fun as' os' => lT os' <| na as' (argL 0) fun a as' => na as' (argL 0) fun b as' => lT as' <| .call _ (f50 k a b) fun r => .ret (f50.o r)
def f24.start (k : Nat) (a b c d : List Int) : PT (Bool) Empty := .call _ (f50 k a c) fun t1 => .ite (t1 = true) (fun h1 => .call _ (f50 k b d) fun t2 => .ite (t2 = true) (fun h2 => .ret true) (fun h2 => .ret false)) (fun h1 => .ret false)
def f24 (k : Nat) (a b c d : List Int) : Option (Bool) := (f24.start k a b c d).run Empty.elim
def f24.o : (Bool) → V El × List (O El) := fun r => (.bb false r, [])
abbrev sf24 (k : Nat) : List (V G.El) → List (O G.El) → Q G.El (V G.El × List (O G.El)) := fun as' os' => lT os' <| na as' argA fun b' as' => nc b' (argL 0) fun a b' => nc b' (argL 0) fun b b' => argT b' <| na as' argA fun b' as' => nc b' (argL 0) fun c b' => nc b' (argL 0) fun d b' => argT b' <| lT as' <| .call _ (f24 k a b c d) fun r => .ret (f24.o r)
def f17.start (k : Nat) (a b : Int) (c : ByteArray) (d e : Int) (g : ByteArray) : PT (Bool) Empty := .ite (a = d) (fun h1 => .ite (b = e) (fun h2 => .ite ((strEq c g) = true) (fun h3 => .ret true) (fun h3 => .ret false)) (fun h2 => .ret false)) (fun h1 => .ret false)
def f17 (k : Nat) (a b : Int) (c : ByteArray) (d e : Int) (g : ByteArray) : Option (Bool) := (f17.start k a b c d e g).run Empty.elim
def f17.o : (Bool) → V El × List (O El) := fun r => (.bb false r, [])
abbrev sf17 (k : Nat) : List (V G.El) → List (O G.El) → Q G.El (V G.El × List (O G.El)) := fun as' os' => lT os' <| na as' argA fun b' as' => nc b' (argI .i64) fun a b' => nc b' (argI .i64) fun b b' => nc b' argS fun c b' => argT b' <| na as' argA fun b' as' => nc b' (argI .i64) fun d b' => nc b' (argI .i64) fun e b' => nc b' argS fun g b' => argT b' <| lT as' <| .call _ (f17 k a b c d e g) fun r => .ret (f17.o r)
inductive f30.L where
  | l4 (x0 : List S40) (x1 : List S40) (x5 : Int)
def f30.st : f30.L → Nat × S El
  | .l4 x0 x1 x5 => (4, ⟨27, .dead, [(0, .sl 3 x0 []), (1, .sl 3 x1 []), (5, .id .i64 6 x5)], [], 0, 0⟩)
def f30.blk (k : Nat) : f30.L → PT (Bool) f30.L
  | .l4 x0 x1 x5 => .ite (x5 < (x0.length : Int)) (fun h2 => .need (0 ≤ x5) fun h3 => .th h2 <| .th h3 <| .need (x5 < (x1.length : Int)) fun h4 => .call _ (f17 k ((at' x0 x5).f0) ((at' x0 x5).f1) ((at' x0 x5).f2) ((at' x1 x5).f0) ((at' x1 x5).f1) ((at' x1 x5).f2)) fun t1 => .ite (t1 = true) (fun h5 => .jump (.l4 x0 x1 (IntKind.i64.wrap (x5 + 1)))) (fun h5 => .ret false)) (fun h2 => .ret true)
abbrev f30.D : Nat → f30.L → Option (Bool) := PT.iter f30.blk
def f30.start (k : Nat) (a b : List S40) : PT (Bool) f30.L := .ite ((a.length : Int) = (b.length : Int)) (fun h1 => .jump (.l4 a b 0)) (fun h1 => .ret false)
def f30 (k : Nat) (a b : List S40) : Option (Bool) := (f30.start k a b).run (f30.D k)
def f30.o : (Bool) → V El × List (O El) := fun r => (.bb false r, [])
abbrev sf30 (k : Nat) : List (V G.El) → List (O G.El) → Q G.El (V G.El × List (O G.El)) := fun as' os' => lT os' <| na as' (argL 3) fun a as' => na as' (argL 3) fun b as' => lT as' <| .call _ (f30 k a b) fun r => .ret (f30.o r)
def f80.start (k : Nat) (a b c d e g : Int) : PT (Bool) Empty := .ite (a = d) (fun h1 => .ite (b = e) (fun h2 => .ite (c = g) (fun h3 => .ret true) (fun h3 => .ret false)) (fun h2 => .ret false)) (fun h1 => .ret false)
def f80 (k : Nat) (a b c d e g : Int) : Option (Bool) := (f80.start k a b c d e g).run Empty.elim
def f80.o : (Bool) → V El × List (O El) := fun r => (.bb false r, [])
abbrev sf80 (k : Nat) : List (V G.El) → List (O G.El) → Q G.El (V G.El × List (O G.El)) := fun as' os' => lT os' <| na as' argA fun b' as' => nc b' (argI .i64) fun a b' => nc b' (argI .i64) fun b b' => nc b' (argI .i64) fun c b' => argT b' <| na as' argA fun b' as' => nc b' (argI .i64) fun d b' => nc b' (argI .i64) fun e b' => nc b' (argI .i64) fun g b' => argT b' <| lT as' <| .call _ (f80 k a b c d e g) fun r => .ret (f80.o r)
inductive f51.L where
  | l4 (x0 : List S90) (x1 : List S90) (x5 : Int)
def f51.st : f51.L → Nat × S El
  | .l4 x0 x1 x5 => (4, ⟨27, .dead, [(0, .sl 4 x0 []), (1, .sl 4 x1 []), (5, .id .i64 6 x5)], [], 0, 0⟩)
def f51.blk (k : Nat) : f51.L → PT (Bool) f51.L
  | .l4 x0 x1 x5 => .ite (x5 < (x0.length : Int)) (fun h2 => .need (0 ≤ x5) fun h3 => .th h2 <| .th h3 <| .need (x5 < (x1.length : Int)) fun h4 => .call _ (f80 k ((at' x0 x5).f0) ((at' x0 x5).f1) ((at' x0 x5).f2) ((at' x1 x5).f0) ((at' x1 x5).f1) ((at' x1 x5).f2)) fun t1 => .ite (t1 = true) (fun h5 => .jump (.l4 x0 x1 (IntKind.i64.wrap (x5 + 1)))) (fun h5 => .ret false)) (fun h2 => .ret true)
abbrev f51.D : Nat → f51.L → Option (Bool) := PT.iter f51.blk
def f51.start (k : Nat) (a b : List S90) : PT (Bool) f51.L := .ite ((a.length : Int) = (b.length : Int)) (fun h1 => .jump (.l4 a b 0)) (fun h1 => .ret false)
def f51 (k : Nat) (a b : List S90) : Option (Bool) := (f51.start k a b).run (f51.D k)
def f51.o : (Bool) → V El × List (O El) := fun r => (.bb false r, [])
abbrev sf51 (k : Nat) : List (V G.El) → List (O G.El) → Q G.El (V G.El × List (O G.El)) := fun as' os' => lT os' <| na as' (argL 4) fun a as' => na as' (argL 4) fun b as' => lT as' <| .call _ (f51 k a b) fun r => .ret (f51.o r)
def f14.start (k : Nat) (a b c d e : Int) (g i : List Int) (j : ByteArray) (l : List S40) (m n p : Int) (u : List Int) (v : List S90) (w y z ya yb : Int) (yc yd : List Int) (ye : ByteArray) (yf : List S40) (yg yh yi : Int) (yj : List Int) (yk : List S90) : PT (Bool) Empty := .ite (a = w) (fun h1 => .ite (b = y) (fun h2 => .ite (c = z) (fun h3 => .ite (d = ya) (fun h4 => .ite (e = yb) (fun h5 => .call _ (f24 k g i yc yd) fun t1 => .ite (t1 = true) (fun h6 => .ite ((strEq j ye) = true) (fun h7 => .call _ (f30 k l yf) fun t2 => .ite (t2 = true) (fun h8 => .ite (m = yg) (fun h9 => .ite (n = yh) (fun h10 => .ite (p = yi) (fun h11 => .call _ (f50 k u yj) fun t3 => .ite (t3 = true) (fun h12 => .call _ (f51 k v yk) fun t4 => .ite (t4 = true) (fun h13 => .ret true) (fun h13 => .ret false)) (fun h12 => .ret false)) (fun h11 => .ret false)) (fun h10 => .ret false)) (fun h9 => .ret false)) (fun h8 => .ret false)) (fun h7 => .ret false)) (fun h6 => .ret false)) (fun h5 => .ret false)) (fun h4 => .ret false)) (fun h3 => .ret false)) (fun h2 => .ret false)) (fun h1 => .ret false)
def f14 (k : Nat) (a b c d e : Int) (g i : List Int) (j : ByteArray) (l : List S40) (m n p : Int) (u : List Int) (v : List S90) (w y z ya yb : Int) (yc yd : List Int) (ye : ByteArray) (yf : List S40) (yg yh yi : Int) (yj : List Int) (yk : List S90) : Option (Bool) := (f14.start k a b c d e g i j l m n p u v w y z ya yb yc yd ye yf yg yh yi yj yk).run Empty.elim
def f14.o : (Bool) → V El × List (O El) := fun r => (.bb false r, [])
abbrev sf14 (k : Nat) : List (V G.El) → List (O G.El) → Q G.El (V G.El × List (O G.El)) := fun as' os' => lT os' <| na as' argA fun b' as' => nc b' (argI .i64) fun a b' => nc b' (argI .i64) fun b b' => nc b' (argI .i64) fun c b' => nc b' (argI .i64) fun d b' => nc b' (argI .i64) fun e b' => nc b' (argL 0) fun g b' => nc b' (argL 0) fun i b' => nc b' argS fun j b' => nc b' (argL 3) fun l b' => nc b' (argI .i64) fun m b' => nc b' (argI .i64) fun n b' => nc b' (argI .i64) fun p b' => nc b' (argL 0) fun u b' => nc b' (argL 4) fun v b' => argT b' <| na as' argA fun b' as' => nc b' (argI .i64) fun w b' => nc b' (argI .i64) fun y b' => nc b' (argI .i64) fun z b' => nc b' (argI .i64) fun ya b' => nc b' (argI .i64) fun yb b' => nc b' (argL 0) fun yc b' => nc b' (argL 0) fun yd b' => nc b' argS fun ye b' => nc b' (argL 3) fun yf b' => nc b' (argI .i64) fun yg b' => nc b' (argI .i64) fun yh b' => nc b' (argI .i64) fun yi b' => nc b' (argL 0) fun yj b' => nc b' (argL 4) fun yk b' => argT b' <| lT as' <| .call _ (f14 k a b c d e g i j l m n p u v w y z ya yb yc yd ye yf yg yh yi yj yk) fun r => .ret (f14.o r)
def f3.start (k : Nat) (a b c d e : Int) (g i : List Int) (j : ByteArray) (l : List S85) (m n p : Int) (u : List Int) (v : List S92) : PT (Bool) Empty := .call _ (f10 k a b c d e g i j l m n p u v 1048576) fun t1 => .ite (t1 < 0) (fun h1 => .ret true) (fun h1 => .callh _ (f12 k a b c d e g i j l m n p u v) fun t2 ht2 => .tr t2.2.2.2.2.2.2.2.2.2.1.length <| .tr t2.2.2.2.2.2.2.2.2.2.2.1.length <| .tr t2.2.2.2.2.2.2.2.2.2.2.2.1.length <| .tr t2.2.2.2.2.2.2.2.2.2.2.2.2.1.length <| .tr t2.2.2.2.2.2.2.2.2.2.2.2.2.2.length <| .call _ (f11 k t2.1 t2.2.1 t2.2.2.1 t2.2.2.2.1 t2.2.2.2.2.1 t2.2.2.2.2.2.2.2.2.2.1 t2.2.2.2.2.2.2.2.2.2.2.1 t2.2.2.2.2.2.1 t2.2.2.2.2.2.2.2.2.2.2.2.1 t2.2.2.2.2.2.2.1 t2.2.2.2.2.2.2.2.1 t2.2.2.2.2.2.2.2.2.1 t2.2.2.2.2.2.2.2.2.2.2.2.2.1 t2.2.2.2.2.2.2.2.2.2.2.2.2.2) fun t3 => .recall _ (f12 k a b c d e g i j l m n p u v) t2 ht2 <| .tr t2.2.2.2.2.2.2.2.2.2.1.length <| .tr t2.2.2.2.2.2.2.2.2.2.2.1.length <| .tr t2.2.2.2.2.2.2.2.2.2.2.2.1.length <| .tr t2.2.2.2.2.2.2.2.2.2.2.2.2.1.length <| .tr t2.2.2.2.2.2.2.2.2.2.2.2.2.2.length <| .call _ (f13 k t2.1 t2.2.1 t2.2.2.1 t2.2.2.2.1 t2.2.2.2.2.1 t2.2.2.2.2.2.2.2.2.2.1 t2.2.2.2.2.2.2.2.2.2.2.1 t2.2.2.2.2.2.1 t2.2.2.2.2.2.2.2.2.2.2.2.1 t2.2.2.2.2.2.2.1 t2.2.2.2.2.2.2.2.1 t2.2.2.2.2.2.2.2.2.1 t2.2.2.2.2.2.2.2.2.2.2.2.2.1 t2.2.2.2.2.2.2.2.2.2.2.2.2.2) fun t4 => .ite ((t4 == t3) = true) (fun h2 => .recall _ (f12 k a b c d e g i j l m n p u v) t2 ht2 <| .tr t2.2.2.2.2.2.2.2.2.2.1.length <| .tr t2.2.2.2.2.2.2.2.2.2.2.1.length <| .tr t2.2.2.2.2.2.2.2.2.2.2.2.1.length <| .tr t2.2.2.2.2.2.2.2.2.2.2.2.2.1.length <| .tr t2.2.2.2.2.2.2.2.2.2.2.2.2.2.length <| .tr t2.2.2.2.2.2.2.2.2.2.1.length <| .tr t2.2.2.2.2.2.2.2.2.2.2.1.length <| .tr t2.2.2.2.2.2.2.2.2.2.2.2.1.length <| .tr t2.2.2.2.2.2.2.2.2.2.2.2.2.1.length <| .tr t2.2.2.2.2.2.2.2.2.2.2.2.2.2.length <| .call _ (f14 k t2.1 t2.2.1 t2.2.2.1 t2.2.2.2.1 t2.2.2.2.2.1 t2.2.2.2.2.2.2.2.2.2.1 t2.2.2.2.2.2.2.2.2.2.2.1 t2.2.2.2.2.2.1 t2.2.2.2.2.2.2.2.2.2.2.2.1 t2.2.2.2.2.2.2.1 t2.2.2.2.2.2.2.2.1 t2.2.2.2.2.2.2.2.2.1 t2.2.2.2.2.2.2.2.2.2.2.2.2.1 t2.2.2.2.2.2.2.2.2.2.2.2.2.2 t2.1 t2.2.1 t2.2.2.1 t2.2.2.2.1 t2.2.2.2.2.1 t2.2.2.2.2.2.2.2.2.2.1 t2.2.2.2.2.2.2.2.2.2.2.1 t2.2.2.2.2.2.1 t2.2.2.2.2.2.2.2.2.2.2.2.1 t2.2.2.2.2.2.2.1 t2.2.2.2.2.2.2.2.1 t2.2.2.2.2.2.2.2.2.1 t2.2.2.2.2.2.2.2.2.2.2.2.2.1 t2.2.2.2.2.2.2.2.2.2.2.2.2.2) fun t5 => .ite (t5 = true) (fun h3 => .ret true) (fun h3 => .ret false)) (fun h2 => .ret false))
def f3 (k : Nat) (a b c d e : Int) (g i : List Int) (j : ByteArray) (l : List S85) (m n p : Int) (u : List Int) (v : List S92) : Option (Bool) := (f3.start k a b c d e g i j l m n p u v).run Empty.elim
def f15.start (k : Nat) (a b c d e : Int) (g i : List Int) (j : ByteArray) (l : List S40) (m n p : Int) (u : List Int) (v : List S90) (w : Int) : PT (Int × Int × ByteArray × Bool) Empty := .call _ (f11 k a b c d e g i j l m n p u v) fun t1 => .ite (t1 = true) (fun h1 => .t5 h1 <| .call _ (f43 k a b c d e g i j l m n p u v) fun t2 => .th h1 <| .call _ (f41 k w (IntKind.i64.wrap (d + 1)) t2) fun t3 => .t2 h1 <| .ite (t3 = true) (fun h2 => .need (0 ≤ (IntKind.i64.wrap ((IntKind.i64.wrap (w - d)) - 1))) fun h3 => .need ((IntKind.i64.wrap ((IntKind.i64.wrap (w - d)) - 1)) < (l.length : Int)) fun h4 => .ret ((at' l (IntKind.i64.wrap ((IntKind.i64.wrap (w - d)) - 1))).f0, (at' l (IntKind.i64.wrap ((IntKind.i64.wrap (w - d)) - 1))).f1, (at' l (IntKind.i64.wrap ((IntKind.i64.wrap (w - d)) - 1))).f2, true)) (fun h2 => .ret (0, 0, (⟨#[]⟩ : ByteArray), false))) (fun h1 => .t8 h1 <| .ret (0, 0, (⟨#[]⟩ : ByteArray), false))
def f15 (k : Nat) (a b c d e : Int) (g i : List Int) (j : ByteArray) (l : List S40) (m n p : Int) (u : List Int) (v : List S90) (w : Int) : Option (Int × Int × ByteArray × Bool) := (f15.start k a b c d e g i j l m n p u v w).run Empty.elim
def f16.start (k : Nat) (a b c d e : Int) (g i : List Int) (j : ByteArray) (l : List S40) (m n p : Int) (u : List Int) (v : List S90) (w : Int) : PT (Int × Int × ByteArray × Bool) Empty := .call _ (f49 k a b c d e g i j l m n p u v) fun t1 => .ite (t1 = true) (fun h1 => .t4 h1 <| .ite (w ≤ d) (fun h2 => .t4 h2 <| .ret (0, 0, (⟨#[]⟩ : ByteArray), false)) (fun h2 => .t2 h2 <| .call _ (f52 k a b c d e g i j l m n p u v) fun t2 => .t2 h2 <| .ite (t2 < w) (fun h3 => .ret (0, 0, (⟨#[]⟩ : ByteArray), false)) (fun h3 => .need (0 ≤ (IntKind.i64.wrap ((IntKind.i64.wrap (w - d)) - 1))) fun h4 => .need ((IntKind.i64.wrap ((IntKind.i64.wrap (w - d)) - 1)) < (l.length : Int)) fun h5 => .ret ((at' l (IntKind.i64.wrap ((IntKind.i64.wrap (w - d)) - 1))).f0, (at' l (IntKind.i64.wrap ((IntKind.i64.wrap (w - d)) - 1))).f1, (at' l (IntKind.i64.wrap ((IntKind.i64.wrap (w - d)) - 1))).f2, true)))) (fun h1 => .t4 h1 <| .ret (0, 0, (⟨#[]⟩ : ByteArray), false))
def f16 (k : Nat) (a b c d e : Int) (g i : List Int) (j : ByteArray) (l : List S40) (m n p : Int) (u : List Int) (v : List S90) (w : Int) : Option (Int × Int × ByteArray × Bool) := (f16.start k a b c d e g i j l m n p u v w).run Empty.elim
def f4.start (k : Nat) (a b c d e : Int) (g i : List Int) (j : ByteArray) (l : List S85) (m n p : Int) (u : List Int) (v : List S92) (w : Int) : PT (Bool) Empty := .call _ (f10 k a b c d e g i j l m n p u v 1048576) fun t1 => .ite (t1 < 0) (fun h1 => .ret true) (fun h1 => .callh _ (f12 k a b c d e g i j l m n p u v) fun t2 ht2 => .tr t2.2.2.2.2.2.2.2.2.2.1.length <| .tr t2.2.2.2.2.2.2.2.2.2.2.1.length <| .tr t2.2.2.2.2.2.2.2.2.2.2.2.1.length <| .tr t2.2.2.2.2.2.2.2.2.2.2.2.2.1.length <| .tr t2.2.2.2.2.2.2.2.2.2.2.2.2.2.length <| .call _ (f15 k t2.1 t2.2.1 t2.2.2.1 t2.2.2.2.1 t2.2.2.2.2.1 t2.2.2.2.2.2.2.2.2.2.1 t2.2.2.2.2.2.2.2.2.2.2.1 t2.2.2.2.2.2.1 t2.2.2.2.2.2.2.2.2.2.2.2.1 t2.2.2.2.2.2.2.1 t2.2.2.2.2.2.2.2.1 t2.2.2.2.2.2.2.2.2.1 t2.2.2.2.2.2.2.2.2.2.2.2.2.1 t2.2.2.2.2.2.2.2.2.2.2.2.2.2 w) fun t3 => .recall _ (f12 k a b c d e g i j l m n p u v) t2 ht2 <| .tr t2.2.2.2.2.2.2.2.2.2.1.length <| .tr t2.2.2.2.2.2.2.2.2.2.2.1.length <| .tr t2.2.2.2.2.2.2.2.2.2.2.2.1.length <| .tr t2.2.2.2.2.2.2.2.2.2.2.2.2.1.length <| .tr t2.2.2.2.2.2.2.2.2.2.2.2.2.2.length <| .call _ (f16 k t2.1 t2.2.1 t2.2.2.1 t2.2.2.2.1 t2.2.2.2.2.1 t2.2.2.2.2.2.2.2.2.2.1 t2.2.2.2.2.2.2.2.2.2.2.1 t2.2.2.2.2.2.1 t2.2.2.2.2.2.2.2.2.2.2.2.1 t2.2.2.2.2.2.2.1 t2.2.2.2.2.2.2.2.1 t2.2.2.2.2.2.2.2.2.1 t2.2.2.2.2.2.2.2.2.2.2.2.2.1 t2.2.2.2.2.2.2.2.2.2.2.2.2.2 w) fun t4 => .call _ (f17 k t4.1 t4.2.1 t4.2.2.1 t3.1 t3.2.1 t3.2.2.1) fun t5 => .ite (t5 = true) (fun h2 => .t3 h2 <| .ite ((t4.2.2.2 == t3.2.2.2) = true) (fun h3 => .recall _ (f12 k a b c d e g i j l m n p u v) t2 ht2 <| .tr t2.2.2.2.2.2.2.2.2.2.1.length <| .tr t2.2.2.2.2.2.2.2.2.2.2.1.length <| .tr t2.2.2.2.2.2.2.2.2.2.2.2.1.length <| .tr t2.2.2.2.2.2.2.2.2.2.2.2.2.1.length <| .tr t2.2.2.2.2.2.2.2.2.2.2.2.2.2.length <| .tr t2.2.2.2.2.2.2.2.2.2.1.length <| .tr t2.2.2.2.2.2.2.2.2.2.2.1.length <| .tr t2.2.2.2.2.2.2.2.2.2.2.2.1.length <| .tr t2.2.2.2.2.2.2.2.2.2.2.2.2.1.length <| .tr t2.2.2.2.2.2.2.2.2.2.2.2.2.2.length <| .call _ (f14 k t2.1 t2.2.1 t2.2.2.1 t2.2.2.2.1 t2.2.2.2.2.1 t2.2.2.2.2.2.2.2.2.2.1 t2.2.2.2.2.2.2.2.2.2.2.1 t2.2.2.2.2.2.1 t2.2.2.2.2.2.2.2.2.2.2.2.1 t2.2.2.2.2.2.2.1 t2.2.2.2.2.2.2.2.1 t2.2.2.2.2.2.2.2.2.1 t2.2.2.2.2.2.2.2.2.2.2.2.2.1 t2.2.2.2.2.2.2.2.2.2.2.2.2.2 t2.1 t2.2.1 t2.2.2.1 t2.2.2.2.1 t2.2.2.2.2.1 t2.2.2.2.2.2.2.2.2.2.1 t2.2.2.2.2.2.2.2.2.2.2.1 t2.2.2.2.2.2.1 t2.2.2.2.2.2.2.2.2.2.2.2.1 t2.2.2.2.2.2.2.1 t2.2.2.2.2.2.2.2.1 t2.2.2.2.2.2.2.2.2.1 t2.2.2.2.2.2.2.2.2.2.2.2.2.1 t2.2.2.2.2.2.2.2.2.2.2.2.2.2) fun t6 => .ite (t6 = true) (fun h4 => .ret true) (fun h4 => .ret false)) (fun h3 => .ret false)) (fun h2 => .t3 h2 <| .ret false))
def f4 (k : Nat) (a b c d e : Int) (g i : List Int) (j : ByteArray) (l : List S85) (m n p : Int) (u : List Int) (v : List S92) (w : Int) : Option (Bool) := (f4.start k a b c d e g i j l m n p u v w).run Empty.elim
def f53.start (k : Nat) (a b c d e : Int) (g i : List Int) (j : ByteArray) (l : List S40) (m n p : Int) (u : List Int) (v : List S90) (w : Int) : PT (Int) Empty := .ite (w = d) (fun h1 => .ret e) (fun h1 => .ite (w < d) (fun h2 => .t4 h2 <| .ret (-1)) (fun h2 => .t2 h2 <| .call _ (f43 k a b c d e g i j l m n p u v) fun t1 => .t2 h2 <| .ite (t1 < w) (fun h3 => .ret (-1)) (fun h3 => .need (0 ≤ (IntKind.i64.wrap ((IntKind.i64.wrap (w - d)) - 1))) fun h4 => .need ((IntKind.i64.wrap ((IntKind.i64.wrap (w - d)) - 1)) < (l.length : Int)) fun h5 => .ret ((at' l (IntKind.i64.wrap ((IntKind.i64.wrap (w - d)) - 1))).f0))))
def f53 (k : Nat) (a b c d e : Int) (g i : List Int) (j : ByteArray) (l : List S40) (m n p : Int) (u : List Int) (v : List S90) (w : Int) : Option (Int) := (f53.start k a b c d e g i j l m n p u v w).run Empty.elim
def f53.o : (Int) → V El × List (O El) := fun r => (.id .i64 0 r, [])
abbrev sf53 (k : Nat) : List (V G.El) → List (O G.El) → Q G.El (V G.El × List (O G.El)) := fun as' os' => lT os' <| na as' argA fun b' as' => nc b' (argI .i64) fun a b' => nc b' (argI .i64) fun b b' => nc b' (argI .i64) fun c b' => nc b' (argI .i64) fun d b' => nc b' (argI .i64) fun e b' => nc b' (argL 0) fun g b' => nc b' (argL 0) fun i b' => nc b' argS fun j b' => nc b' (argL 3) fun l b' => nc b' (argI .i64) fun m b' => nc b' (argI .i64) fun n b' => nc b' (argI .i64) fun p b' => nc b' (argL 0) fun u b' => nc b' (argL 4) fun v b' => argT b' <| na as' (argI .i64) fun w as' => lT as' <| .call _ (f53 k a b c d e g i j l m n p u v w) fun r => .ret (f53.o r)
def f18.start (k : Nat) (a b c d e : Int) (g i : List Int) (j : ByteArray) (l : List S40) (m n p : Int) (u : List Int) (v : List S90) : PT (Int × Int) Empty := .call _ (f11 k a b c d e g i j l m n p u v) fun t1 => .ite (t1 = true) (fun h1 => .callh _ (f43 k a b c d e g i j l m n p u v) fun t2 ht2 => .recall _ (f43 k a b c d e g i j l m n p u v) t2 ht2 <| .call _ (f53 k a b c d e g i j l m n p u v t2) fun t3 => .ret (t2, t3)) (fun h1 => .ret ((-1), (-1)))
def f18 (k : Nat) (a b c d e : Int) (g i : List Int) (j : ByteArray) (l : List S40) (m n p : Int) (u : List Int) (v : List S90) : Option (Int × Int) := (f18.start k a b c d e g i j l m n p u v).run Empty.elim
def f54.start (k : Nat) (a b c d e : Int) (g i : List Int) (j : ByteArray) (l : List S40) (m n p : Int) (u : List Int) (v : List S90) (w : Int) : PT (Int) Empty := .ite (w = d) (fun h1 => .ret e) (fun h1 => .need (0 ≤ (IntKind.i64.wrap ((IntKind.i64.wrap (w - d)) - 1))) fun h2 => .need ((IntKind.i64.wrap ((IntKind.i64.wrap (w - d)) - 1)) < (l.length : Int)) fun h3 => .ret ((at' l (IntKind.i64.wrap ((IntKind.i64.wrap (w - d)) - 1))).f0))
def f54 (k : Nat) (a b c d e : Int) (g i : List Int) (j : ByteArray) (l : List S40) (m n p : Int) (u : List Int) (v : List S90) (w : Int) : Option (Int) := (f54.start k a b c d e g i j l m n p u v w).run Empty.elim
def f54.o : (Int) → V El × List (O El) := fun r => (.id .i64 0 r, [])
abbrev sf54 (k : Nat) : List (V G.El) → List (O G.El) → Q G.El (V G.El × List (O G.El)) := fun as' os' => lT os' <| na as' argA fun b' as' => nc b' (argI .i64) fun a b' => nc b' (argI .i64) fun b b' => nc b' (argI .i64) fun c b' => nc b' (argI .i64) fun d b' => nc b' (argI .i64) fun e b' => nc b' (argL 0) fun g b' => nc b' (argL 0) fun i b' => nc b' argS fun j b' => nc b' (argL 3) fun l b' => nc b' (argI .i64) fun m b' => nc b' (argI .i64) fun n b' => nc b' (argI .i64) fun p b' => nc b' (argL 0) fun u b' => nc b' (argL 4) fun v b' => argT b' <| na as' (argI .i64) fun w as' => lT as' <| .call _ (f54 k a b c d e g i j l m n p u v w) fun r => .ret (f54.o r)
def f19.start (k : Nat) (a b c d e : Int) (g i : List Int) (j : ByteArray) (l : List S40) (m n p : Int) (u : List Int) (v : List S90) : PT (Int × Int) Empty := .call _ (f49 k a b c d e g i j l m n p u v) fun t1 => .ite (t1 = true) (fun h1 => .callh _ (f52 k a b c d e g i j l m n p u v) fun t2 ht2 => .recall _ (f52 k a b c d e g i j l m n p u v) t2 ht2 <| .call _ (f54 k a b c d e g i j l m n p u v t2) fun t3 => .ret (t2, t3)) (fun h1 => .ret ((-1), (-1)))
def f19 (k : Nat) (a b c d e : Int) (g i : List Int) (j : ByteArray) (l : List S40) (m n p : Int) (u : List Int) (v : List S90) : Option (Int × Int) := (f19.start k a b c d e g i j l m n p u v).run Empty.elim
def f5.start (k : Nat) (a b c d e : Int) (g i : List Int) (j : ByteArray) (l : List S85) (m n p : Int) (u : List Int) (v : List S92) : PT (Bool) Empty := .call _ (f10 k a b c d e g i j l m n p u v 1048576) fun t1 => .ite (t1 < 0) (fun h1 => .ret true) (fun h1 => .callh _ (f12 k a b c d e g i j l m n p u v) fun t2 ht2 => .tr t2.2.2.2.2.2.2.2.2.2.1.length <| .tr t2.2.2.2.2.2.2.2.2.2.2.1.length <| .tr t2.2.2.2.2.2.2.2.2.2.2.2.1.length <| .tr t2.2.2.2.2.2.2.2.2.2.2.2.2.1.length <| .tr t2.2.2.2.2.2.2.2.2.2.2.2.2.2.length <| .call _ (f18 k t2.1 t2.2.1 t2.2.2.1 t2.2.2.2.1 t2.2.2.2.2.1 t2.2.2.2.2.2.2.2.2.2.1 t2.2.2.2.2.2.2.2.2.2.2.1 t2.2.2.2.2.2.1 t2.2.2.2.2.2.2.2.2.2.2.2.1 t2.2.2.2.2.2.2.1 t2.2.2.2.2.2.2.2.1 t2.2.2.2.2.2.2.2.2.1 t2.2.2.2.2.2.2.2.2.2.2.2.2.1 t2.2.2.2.2.2.2.2.2.2.2.2.2.2) fun t3 => .recall _ (f12 k a b c d e g i j l m n p u v) t2 ht2 <| .tr t2.2.2.2.2.2.2.2.2.2.1.length <| .tr t2.2.2.2.2.2.2.2.2.2.2.1.length <| .tr t2.2.2.2.2.2.2.2.2.2.2.2.1.length <| .tr t2.2.2.2.2.2.2.2.2.2.2.2.2.1.length <| .tr t2.2.2.2.2.2.2.2.2.2.2.2.2.2.length <| .call _ (f19 k t2.1 t2.2.1 t2.2.2.1 t2.2.2.2.1 t2.2.2.2.2.1 t2.2.2.2.2.2.2.2.2.2.1 t2.2.2.2.2.2.2.2.2.2.2.1 t2.2.2.2.2.2.1 t2.2.2.2.2.2.2.2.2.2.2.2.1 t2.2.2.2.2.2.2.1 t2.2.2.2.2.2.2.2.1 t2.2.2.2.2.2.2.2.2.1 t2.2.2.2.2.2.2.2.2.2.2.2.2.1 t2.2.2.2.2.2.2.2.2.2.2.2.2.2) fun t4 => .ite (t4.1 = t3.1) (fun h2 => .t3 h2 <| .ite (t4.2 = t3.2) (fun h3 => .recall _ (f12 k a b c d e g i j l m n p u v) t2 ht2 <| .tr t2.2.2.2.2.2.2.2.2.2.1.length <| .tr t2.2.2.2.2.2.2.2.2.2.2.1.length <| .tr t2.2.2.2.2.2.2.2.2.2.2.2.1.length <| .tr t2.2.2.2.2.2.2.2.2.2.2.2.2.1.length <| .tr t2.2.2.2.2.2.2.2.2.2.2.2.2.2.length <| .tr t2.2.2.2.2.2.2.2.2.2.1.length <| .tr t2.2.2.2.2.2.2.2.2.2.2.1.length <| .tr t2.2.2.2.2.2.2.2.2.2.2.2.1.length <| .tr t2.2.2.2.2.2.2.2.2.2.2.2.2.1.length <| .tr t2.2.2.2.2.2.2.2.2.2.2.2.2.2.length <| .call _ (f14 k t2.1 t2.2.1 t2.2.2.1 t2.2.2.2.1 t2.2.2.2.2.1 t2.2.2.2.2.2.2.2.2.2.1 t2.2.2.2.2.2.2.2.2.2.2.1 t2.2.2.2.2.2.1 t2.2.2.2.2.2.2.2.2.2.2.2.1 t2.2.2.2.2.2.2.1 t2.2.2.2.2.2.2.2.1 t2.2.2.2.2.2.2.2.2.1 t2.2.2.2.2.2.2.2.2.2.2.2.2.1 t2.2.2.2.2.2.2.2.2.2.2.2.2.2 t2.1 t2.2.1 t2.2.2.1 t2.2.2.2.1 t2.2.2.2.2.1 t2.2.2.2.2.2.2.2.2.2.1 t2.2.2.2.2.2.2.2.2.2.2.1 t2.2.2.2.2.2.1 t2.2.2.2.2.2.2.2.2.2.2.2.1 t2.2.2.2.2.2.2.1 t2.2.2.2.2.2.2.2.1 t2.2.2.2.2.2.2.2.2.1 t2.2.2.2.2.2.2.2.2.2.2.2.2.1 t2.2.2.2.2.2.2.2.2.2.2.2.2.2) fun t5 => .ite (t5 = true) (fun h4 => .ret true) (fun h4 => .ret false)) (fun h3 => .ret false)) (fun h2 => .t3 h2 <| .ret false))
def f5 (k : Nat) (a b c d e : Int) (g i : List Int) (j : ByteArray) (l : List S85) (m n p : Int) (u : List Int) (v : List S92) : Option (Bool) := (f5.start k a b c d e g i j l m n p u v).run Empty.elim
def f21.start (k : Nat) (a : Int) (b c : List Int) : PT (Int × Int × Int × Int × Int × ByteArray × Int × Int × Int × Bool × (List Int) × (List Int) × (List S40) × (List Int) × (List S90)) Empty := .call _ (f55 k b c) fun t1 => .tr t1.1.length <| .tr t1.2.length <| .call _ (f11 k a 0 0 0 0 t1.1 t1.2 (⟨#[]⟩ : ByteArray) ([] : List S40) 0 0 0 ([] : List Int) ([] : List S90)) fun t2 => .ite (t2 = true) (fun h1 => .tr t1.1.length <| .tr t1.2.length <| .triv (0 = ([] : List S40).length) tv <| .triv (0 = ([] : List Int).length) tv <| .triv (0 = ([] : List S90).length) tv <| .ret (a, 0, 0, 0, 0, (⟨#[]⟩ : ByteArray), 0, 0, 0, true, t1.1, t1.2, ([] : List S40), ([] : List Int), ([] : List S90))) (fun h1 => .triv (0 = ([] : List Int).length) tv <| .triv (0 = ([] : List Int).length) tv <| .triv (0 = ([] : List S40).length) tv <| .triv (0 = ([] : List Int).length) tv <| .triv (0 = ([] : List S90).length) tv <| .ret (0, 0, 0, 0, 0, (⟨#[]⟩ : ByteArray), 0, 0, 0, false, ([] : List Int), ([] : List Int), ([] : List S40), ([] : List Int), ([] : List S90)))
def f21 (k : Nat) (a : Int) (b c : List Int) : Option (Int × Int × Int × Int × Int × ByteArray × Int × Int × Int × Bool × (List Int) × (List Int) × (List S40) × (List Int) × (List S90)) := (f21.start k a b c).run Empty.elim
def f56.start (k : Nat) (a b : List Int) : PT ((List Int) × (List Int)) Empty := .triv (0 = ([] : List Int).length) tv <| .need (a.length * 8 ≤ 70368744177664) fun h1 => .triv (a.length ≤ 70368744177664) tv <| .triv (0 = ([] : List Int).length) tv <| .need (b.length * 8 ≤ 70368744177664) fun h2 => .triv (b.length ≤ 70368744177664) tv <| .tr a.length <| .tr b.length <| .ret (a, b)
def f56 (k : Nat) (a b : List Int) : Option ((List Int) × (List Int)) := (f56.start k a b).run Empty.elim
def f56.o : ((List Int) × (List Int)) → V El × List (O El) := fun r => (.agg [.win 0 true (.l 0) (.d 0 r.1.length), .win 1 true (.l 0) (.d 0 r.2.length)], [.row true true true 0 0 r.1 none, .row true true true 0 0 r.2 none])
abbrev sf56 (k : Nat) : List (V G.El) → List (O G.El) → Q G.El (V G.El × List (O G.El)) := fun as' os' => lT os' <| na as' argA fun b' as' => nc b' (argL 0) fun a b' => nc b' (argL 0) fun b b' => argT b' <| lT as' <| .call _ (f56 k a b) fun r => .ret (f56.o r)
def f23.start (k : Nat) (a : Int) (b c : List Int) : PT (Int × Int × Int × Int × Int × ByteArray × Int × Int × Int × Bool × (List Int) × (List Int) × (List S40) × (List Int) × (List S90)) Empty := .call _ (f56 k b c) fun t1 => .tr t1.1.length <| .tr t1.2.length <| .call _ (f49 k a 0 0 0 0 t1.1 t1.2 (⟨#[]⟩ : ByteArray) ([] : List S40) 0 0 0 ([] : List Int) ([] : List S90)) fun t2 => .ite (t2 = true) (fun h1 => .tr t1.1.length <| .tr t1.2.length <| .triv (0 = ([] : List S40).length) tv <| .triv (0 = ([] : List Int).length) tv <| .triv (0 = ([] : List S90).length) tv <| .ret (a, 0, 0, 0, 0, (⟨#[]⟩ : ByteArray), 0, 0, 0, true, t1.1, t1.2, ([] : List S40), ([] : List Int), ([] : List S90))) (fun h1 => .triv (0 = ([] : List Int).length) tv <| .triv (0 = ([] : List Int).length) tv <| .triv (0 = ([] : List S40).length) tv <| .triv (0 = ([] : List Int).length) tv <| .triv (0 = ([] : List S90).length) tv <| .ret (0, 0, 0, 0, 0, (⟨#[]⟩ : ByteArray), 0, 0, 0, false, ([] : List Int), ([] : List Int), ([] : List S40), ([] : List Int), ([] : List S90)))
def f23 (k : Nat) (a : Int) (b c : List Int) : Option (Int × Int × Int × Int × Int × ByteArray × Int × Int × Int × Bool × (List Int) × (List Int) × (List S40) × (List Int) × (List S90)) := (f23.start k a b c).run Empty.elim
inductive f57.L where
  | l2 (q0 : List Int) (x1 : Int) (x5 : Int)
def f57.st : f57.L → Nat × S El
  | .l2 q0 x1 x5 => (2, ⟨19, .dead, [(0, .win 0 true (.l 0) (.d 0 q0.length)), (1, .id .i64 2 x1), (5, .id .i64 6 x5)], [(0, .row true true true 0 0 q0 none)], 1, 1⟩)
def f57.blk (k : Nat) : f57.L → PT (Int × (List Int)) f57.L
  | .l2 q0 x1 x5 => .ite (x5 < (q0.length : Int)) (fun h1 => .need (0 ≤ x5) fun h2 => .th h1 <| .triv (x5.toNat < q0.length) tv <| .tr q0.length <| .jump (.l2 (q0.set x5.toNat x1) (IntKind.i64.wrap (x1 + 1)) (IntKind.i64.wrap (x5 + 1)))) (fun h1 => .ret (x1, q0))
abbrev f57.D : Nat → f57.L → Option (Int × (List Int)) := PT.iter f57.blk
def f57.start (k : Nat) (a : Int) (o0 : List Int) : PT (Int × (List Int)) f57.L := .tr o0.length <| .jump (.l2 o0 a 0)
def f57 (k : Nat) (a : Int) (o0 : List Int) : Option (Int × (List Int)) := (f57.start k a o0).run (f57.D k)
def f57.o : (Int × (List Int)) → V El × List (O El) := fun r => (.id .i64 0 r.1, [.row true true true 0 0 r.2 none])
abbrev sf57 (k : Nat) : List (V G.El) → List (O G.El) → Q G.El (V G.El × List (O G.El)) := fun as' os' => lH os' fun x0' os' => lT os' <| argR 0 x0' fun o0 => na0 as' (argW 0 o0.length) fun as' => na as' (argI .i64) fun a as' => lT as' <| .call _ (f57 k a o0) fun r => .ret (.id .i64 0 r.1, [.row true true false 0 0 r.2 none])
def f25.start (k : Nat) (a : Int) (o0 o1 : List Int) : PT (Int × (List Int) × (List Int)) Empty := .tr o0.length <| .call _ (f57 k a o0) fun t1 => .tr o1.length <| .call _ (f57 k t1.1 o1) fun t2 => .ret (t2.1, t1.2, t2.2)
def f25 (k : Nat) (a : Int) (o0 o1 : List Int) : Option (Int × (List Int) × (List Int)) := (f25.start k a o0 o1).run Empty.elim
def f25.o : (Int × (List Int) × (List Int)) → V El × List (O El) := fun r => (.id .i64 0 r.1, [.row true true true 0 0 r.2.1 none, .row true true true 0 0 r.2.2 none])
abbrev sf25 (k : Nat) : List (V G.El) → List (O G.El) → Q G.El (V G.El × List (O G.El)) := fun as' os' => lH os' fun x0' os' => lH os' fun x1' os' => lT os' <| argR 0 x0' fun o0 => argR 0 x1' fun o1 => na as' argA fun b' as' => nc0 b' (argW 0 o0.length) fun b' => nc0 b' (argW 1 o1.length) fun b' => argT b' <| na as' (argI .i64) fun a as' => lT as' <| .call _ (f25 k a o0 o1) fun r => .ret (.id .i64 0 r.1, [.row true true false 0 0 r.2.1 none, .row true true false 0 0 r.2.2 none])
inductive f61.L where
  | l4 (x0 : Int) (x3 : ByteArray)
def f61.st : f61.L → Nat × S El
  | .l4 x0 x3 => (4, ⟨20, .dead, [(0, .id .i64 1 x0), (3, .s x3)], [], 0, 0⟩)
def f61.blk (k : Nat) : f61.L → PT (ByteArray) f61.L
  | .l4 x0 x3 => .ite (0 < x0) (fun h2 => .triv (1 = ([(IntKind.u8.wrap (IntKind.i64.wrap (48 + (x0.tmod 10))))] : List Int).length) tv <| .need ((strOf ([(IntKind.u8.wrap (IntKind.i64.wrap (48 + (x0.tmod 10))))] : List Int)).size + x3.size ≤ 9223372036854775807) fun h3 => .jump (.l4 (IntKind.i64.wrap (x0.tdiv 10)) ((strOf ([(IntKind.u8.wrap (IntKind.i64.wrap (48 + (x0.tmod 10))))] : List Int)) ++ x3))) (fun h2 => .need ((⟨#[109]⟩ : ByteArray).size + x3.size ≤ 9223372036854775807) fun h4 => .ret ((⟨#[109]⟩ : ByteArray) ++ x3))
abbrev f61.D : Nat → f61.L → Option (ByteArray) := PT.iter f61.blk
def f61.start (k : Nat) (a : Int) : PT (ByteArray) f61.L := .ite (a ≤ 0) (fun h1 => .ret (⟨#[109, 48]⟩ : ByteArray)) (fun h1 => .jump (.l4 a (⟨#[]⟩ : ByteArray)))
def f61 (k : Nat) (a : Int) : Option (ByteArray) := (f61.start k a).run (f61.D k)
def f61.o : (ByteArray) → V El × List (O El) := fun r => (.s r, [])
abbrev sf61 (k : Nat) : List (V G.El) → List (O G.El) → Q G.El (V G.El × List (O G.El)) := fun as' os' => lT os' <| na as' (argI .i64) fun a as' => lT as' <| .call _ (f61 k a) fun r => .ret (f61.o r)
inductive f31.L where
  | l2 (q0 : List S40) (x1 : Int) (x5 : Int)
def f31.st : f31.L → Nat × S El
  | .l2 q0 x1 x5 => (2, ⟨35, .dead, [(0, .win 0 true (.l 0) (.d 0 q0.length)), (1, .id .i64 2 x1), (5, .id .i64 6 x5)], [(0, .row true true true 0 3 q0 none)], 1, 1⟩)
def f31.blk (k : Nat) : f31.L → PT (Int × (List S40)) f31.L
  | .l2 q0 x1 x5 => .ite (x5 < (q0.length : Int)) (fun h1 => .need (0 ≤ x5) fun h2 => .th h1 <| .triv (x5.toNat < q0.length) tv <| .th h2 <| .th h1 <| .triv (x5.toNat < q0.length) tv <| .triv (x5.toNat = x5.toNat) rfl <| .call _ (f61 k (IntKind.i64.wrap ((IntKind.i64.wrap (x1 + 1)) + 1))) fun t1 => .th h2 <| .th h1 <| .triv (x5.toNat < q0.length) tv <| .triv (x5.toNat = x5.toNat) rfl <| .tr q0.length <| .jump (.l2 (q0.set x5.toNat (⟨x1, (IntKind.i64.wrap (x1 + 1)), t1⟩ : S40)) (IntKind.i64.wrap ((IntKind.i64.wrap ((IntKind.i64.wrap (x1 + 1)) + 1)) + 1)) (IntKind.i64.wrap (x5 + 1)))) (fun h1 => .ret (x1, q0))
abbrev f31.D : Nat → f31.L → Option (Int × (List S40)) := PT.iter f31.blk
def f31.start (k : Nat) (a : Int) (o0 : List S40) : PT (Int × (List S40)) f31.L := .tr o0.length <| .jump (.l2 o0 a 0)
def f31 (k : Nat) (a : Int) (o0 : List S40) : Option (Int × (List S40)) := (f31.start k a o0).run (f31.D k)
def f31.o : (Int × (List S40)) → V El × List (O El) := fun r => (.id .i64 0 r.1, [.row true true true 0 3 r.2 none])
abbrev sf31 (k : Nat) : List (V G.El) → List (O G.El) → Q G.El (V G.El × List (O G.El)) := fun as' os' => lH os' fun x0' os' => lT os' <| argR 3 x0' fun o0 => na0 as' (argW 0 o0.length) fun as' => na as' (argI .i64) fun a as' => lT as' <| .call _ (f31 k a o0) fun r => .ret (.id .i64 0 r.1, [.row true true false 0 3 r.2 none])
inductive f58.L where
  | l2 (q0 : List S90) (x1 : Int) (x5 : Int)
def f58.st : f58.L → Nat × S El
  | .l2 q0 x1 x5 => (2, ⟨34, .dead, [(0, .win 0 true (.l 0) (.d 0 q0.length)), (1, .id .i64 2 x1), (5, .id .i64 6 x5)], [(0, .row true true true 0 4 q0 none)], 1, 1⟩)
def f58.blk (k : Nat) : f58.L → PT (Int × (List S90)) f58.L
  | .l2 q0 x1 x5 => .ite (x5 < (q0.length : Int)) (fun h1 => .need (0 ≤ x5) fun h2 => .th h1 <| .triv (x5.toNat < q0.length) tv <| .th h2 <| .th h1 <| .triv (x5.toNat < q0.length) tv <| .triv (x5.toNat = x5.toNat) rfl <| .th h2 <| .th h1 <| .triv (x5.toNat < q0.length) tv <| .triv (x5.toNat = x5.toNat) rfl <| .tr q0.length <| .jump (.l2 (q0.set x5.toNat (⟨x1, (IntKind.i64.wrap (x1 + 1)), (IntKind.i64.wrap ((IntKind.i64.wrap (x1 + 1)) + 1))⟩ : S90)) (IntKind.i64.wrap ((IntKind.i64.wrap ((IntKind.i64.wrap (x1 + 1)) + 1)) + 1)) (IntKind.i64.wrap (x5 + 1)))) (fun h1 => .ret (x1, q0))
abbrev f58.D : Nat → f58.L → Option (Int × (List S90)) := PT.iter f58.blk
def f58.start (k : Nat) (a : Int) (o0 : List S90) : PT (Int × (List S90)) f58.L := .tr o0.length <| .jump (.l2 o0 a 0)
def f58 (k : Nat) (a : Int) (o0 : List S90) : Option (Int × (List S90)) := (f58.start k a o0).run (f58.D k)
def f58.o : (Int × (List S90)) → V El × List (O El) := fun r => (.id .i64 0 r.1, [.row true true true 0 4 r.2 none])
abbrev sf58 (k : Nat) : List (V G.El) → List (O G.El) → Q G.El (V G.El × List (O G.El)) := fun as' os' => lH os' fun x0' os' => lT os' <| argR 4 x0' fun o0 => na0 as' (argW 0 o0.length) fun as' => na as' (argI .i64) fun a as' => lT as' <| .call _ (f58 k a o0) fun r => .ret (.id .i64 0 r.1, [.row true true false 0 4 r.2 none])
def f26.start (k : Nat) (a b c d e : Int) (g : ByteArray) (i j l m : Int) (o0 o1 : List Int) (o2 : List S40) (o3 : List Int) (o4 : List S90) : PT (Int × (List Int) × (List Int) × (List S40) × (List Int) × (List S90)) Empty := .tr o0.length <| .tr o1.length <| .call _ (f25 k m o0 o1) fun t1 => .tr o2.length <| .call _ (f31 k t1.1 o2) fun t2 => .tr o3.length <| .call _ (f57 k t2.1 o3) fun t3 => .tr o4.length <| .call _ (f58 k t3.1 o4) fun t4 => .ret (t4.1, t1.2.1, t1.2.2, t2.2, t3.2, t4.2)
def f26 (k : Nat) (a b c d e : Int) (g : ByteArray) (i j l m : Int) (o0 o1 : List Int) (o2 : List S40) (o3 : List Int) (o4 : List S90) : Option (Int × (List Int) × (List Int) × (List S40) × (List Int) × (List S90)) := (f26.start k a b c d e g i j l m o0 o1 o2 o3 o4).run Empty.elim
def f26.o : (Int × (List Int) × (List Int) × (List S40) × (List Int) × (List S90)) → V El × List (O El) := fun r => (.id .i64 0 r.1, [.row true true true 0 0 r.2.1 none, .row true true true 0 0 r.2.2.1 none, .row true true true 0 3 r.2.2.2.1 none, .row true true true 0 0 r.2.2.2.2.1 none, .row true true true 0 4 r.2.2.2.2.2 none])
abbrev sf26 (k : Nat) : List (V G.El) → List (O G.El) → Q G.El (V G.El × List (O G.El)) := fun as' os' => lH os' fun x0' os' => lH os' fun x1' os' => lH os' fun x2' os' => lH os' fun x3' os' => lH os' fun x4' os' => lT os' <| argR 0 x0' fun o0 => argR 0 x1' fun o1 => argR 3 x2' fun o2 => argR 0 x3' fun o3 => argR 4 x4' fun o4 => na as' argA fun b' as' => nc b' (argI .i64) fun a b' => nc b' (argI .i64) fun b b' => nc b' (argI .i64) fun c b' => nc b' (argI .i64) fun d b' => nc b' (argI .i64) fun e b' => nc0 b' (argW 0 o0.length) fun b' => nc0 b' (argW 1 o1.length) fun b' => nc b' argS fun g b' => nc0 b' (argW 2 o2.length) fun b' => nc b' (argI .i64) fun i b' => nc b' (argI .i64) fun j b' => nc b' (argI .i64) fun l b' => nc0 b' (argW 3 o3.length) fun b' => nc0 b' (argW 4 o4.length) fun b' => argT b' <| na as' (argI .i64) fun m as' => lT as' <| .call _ (f26 k a b c d e g i j l m o0 o1 o2 o3 o4) fun r => .ret (.id .i64 0 r.1, [.row true true false 0 0 r.2.1 none, .row true true false 0 0 r.2.2.1 none, .row true true false 0 3 r.2.2.2.1 none, .row true true false 0 0 r.2.2.2.2.1 none, .row true true false 0 4 r.2.2.2.2.2 none])
inductive f59.L where
  | l2 (x0 : List Int) (x1 : Int) (x5 : Int)
def f59.st : f59.L → Nat × S El
  | .l2 x0 x1 x5 => (2, ⟨21, .dead, [(0, .sl 0 x0 []), (1, .id .i64 2 x1), (5, .id .i64 6 x5)], [], 0, 0⟩)
def f59.blk (k : Nat) : f59.L → PT (Int) f59.L
  | .l2 x0 x1 x5 => .ite (x5 < (x0.length : Int)) (fun h1 => .need (0 ≤ x5) fun h2 => .th h1 <| .ite ((at' x0 x5) = x1) (fun h3 => .jump (.l2 x0 (IntKind.i64.wrap (x1 + 1)) (IntKind.i64.wrap (x5 + 1)))) (fun h3 => .ret (-1))) (fun h1 => .ret x1)
abbrev f59.D : Nat → f59.L → Option (Int) := PT.iter f59.blk
def f59.start (k : Nat) (a : List Int) (b : Int) : PT (Int) f59.L := .jump (.l2 a b 0)
def f59 (k : Nat) (a : List Int) (b : Int) : Option (Int) := (f59.start k a b).run (f59.D k)
def f59.o : (Int) → V El × List (O El) := fun r => (.id .i64 0 r, [])
abbrev sf59 (k : Nat) : List (V G.El) → List (O G.El) → Q G.El (V G.El × List (O G.El)) := fun as' os' => lT os' <| na as' (argL 0) fun a as' => na as' (argI .i64) fun b as' => lT as' <| .call _ (f59 k a b) fun r => .ret (f59.o r)
def f35.start (k : Nat) (a b : List Int) (c : Int) : PT (Int) Empty := .call _ (f59 k a c) fun t1 => .ite (t1 < 0) (fun h1 => .ret (-1)) (fun h1 => .call _ (f59 k b t1) fun t2 => .ite (t2 < 0) (fun h2 => .ret (-1)) (fun h2 => .ret t2))
def f35 (k : Nat) (a b : List Int) (c : Int) : Option (Int) := (f35.start k a b c).run Empty.elim
def f35.o : (Int) → V El × List (O El) := fun r => (.id .i64 0 r, [])
abbrev sf35 (k : Nat) : List (V G.El) → List (O G.El) → Q G.El (V G.El × List (O G.El)) := fun as' os' => lT os' <| na as' argA fun b' as' => nc b' (argL 0) fun a b' => nc b' (argL 0) fun b b' => argT b' <| na as' (argI .i64) fun c as' => lT as' <| .call _ (f35 k a b c) fun r => .ret (f35.o r)
inductive f32.L where
  | l2 (x0 : List S40) (x1 : Int) (x5 : Int)
def f32.st : f32.L → Nat × S El
  | .l2 x0 x1 x5 => (2, ⟨41, .dead, [(0, .sl 3 x0 []), (1, .id .i64 2 x1), (5, .id .i64 6 x5)], [], 0, 0⟩)
def f32.blk (k : Nat) : f32.L → PT (Int) f32.L
  | .l2 x0 x1 x5 => .ite (x5 < (x0.length : Int)) (fun h1 => .need (0 ≤ x5) fun h2 => .th h1 <| .ite ((at' x0 x5).f0 = x1) (fun h3 => .th h2 <| .th h1 <| .ite ((at' x0 x5).f1 = (IntKind.i64.wrap (x1 + 1))) (fun h4 => .th h2 <| .th h1 <| .call _ (f61 k (IntKind.i64.wrap ((IntKind.i64.wrap (x1 + 1)) + 1))) fun t1 => .ite ((strEq ((at' x0 x5).f2) t1) = true) (fun h5 => .jump (.l2 x0 (IntKind.i64.wrap ((IntKind.i64.wrap ((IntKind.i64.wrap (x1 + 1)) + 1)) + 1)) (IntKind.i64.wrap (x5 + 1)))) (fun h5 => .ret (-1))) (fun h4 => .ret (-1))) (fun h3 => .ret (-1))) (fun h1 => .ret x1)
abbrev f32.D : Nat → f32.L → Option (Int) := PT.iter f32.blk
def f32.start (k : Nat) (a : List S40) (b : Int) : PT (Int) f32.L := .jump (.l2 a b 0)
def f32 (k : Nat) (a : List S40) (b : Int) : Option (Int) := (f32.start k a b).run (f32.D k)
def f32.o : (Int) → V El × List (O El) := fun r => (.id .i64 0 r, [])
abbrev sf32 (k : Nat) : List (V G.El) → List (O G.El) → Q G.El (V G.El × List (O G.El)) := fun as' os' => lT os' <| na as' (argL 3) fun a as' => na as' (argI .i64) fun b as' => lT as' <| .call _ (f32 k a b) fun r => .ret (f32.o r)
inductive f60.L where
  | l2 (x0 : List S90) (x1 : Int) (x5 : Int)
def f60.st : f60.L → Nat × S El
  | .l2 x0 x1 x5 => (2, ⟨40, .dead, [(0, .sl 4 x0 []), (1, .id .i64 2 x1), (5, .id .i64 6 x5)], [], 0, 0⟩)
def f60.blk (k : Nat) : f60.L → PT (Int) f60.L
  | .l2 x0 x1 x5 => .ite (x5 < (x0.length : Int)) (fun h1 => .need (0 ≤ x5) fun h2 => .th h1 <| .ite ((at' x0 x5).f0 = x1) (fun h3 => .th h2 <| .th h1 <| .ite ((at' x0 x5).f1 = (IntKind.i64.wrap (x1 + 1))) (fun h4 => .th h2 <| .th h1 <| .ite ((at' x0 x5).f2 = (IntKind.i64.wrap ((IntKind.i64.wrap (x1 + 1)) + 1))) (fun h5 => .jump (.l2 x0 (IntKind.i64.wrap ((IntKind.i64.wrap ((IntKind.i64.wrap (x1 + 1)) + 1)) + 1)) (IntKind.i64.wrap (x5 + 1)))) (fun h5 => .ret (-1))) (fun h4 => .ret (-1))) (fun h3 => .ret (-1))) (fun h1 => .ret x1)
abbrev f60.D : Nat → f60.L → Option (Int) := PT.iter f60.blk
def f60.start (k : Nat) (a : List S90) (b : Int) : PT (Int) f60.L := .jump (.l2 a b 0)
def f60 (k : Nat) (a : List S90) (b : Int) : Option (Int) := (f60.start k a b).run (f60.D k)
def f60.o : (Int) → V El × List (O El) := fun r => (.id .i64 0 r, [])
abbrev sf60 (k : Nat) : List (V G.El) → List (O G.El) → Q G.El (V G.El × List (O G.El)) := fun as' os' => lT os' <| na as' (argL 4) fun a as' => na as' (argI .i64) fun b as' => lT as' <| .call _ (f60 k a b) fun r => .ret (f60.o r)
def f27.start (k : Nat) (a b c d e : Int) (g i : List Int) (j : ByteArray) (l : List S40) (m n p : Int) (u : List Int) (v : List S90) (w : Int) : PT (Int) Empty := .call _ (f35 k g i w) fun t1 => .ite (t1 < 0) (fun h1 => .ret (-1)) (fun h1 => .call _ (f32 k l t1) fun t2 => .ite (t2 < 0) (fun h2 => .ret (-1)) (fun h2 => .call _ (f59 k u t2) fun t3 => .ite (t3 < 0) (fun h3 => .ret (-1)) (fun h3 => .call _ (f60 k v t3) fun t4 => .ite (t4 < 0) (fun h4 => .ret (-1)) (fun h4 => .ret t4))))
def f27 (k : Nat) (a b c d e : Int) (g i : List Int) (j : ByteArray) (l : List S40) (m n p : Int) (u : List Int) (v : List S90) (w : Int) : Option (Int) := (f27.start k a b c d e g i j l m n p u v w).run Empty.elim
def f27.o : (Int) → V El × List (O El) := fun r => (.id .i64 0 r, [])
abbrev sf27 (k : Nat) : List (V G.El) → List (O G.El) → Q G.El (V G.El × List (O G.El)) := fun as' os' => lT os' <| na as' argA fun b' as' => nc b' (argI .i64) fun a b' => nc b' (argI .i64) fun b b' => nc b' (argI .i64) fun c b' => nc b' (argI .i64) fun d b' => nc b' (argI .i64) fun e b' => nc b' (argL 0) fun g b' => nc b' (argL 0) fun i b' => nc b' argS fun j b' => nc b' (argL 3) fun l b' => nc b' (argI .i64) fun m b' => nc b' (argI .i64) fun n b' => nc b' (argI .i64) fun p b' => nc b' (argL 0) fun u b' => nc b' (argL 4) fun v b' => argT b' <| na as' (argI .i64) fun w as' => lT as' <| .call _ (f27 k a b c d e g i j l m n p u v w) fun r => .ret (f27.o r)
def f6.start (k : Nat) (a : Int) (b c : List Int) : PT (Bool) Empty := .call _ (f20 k b c 1048576) fun t1 => .ite (t1 < 0) (fun h1 => .ret true) (fun h1 => .callh _ (f22 k b c) fun t2 ht2 => .tr t2.1.length <| .tr t2.2.length <| .call _ (f21 k a t2.1 t2.2) fun t3 => .recall _ (f22 k b c) t2 ht2 <| .tr t2.1.length <| .tr t2.2.length <| .callh _ (f23 k a t2.1 t2.2) fun t4 ht4 => .tr t4.2.2.2.2.2.2.2.2.2.2.1.length <| .tr t4.2.2.2.2.2.2.2.2.2.2.2.1.length <| .tr t4.2.2.2.2.2.2.2.2.2.2.2.2.1.length <| .tr t4.2.2.2.2.2.2.2.2.2.2.2.2.2.1.length <| .tr t4.2.2.2.2.2.2.2.2.2.2.2.2.2.2.length <| .tr t3.2.2.2.2.2.2.2.2.2.2.1.length <| .tr t3.2.2.2.2.2.2.2.2.2.2.2.1.length <| .tr t3.2.2.2.2.2.2.2.2.2.2.2.2.1.length <| .tr t3.2.2.2.2.2.2.2.2.2.2.2.2.2.1.length <| .tr t3.2.2.2.2.2.2.2.2.2.2.2.2.2.2.length <| .callh _ (f14 k t4.1 t4.2.1 t4.2.2.1 t4.2.2.2.1 t4.2.2.2.2.1 t4.2.2.2.2.2.2.2.2.2.2.1 t4.2.2.2.2.2.2.2.2.2.2.2.1 t4.2.2.2.2.2.1 t4.2.2.2.2.2.2.2.2.2.2.2.2.1 t4.2.2.2.2.2.2.1 t4.2.2.2.2.2.2.2.1 t4.2.2.2.2.2.2.2.2.1 t4.2.2.2.2.2.2.2.2.2.2.2.2.2.1 t4.2.2.2.2.2.2.2.2.2.2.2.2.2.2 t3.1 t3.2.1 t3.2.2.1 t3.2.2.2.1 t3.2.2.2.2.1 t3.2.2.2.2.2.2.2.2.2.2.1 t3.2.2.2.2.2.2.2.2.2.2.2.1 t3.2.2.2.2.2.1 t3.2.2.2.2.2.2.2.2.2.2.2.2.1 t3.2.2.2.2.2.2.1 t3.2.2.2.2.2.2.2.1 t3.2.2.2.2.2.2.2.2.1 t3.2.2.2.2.2.2.2.2.2.2.2.2.2.1 t3.2.2.2.2.2.2.2.2.2.2.2.2.2.2) fun t5 ht5 => .ite (t5 = true) (fun h2 => .t3 h2 <| .ite ((t4.2.2.2.2.2.2.2.2.2.1 == t3.2.2.2.2.2.2.2.2.2.1) = true) (fun h3 => .recall _ (f22 k b c) t2 ht2 <| .tr t2.1.length <| .tr t2.2.length <| .tr t2.1.length <| .tr t2.2.length <| .call _ (f24 k t2.1 t2.2 t2.1 t2.2) fun t6 => .ite (t6 = true) (fun h4 => .tr t2.1.length <| .tr t2.2.length <| .call _ (f25 k 1 t2.1 t2.2) fun t7 => .ite (t7.1 < 0) (fun h5 => .t4 h5 <| .ret false) (fun h5 => .t2 h5 <| .tr t4.2.2.2.2.2.2.2.2.2.2.1.length <| .tr t4.2.2.2.2.2.2.2.2.2.2.2.1.length <| .tr t4.2.2.2.2.2.2.2.2.2.2.2.2.1.length <| .tr t4.2.2.2.2.2.2.2.2.2.2.2.2.2.1.length <| .tr t4.2.2.2.2.2.2.2.2.2.2.2.2.2.2.length <| .tr t3.2.2.2.2.2.2.2.2.2.2.1.length <| .tr t3.2.2.2.2.2.2.2.2.2.2.2.1.length <| .tr t3.2.2.2.2.2.2.2.2.2.2.2.2.1.length <| .tr t3.2.2.2.2.2.2.2.2.2.2.2.2.2.1.length <| .tr t3.2.2.2.2.2.2.2.2.2.2.2.2.2.2.length <| .recall _ (f14 k t4.1 t4.2.1 t4.2.2.1 t4.2.2.2.1 t4.2.2.2.2.1 t4.2.2.2.2.2.2.2.2.2.2.1 t4.2.2.2.2.2.2.2.2.2.2.2.1 t4.2.2.2.2.2.1 t4.2.2.2.2.2.2.2.2.2.2.2.2.1 t4.2.2.2.2.2.2.1 t4.2.2.2.2.2.2.2.1 t4.2.2.2.2.2.2.2.2.1 t4.2.2.2.2.2.2.2.2.2.2.2.2.2.1 t4.2.2.2.2.2.2.2.2.2.2.2.2.2.2 t3.1 t3.2.1 t3.2.2.1 t3.2.2.2.1 t3.2.2.2.2.1 t3.2.2.2.2.2.2.2.2.2.2.1 t3.2.2.2.2.2.2.2.2.2.2.2.1 t3.2.2.2.2.2.1 t3.2.2.2.2.2.2.2.2.2.2.2.2.1 t3.2.2.2.2.2.2.1 t3.2.2.2.2.2.2.2.1 t3.2.2.2.2.2.2.2.2.1 t3.2.2.2.2.2.2.2.2.2.2.2.2.2.1 t3.2.2.2.2.2.2.2.2.2.2.2.2.2.2) t5 ht5 <| .t2 h5 <| .t4 h2 <| .th h3 <| .tr t4.2.2.2.2.2.2.2.2.2.2.1.length <| .tr t4.2.2.2.2.2.2.2.2.2.2.2.1.length <| .tr t4.2.2.2.2.2.2.2.2.2.2.2.2.1.length <| .tr t4.2.2.2.2.2.2.2.2.2.2.2.2.2.1.length <| .tr t4.2.2.2.2.2.2.2.2.2.2.2.2.2.2.length <| .call _ (f26 k t4.1 t4.2.1 t4.2.2.1 t4.2.2.2.1 t4.2.2.2.2.1 t4.2.2.2.2.2.1 t4.2.2.2.2.2.2.1 t4.2.2.2.2.2.2.2.1 t4.2.2.2.2.2.2.2.2.1 1 t4.2.2.2.2.2.2.2.2.2.2.1 t4.2.2.2.2.2.2.2.2.2.2.2.1 t4.2.2.2.2.2.2.2.2.2.2.2.2.1 t4.2.2.2.2.2.2.2.2.2.2.2.2.2.1 t4.2.2.2.2.2.2.2.2.2.2.2.2.2.2) fun t8 => .need (t4.2.2.2.2.2.2.2.2.2.2.1.length ≤ t8.2.1.length) fun h6 => .need (t4.2.2.2.2.2.2.2.2.2.2.2.1.length ≤ t8.2.2.1.length) fun h7 => .need (t4.2.2.2.2.2.2.2.2.2.2.2.2.1.length ≤ t8.2.2.2.1.length) fun h8 => .need (t4.2.2.2.2.2.2.2.2.2.2.2.2.2.1.length ≤ t8.2.2.2.2.1.length) fun h9 => .need (t4.2.2.2.2.2.2.2.2.2.2.2.2.2.2.length ≤ t8.2.2.2.2.2.length) fun h10 => .callh _ (f27 k t4.1 t4.2.1 t4.2.2.1 t4.2.2.2.1 t4.2.2.2.2.1 (t8.2.1.take t4.2.2.2.2.2.2.2.2.2.2.1.length) (t8.2.2.1.take t4.2.2.2.2.2.2.2.2.2.2.2.1.length) t4.2.2.2.2.2.1 (t8.2.2.2.1.take t4.2.2.2.2.2.2.2.2.2.2.2.2.1.length) t4.2.2.2.2.2.2.1 t4.2.2.2.2.2.2.2.1 t4.2.2.2.2.2.2.2.2.1 (t8.2.2.2.2.1.take t4.2.2.2.2.2.2.2.2.2.2.2.2.2.1.length) (t8.2.2.2.2.2.take t4.2.2.2.2.2.2.2.2.2.2.2.2.2.2.length) 1) fun t9 ht9 => .ite (t9 < 0) (fun h11 => .ret false) (fun h11 => .ite (t9 = t8.1) (fun h12 => .recall _ (f22 k b c) t2 ht2 <| .tr t2.1.length <| .tr t2.2.length <| .recall _ (f23 k a t2.1 t2.2) t4 ht4 <| .tr t4.2.2.2.2.2.2.2.2.2.2.1.length <| .tr t4.2.2.2.2.2.2.2.2.2.2.2.1.length <| .tr t4.2.2.2.2.2.2.2.2.2.2.2.2.1.length <| .tr t4.2.2.2.2.2.2.2.2.2.2.2.2.2.1.length <| .tr t4.2.2.2.2.2.2.2.2.2.2.2.2.2.2.length <| .tr t3.2.2.2.2.2.2.2.2.2.2.1.length <| .tr t3.2.2.2.2.2.2.2.2.2.2.2.1.length <| .tr t3.2.2.2.2.2.2.2.2.2.2.2.2.1.length <| .tr t3.2.2.2.2.2.2.2.2.2.2.2.2.2.1.length <| .tr t3.2.2.2.2.2.2.2.2.2.2.2.2.2.2.length <| .recall _ (f14 k t4.1 t4.2.1 t4.2.2.1 t4.2.2.2.1 t4.2.2.2.2.1 t4.2.2.2.2.2.2.2.2.2.2.1 t4.2.2.2.2.2.2.2.2.2.2.2.1 t4.2.2.2.2.2.1 t4.2.2.2.2.2.2.2.2.2.2.2.2.1 t4.2.2.2.2.2.2.1 t4.2.2.2.2.2.2.2.1 t4.2.2.2.2.2.2.2.2.1 t4.2.2.2.2.2.2.2.2.2.2.2.2.2.1 t4.2.2.2.2.2.2.2.2.2.2.2.2.2.2 t3.1 t3.2.1 t3.2.2.1 t3.2.2.2.1 t3.2.2.2.2.1 t3.2.2.2.2.2.2.2.2.2.2.1 t3.2.2.2.2.2.2.2.2.2.2.2.1 t3.2.2.2.2.2.1 t3.2.2.2.2.2.2.2.2.2.2.2.2.1 t3.2.2.2.2.2.2.1 t3.2.2.2.2.2.2.2.1 t3.2.2.2.2.2.2.2.2.1 t3.2.2.2.2.2.2.2.2.2.2.2.2.2.1 t3.2.2.2.2.2.2.2.2.2.2.2.2.2.2) t5 ht5 <| .t4 h2 <| .th h3 <| .th h6 <| .th h7 <| .th h8 <| .th h9 <| .th h10 <| .recall _ (f27 k t4.1 t4.2.1 t4.2.2.1 t4.2.2.2.1 t4.2.2.2.2.1 (t8.2.1.take t4.2.2.2.2.2.2.2.2.2.2.1.length) (t8.2.2.1.take t4.2.2.2.2.2.2.2.2.2.2.2.1.length) t4.2.2.2.2.2.1 (t8.2.2.2.1.take t4.2.2.2.2.2.2.2.2.2.2.2.2.1.length) t4.2.2.2.2.2.2.1 t4.2.2.2.2.2.2.2.1 t4.2.2.2.2.2.2.2.2.1 (t8.2.2.2.2.1.take t4.2.2.2.2.2.2.2.2.2.2.2.2.2.1.length) (t8.2.2.2.2.2.take t4.2.2.2.2.2.2.2.2.2.2.2.2.2.2.length) 1) t9 ht9 <| .th h11 <| .th h12 <| .ret true) (fun h12 => .ret false)))) (fun h4 => .ret false)) (fun h3 => .ret false)) (fun h2 => .t3 h2 <| .ret false))
def f6 (k : Nat) (a : Int) (b c : List Int) : Option (Bool) := (f6.start k a b c).run Empty.elim
def f64.start (k : Nat) (a b c d e : Int) (g i : List Int) (j : ByteArray) (l : List S40) (m n p : Int) (u : List Int) (v : List S90) : PT (Int × Int × Int × Int × Int × ByteArray × Int × Int × Int × (List Int) × (List Int) × (List S40) × (List Int) × (List S90)) Empty := .call _ (f55 k g i) fun t1 => .triv (0 = ([] : List S40).length) tv <| .need (l.length * 32 ≤ 70368744177664) fun h1 => .triv (l.length ≤ 70368744177664) tv <| .triv (0 = ([] : List Int).length) tv <| .need (u.length * 8 ≤ 70368744177664) fun h2 => .triv (u.length ≤ 70368744177664) tv <| .triv (0 = ([] : List S90).length) tv <| .need (v.length * 24 ≤ 70368744177664) fun h3 => .triv (v.length ≤ 70368744177664) tv <| .tr t1.1.length <| .tr t1.2.length <| .tr l.length <| .tr u.length <| .tr v.length <| .ret (a, b, c, d, e, j, m, n, p, t1.1, t1.2, l, u, v)
def f64 (k : Nat) (a b c d e : Int) (g i : List Int) (j : ByteArray) (l : List S40) (m n p : Int) (u : List Int) (v : List S90) : Option (Int × Int × Int × Int × Int × ByteArray × Int × Int × Int × (List Int) × (List Int) × (List S40) × (List Int) × (List S90)) := (f64.start k a b c d e g i j l m n p u v).run Empty.elim
def f64.o : (Int × Int × Int × Int × Int × ByteArray × Int × Int × Int × (List Int) × (List Int) × (List S40) × (List Int) × (List S90)) → V El × List (O El) := fun r => (.agg [.id .i64 0 r.1, .id .i64 0 r.2.1, .id .i64 0 r.2.2.1, .id .i64 0 r.2.2.2.1, .id .i64 0 r.2.2.2.2.1, .win 0 true (.l 0) (.d 0 r.2.2.2.2.2.2.2.2.2.1.length), .win 1 true (.l 0) (.d 0 r.2.2.2.2.2.2.2.2.2.2.1.length), .s r.2.2.2.2.2.1, .win 2 true (.l 0) (.d 0 r.2.2.2.2.2.2.2.2.2.2.2.1.length), .id .i64 0 r.2.2.2.2.2.2.1, .id .i64 0 r.2.2.2.2.2.2.2.1, .id .i64 0 r.2.2.2.2.2.2.2.2.1, .win 3 true (.l 0) (.d 0 r.2.2.2.2.2.2.2.2.2.2.2.2.1.length), .win 4 true (.l 0) (.d 0 r.2.2.2.2.2.2.2.2.2.2.2.2.2.length)], [.row true true true 0 0 r.2.2.2.2.2.2.2.2.2.1 none, .row true true true 0 0 r.2.2.2.2.2.2.2.2.2.2.1 none, .row true true true 0 3 r.2.2.2.2.2.2.2.2.2.2.2.1 none, .row true true true 0 0 r.2.2.2.2.2.2.2.2.2.2.2.2.1 none, .row true true true 0 4 r.2.2.2.2.2.2.2.2.2.2.2.2.2 none])
abbrev sf64 (k : Nat) : List (V G.El) → List (O G.El) → Q G.El (V G.El × List (O G.El)) := fun as' os' => lT os' <| na as' argA fun b' as' => nc b' (argI .i64) fun a b' => nc b' (argI .i64) fun b b' => nc b' (argI .i64) fun c b' => nc b' (argI .i64) fun d b' => nc b' (argI .i64) fun e b' => nc b' (argL 0) fun g b' => nc b' (argL 0) fun i b' => nc b' argS fun j b' => nc b' (argL 3) fun l b' => nc b' (argI .i64) fun m b' => nc b' (argI .i64) fun n b' => nc b' (argI .i64) fun p b' => nc b' (argL 0) fun u b' => nc b' (argL 4) fun v b' => argT b' <| lT as' <| .call _ (f64 k a b c d e g i j l m n p u v) fun r => .ret (f64.o r)
inductive f36.L where
  | l10 (q3 : List Int) (q4 : List Int) (q5 : List S40) (q6 : List Int) (q7 : List S90) (x1 : Int) (x2 : ByteArray) (x9 : Int) (x10 : Int) (b0_0 : Int) (b0_1 : Int) (b0_2 : Int) (b0_3 : Int) (b0_4 : Int) (b0_5 : List Int) (b0_6 : List Int) (b0_7 : ByteArray) (b0_8 : List S40) (b0_9 : Int) (b0_10 : Int) (b0_11 : Int) (b0_12 : List Int) (b0_13 : List S90) (b1_0 : Int) (b1_1 : Int) (b1_2 : Int) (b1_3 : Int) (b1_4 : Int) (b1_7 : ByteArray) (b1_9 : Int) (b1_10 : Int) (b1_11 : Int) (b2_0 : Int) (b2_1 : Int) (b2_2 : Int) (b2_3 : Int) (b2_4 : Int) (b2_7 : ByteArray) (b2_9 : Int) (b2_10 : Int) (b2_11 : Int)
def f36.st : f36.L → Nat × S El
  | .l10 q3 q4 q5 q6 q7 x1 x2 x9 x10 b0_0 b0_1 b0_2 b0_3 b0_4 b0_5 b0_6 b0_7 b0_8 b0_9 b0_10 b0_11 b0_12 b0_13 b1_0 b1_1 b1_2 b1_3 b1_4 b1_7 b1_9 b1_10 b1_11 b2_0 b2_1 b2_2 b2_3 b2_4 b2_7 b2_9 b2_10 b2_11 => (10, ⟨73, .dead, [(1, .id .i64 2 x1), (2, .s x2), (3, .ptr 0 (.l 0) 0), (6, .ptr 1 (.l 0) 0), (8, .ptr 2 (.l 0) 0), (9, .id .i64 10 x9), (10, .id .i64 11 x10)], [(0, .box true true 0 14 true [.id .i64 50000 b0_0, .id .i64 50001 b0_1, .id .i64 50002 b0_2, .id .i64 50003 b0_3, .id .i64 50004 b0_4, .sl 0 b0_5 [], .sl 0 b0_6 [], .s b0_7, .sl 3 b0_8 [], .id .i64 50009 b0_9, .id .i64 50010 b0_10, .id .i64 50011 b0_11, .sl 0 b0_12 [], .sl 4 b0_13 []]), (1, .box true true 0 14 true [.id .i64 50100 b1_0, .id .i64 50101 b1_1, .id .i64 50102 b1_2, .id .i64 50103 b1_3, .id .i64 50104 b1_4, .nil, .nil, .s b1_7, .nil, .id .i64 50109 b1_9, .id .i64 50110 b1_10, .id .i64 50111 b1_11, .nil, .nil]), (2, .box true true 0 14 true [.id .i64 50200 b2_0, .id .i64 50201 b2_1, .id .i64 50202 b2_2, .id .i64 50203 b2_3, .id .i64 50204 b2_4, .win 3 true (.l 0) (.d 0 q3.length), .win 4 true (.l 0) (.d 0 q4.length), .s b2_7, .win 5 true (.l 0) (.d 0 q5.length), .id .i64 50209 b2_9, .id .i64 50210 b2_10, .id .i64 50211 b2_11, .win 6 true (.l 0) (.d 0 q6.length), .win 7 true (.l 0) (.d 0 q7.length)]), (3, .row true true true 0 0 q3 none), (4, .row true true true 0 0 q4 none), (5, .row true true true 0 3 q5 none), (6, .row true true true 0 0 q6 none), (7, .row true true true 0 4 q7 none)], 8, 0⟩)
def f36.blk (k : Nat) : f36.L → PT (Int × Int × Int × Int × Int × ByteArray × Int × Int × Int × Int × (List Int) × (List Int) × (List S40) × (List Int) × (List S90)) f36.L
  | .l10 q3 q4 q5 q6 q7 x1 x2 x9 x10 b0_0 b0_1 b0_2 b0_3 b0_4 b0_5 b0_6 b0_7 b0_8 b0_9 b0_10 b0_11 b0_12 b0_13 b1_0 b1_1 b1_2 b1_3 b1_4 b1_7 b1_9 b1_10 b1_11 b2_0 b2_1 b2_2 b2_3 b2_4 b2_7 b2_9 b2_10 b2_11 => .ite (x10 < x9) (fun h4 => .need (0 ≤ x10) fun h5 => .need (x10 < (b0_8.length : Int)) fun h6 => .ite ((at' b0_8 x10).f1 = 2) (fun h7 => .th h5 <| .th h6 <| .call _ (f65 k ((at' b0_8 x10).f2)) fun t4 => .tr t4.2.1.length <| .tr t4.2.2.length <| .tr q5.length <| .tr q6.length <| .tr q7.length <| .jump (.l10 t4.2.1 t4.2.2 q5 q6 q7 x1 x2 x9 (IntKind.i64.wrap (x10 + 1)) b0_0 b0_1 b0_2 b0_3 b0_4 b0_5 b0_6 b0_7 b0_8 b0_9 b0_10 b0_11 b0_12 b0_13 b1_0 b1_1 b1_2 b1_3 b1_4 b1_7 b1_9 b1_10 b1_11 b2_0 b2_1 b2_2 b2_3 b2_4 b2_7 b2_9 b2_10 b2_11)) (fun h7 => .tr q3.length <| .tr q4.length <| .tr q5.length <| .tr q6.length <| .tr q7.length <| .jump (.l10 q3 q4 q5 q6 q7 x1 x2 x9 (IntKind.i64.wrap (x10 + 1)) b0_0 b0_1 b0_2 b0_3 b0_4 b0_5 b0_6 b0_7 b0_8 b0_9 b0_10 b0_11 b0_12 b0_13 b1_0 b1_1 b1_2 b1_3 b1_4 b1_7 b1_9 b1_10 b1_11 b2_0 b2_1 b2_2 b2_3 b2_4 b2_7 b2_9 b2_10 b2_11))) (fun h4 => .call _ (f53 k b0_0 b0_1 b0_2 b0_3 b0_4 b0_5 b0_6 b0_7 b0_8 b0_9 b0_10 b0_11 b0_12 b0_13 x1) fun t5 => .need (0 ≤ x9) fun h8 => .need (x9 ≤ (b0_8.length : Int)) fun h9 => .triv (0 = ([] : List S40).length) tv <| .need ((((b0_8.take b0_8.length).drop x9.toNat).length) * 32 ≤ 70368744177664) fun h10 => .triv (((b0_8.take b0_8.length).drop x9.toNat).length ≤ 70368744177664) tv <| .tr q3.length <| .tr q4.length <| .tr (((b0_8.take b0_8.length).drop x9.toNat).length) <| .tr q6.length <| .tr q7.length <| .ret (b2_0, b2_1, b2_2, x1, t5, x2, b2_9, b2_10, b2_11, 0, q3, q4, ((b0_8.take b0_8.length).drop x9.toNat), q6, q7))
abbrev f36.D : Nat → f36.L → Option (Int × Int × Int × Int × Int × ByteArray × Int × Int × Int × Int × (List Int) × (List Int) × (List S40) × (List Int) × (List S90)) := PT.iter f36.blk
def f36.start (k : Nat) (a b c d e : Int) (g i : List Int) (j : ByteArray) (l : List S40) (m n p : Int) (u : List Int) (v : List S90) (w : Int) (y : ByteArray) : PT (Int × Int × Int × Int × Int × ByteArray × Int × Int × Int × Int × (List Int) × (List Int) × (List S40) × (List Int) × (List S90)) f36.L := .call _ (f11 k a b c d e g i j l m n p u v) fun t1 => .ite (t1 = true) (fun h1 => .call _ (f64 k a b c d e g i j l m n p u v) fun t2 => .call _ (f41 k w (IntKind.i64.wrap (d + 1)) m) fun t3 => .ite (t3 = true) (fun h2 => .ite (20000 < (y.size : Int)) (fun h3 => .tr t2.2.2.2.2.2.2.2.2.2.1.length <| .tr t2.2.2.2.2.2.2.2.2.2.2.1.length <| .tr t2.2.2.2.2.2.2.2.2.2.2.2.1.length <| .tr t2.2.2.2.2.2.2.2.2.2.2.2.2.1.length <| .tr t2.2.2.2.2.2.2.2.2.2.2.2.2.2.length <| .ret (t2.1, t2.2.1, t2.2.2.1, t2.2.2.2.1, t2.2.2.2.2.1, t2.2.2.2.2.2.1, t2.2.2.2.2.2.2.1, t2.2.2.2.2.2.2.2.1, t2.2.2.2.2.2.2.2.2.1, 3, t2.2.2.2.2.2.2.2.2.2.1, t2.2.2.2.2.2.2.2.2.2.2.1, t2.2.2.2.2.2.2.2.2.2.2.2.1, t2.2.2.2.2.2.2.2.2.2.2.2.2.1, t2.2.2.2.2.2.2.2.2.2.2.2.2.2)) (fun h3 => .tr t2.2.2.2.2.2.2.2.2.2.1.length <| .tr t2.2.2.2.2.2.2.2.2.2.2.1.length <| .tr t2.2.2.2.2.2.2.2.2.2.2.2.1.length <| .tr t2.2.2.2.2.2.2.2.2.2.2.2.2.1.length <| .tr t2.2.2.2.2.2.2.2.2.2.2.2.2.2.length <| .jump (.l10 t2.2.2.2.2.2.2.2.2.2.1 t2.2.2.2.2.2.2.2.2.2.2.1 t2.2.2.2.2.2.2.2.2.2.2.2.1 t2.2.2.2.2.2.2.2.2.2.2.2.2.1 t2.2.2.2.2.2.2.2.2.2.2.2.2.2 w y (IntKind.i64.wrap (w - d)) 0 a b c d e g i j l m n p u v 0 0 0 0 0 (⟨#[]⟩ : ByteArray) 0 0 0 t2.1 t2.2.1 t2.2.2.1 t2.2.2.2.1 t2.2.2.2.2.1 t2.2.2.2.2.2.1 t2.2.2.2.2.2.2.1 t2.2.2.2.2.2.2.2.1 t2.2.2.2.2.2.2.2.2.1))) (fun h2 => .tr t2.2.2.2.2.2.2.2.2.2.1.length <| .tr t2.2.2.2.2.2.2.2.2.2.2.1.length <| .tr t2.2.2.2.2.2.2.2.2.2.2.2.1.length <| .tr t2.2.2.2.2.2.2.2.2.2.2.2.2.1.length <| .tr t2.2.2.2.2.2.2.2.2.2.2.2.2.2.length <| .ret (t2.1, t2.2.1, t2.2.2.1, t2.2.2.2.1, t2.2.2.2.2.1, t2.2.2.2.2.2.1, t2.2.2.2.2.2.2.1, t2.2.2.2.2.2.2.2.1, t2.2.2.2.2.2.2.2.2.1, 2, t2.2.2.2.2.2.2.2.2.2.1, t2.2.2.2.2.2.2.2.2.2.2.1, t2.2.2.2.2.2.2.2.2.2.2.2.1, t2.2.2.2.2.2.2.2.2.2.2.2.2.1, t2.2.2.2.2.2.2.2.2.2.2.2.2.2))) (fun h1 => .triv (0 = ([] : List Int).length) tv <| .triv (0 = ([] : List Int).length) tv <| .triv (0 = ([] : List S40).length) tv <| .triv (0 = ([] : List Int).length) tv <| .triv (0 = ([] : List S90).length) tv <| .ret (0, 0, 0, 0, 0, (⟨#[]⟩ : ByteArray), 0, 0, 0, 1, ([] : List Int), ([] : List Int), ([] : List S40), ([] : List Int), ([] : List S90)))
def f36 (k : Nat) (a b c d e : Int) (g i : List Int) (j : ByteArray) (l : List S40) (m n p : Int) (u : List Int) (v : List S90) (w : Int) (y : ByteArray) : Option (Int × Int × Int × Int × Int × ByteArray × Int × Int × Int × Int × (List Int) × (List Int) × (List S40) × (List Int) × (List S90)) := (f36.start k a b c d e g i j l m n p u v w y).run (f36.D k)
def f36.o : (Int × Int × Int × Int × Int × ByteArray × Int × Int × Int × Int × (List Int) × (List Int) × (List S40) × (List Int) × (List S90)) → V El × List (O El) := fun r => (.tup [.agg [.id .i64 0 r.1, .id .i64 0 r.2.1, .id .i64 0 r.2.2.1, .id .i64 0 r.2.2.2.1, .id .i64 0 r.2.2.2.2.1, .win 0 true (.l 0) (.d 0 r.2.2.2.2.2.2.2.2.2.2.1.length), .win 1 true (.l 0) (.d 0 r.2.2.2.2.2.2.2.2.2.2.2.1.length), .s r.2.2.2.2.2.1, .win 2 true (.l 0) (.d 0 r.2.2.2.2.2.2.2.2.2.2.2.2.1.length), .id .i64 0 r.2.2.2.2.2.2.1, .id .i64 0 r.2.2.2.2.2.2.2.1, .id .i64 0 r.2.2.2.2.2.2.2.2.1, .win 3 true (.l 0) (.d 0 r.2.2.2.2.2.2.2.2.2.2.2.2.2.1.length), .win 4 true (.l 0) (.d 0 r.2.2.2.2.2.2.2.2.2.2.2.2.2.2.length)], .id .i64 0 r.2.2.2.2.2.2.2.2.2.1], [.row true true true 0 0 r.2.2.2.2.2.2.2.2.2.2.1 none, .row true true true 0 0 r.2.2.2.2.2.2.2.2.2.2.2.1 none, .row true true true 0 3 r.2.2.2.2.2.2.2.2.2.2.2.2.1 none, .row true true true 0 0 r.2.2.2.2.2.2.2.2.2.2.2.2.2.1 none, .row true true true 0 4 r.2.2.2.2.2.2.2.2.2.2.2.2.2.2 none])
abbrev sf36 (k : Nat) : List (V G.El) → List (O G.El) → Q G.El (V G.El × List (O G.El)) := fun as' os' => lT os' <| na as' argA fun b' as' => nc b' (argI .i64) fun a b' => nc b' (argI .i64) fun b b' => nc b' (argI .i64) fun c b' => nc b' (argI .i64) fun d b' => nc b' (argI .i64) fun e b' => nc b' (argL 0) fun g b' => nc b' (argL 0) fun i b' => nc b' argS fun j b' => nc b' (argL 3) fun l b' => nc b' (argI .i64) fun m b' => nc b' (argI .i64) fun n b' => nc b' (argI .i64) fun p b' => nc b' (argL 0) fun u b' => nc b' (argL 4) fun v b' => argT b' <| na as' (argI .i64) fun w as' => na as' argS fun y as' => lT as' <| .call _ (f36 k a b c d e g i j l m n p u v w y) fun r => .ret (f36.o r)
def f66.start (k : Nat) (a b c d e : Int) (g i : List Int) (j : ByteArray) (l : List S40) (m n p : Int) (u : List Int) (v : List S90) : PT (Int × Int × Int × Int × Int × ByteArray × Int × Int × Int × (List Int) × (List Int) × (List S40) × (List Int) × (List S90)) Empty := .call _ (f56 k g i) fun t1 => .triv (0 = ([] : List S40).length) tv <| .need (l.length * 32 ≤ 70368744177664) fun h1 => .triv (l.length ≤ 70368744177664) tv <| .triv (0 = ([] : List Int).length) tv <| .need (u.length * 8 ≤ 70368744177664) fun h2 => .triv (u.length ≤ 70368744177664) tv <| .triv (0 = ([] : List S90).length) tv <| .need (v.length * 24 ≤ 70368744177664) fun h3 => .triv (v.length ≤ 70368744177664) tv <| .tr t1.1.length <| .tr t1.2.length <| .tr l.length <| .tr u.length <| .tr v.length <| .ret (a, b, c, d, e, j, m, n, p, t1.1, t1.2, l, u, v)
def f66 (k : Nat) (a b c d e : Int) (g i : List Int) (j : ByteArray) (l : List S40) (m n p : Int) (u : List Int) (v : List S90) : Option (Int × Int × Int × Int × Int × ByteArray × Int × Int × Int × (List Int) × (List Int) × (List S40) × (List Int) × (List S90)) := (f66.start k a b c d e g i j l m n p u v).run Empty.elim
def f66.o : (Int × Int × Int × Int × Int × ByteArray × Int × Int × Int × (List Int) × (List Int) × (List S40) × (List Int) × (List S90)) → V El × List (O El) := fun r => (.agg [.id .i64 0 r.1, .id .i64 0 r.2.1, .id .i64 0 r.2.2.1, .id .i64 0 r.2.2.2.1, .id .i64 0 r.2.2.2.2.1, .win 0 true (.l 0) (.d 0 r.2.2.2.2.2.2.2.2.2.1.length), .win 1 true (.l 0) (.d 0 r.2.2.2.2.2.2.2.2.2.2.1.length), .s r.2.2.2.2.2.1, .win 2 true (.l 0) (.d 0 r.2.2.2.2.2.2.2.2.2.2.2.1.length), .id .i64 0 r.2.2.2.2.2.2.1, .id .i64 0 r.2.2.2.2.2.2.2.1, .id .i64 0 r.2.2.2.2.2.2.2.2.1, .win 3 true (.l 0) (.d 0 r.2.2.2.2.2.2.2.2.2.2.2.2.1.length), .win 4 true (.l 0) (.d 0 r.2.2.2.2.2.2.2.2.2.2.2.2.2.length)], [.row true true true 0 0 r.2.2.2.2.2.2.2.2.2.1 none, .row true true true 0 0 r.2.2.2.2.2.2.2.2.2.2.1 none, .row true true true 0 3 r.2.2.2.2.2.2.2.2.2.2.2.1 none, .row true true true 0 0 r.2.2.2.2.2.2.2.2.2.2.2.2.1 none, .row true true true 0 4 r.2.2.2.2.2.2.2.2.2.2.2.2.2 none])
abbrev sf66 (k : Nat) : List (V G.El) → List (O G.El) → Q G.El (V G.El × List (O G.El)) := fun as' os' => lT os' <| na as' argA fun b' as' => nc b' (argI .i64) fun a b' => nc b' (argI .i64) fun b b' => nc b' (argI .i64) fun c b' => nc b' (argI .i64) fun d b' => nc b' (argI .i64) fun e b' => nc b' (argL 0) fun g b' => nc b' (argL 0) fun i b' => nc b' argS fun j b' => nc b' (argL 3) fun l b' => nc b' (argI .i64) fun m b' => nc b' (argI .i64) fun n b' => nc b' (argI .i64) fun p b' => nc b' (argL 0) fun u b' => nc b' (argL 4) fun v b' => argT b' <| lT as' <| .call _ (f66 k a b c d e g i j l m n p u v) fun r => .ret (f66.o r)
def f37.start (k : Nat) (a b c d e : Int) (g i : List Int) (j : ByteArray) (l : List S40) (m n p : Int) (u : List Int) (v : List S90) (w : Int) (y : ByteArray) : PT (Int × Int × Int × Int × Int × ByteArray × Int × Int × Int × Int × (List Int) × (List Int) × (List S40) × (List Int) × (List S90)) Empty := .call _ (f49 k a b c d e g i j l m n p u v) fun t1 => .ite (t1 = true) (fun h1 => .call _ (f66 k a b c d e g i j l m n p u v) fun t2 => .ite (w ≤ t2.2.2.2.1) (fun h2 => .t4 h2 <| .tr t2.2.2.2.2.2.2.2.2.2.1.length <| .tr t2.2.2.2.2.2.2.2.2.2.2.1.length <| .tr t2.2.2.2.2.2.2.2.2.2.2.2.1.length <| .tr t2.2.2.2.2.2.2.2.2.2.2.2.2.1.length <| .tr t2.2.2.2.2.2.2.2.2.2.2.2.2.2.length <| .ret (t2.1, t2.2.1, t2.2.2.1, t2.2.2.2.1, t2.2.2.2.2.1, t2.2.2.2.2.2.1, t2.2.2.2.2.2.2.1, t2.2.2.2.2.2.2.2.1, t2.2.2.2.2.2.2.2.2.1, 2, t2.2.2.2.2.2.2.2.2.2.1, t2.2.2.2.2.2.2.2.2.2.2.1, t2.2.2.2.2.2.2.2.2.2.2.2.1, t2.2.2.2.2.2.2.2.2.2.2.2.2.1, t2.2.2.2.2.2.2.2.2.2.2.2.2.2)) (fun h2 => .t4 h2 <| .ite (t2.2.2.2.2.2.2.1 < w) (fun h3 => .tr t2.2.2.2.2.2.2.2.2.2.1.length <| .tr t2.2.2.2.2.2.2.2.2.2.2.1.length <| .tr t2.2.2.2.2.2.2.2.2.2.2.2.1.length <| .tr t2.2.2.2.2.2.2.2.2.2.2.2.2.1.length <| .tr t2.2.2.2.2.2.2.2.2.2.2.2.2.2.length <| .ret (t2.1, t2.2.1, t2.2.2.1, t2.2.2.2.1, t2.2.2.2.2.1, t2.2.2.2.2.2.1, t2.2.2.2.2.2.2.1, t2.2.2.2.2.2.2.2.1, t2.2.2.2.2.2.2.2.2.1, 2, t2.2.2.2.2.2.2.2.2.2.1, t2.2.2.2.2.2.2.2.2.2.2.1, t2.2.2.2.2.2.2.2.2.2.2.2.1, t2.2.2.2.2.2.2.2.2.2.2.2.2.1, t2.2.2.2.2.2.2.2.2.2.2.2.2.2)) (fun h3 => .ite (20000 < (y.size : Int)) (fun h4 => .tr t2.2.2.2.2.2.2.2.2.2.1.length <| .tr t2.2.2.2.2.2.2.2.2.2.2.1.length <| .tr t2.2.2.2.2.2.2.2.2.2.2.2.1.length <| .tr t2.2.2.2.2.2.2.2.2.2.2.2.2.1.length <| .tr t2.2.2.2.2.2.2.2.2.2.2.2.2.2.length <| .ret (t2.1, t2.2.1, t2.2.2.1, t2.2.2.2.1, t2.2.2.2.2.1, t2.2.2.2.2.2.1, t2.2.2.2.2.2.2.1, t2.2.2.2.2.2.2.2.1, t2.2.2.2.2.2.2.2.2.1, 3, t2.2.2.2.2.2.2.2.2.2.1, t2.2.2.2.2.2.2.2.2.2.2.1, t2.2.2.2.2.2.2.2.2.2.2.2.1, t2.2.2.2.2.2.2.2.2.2.2.2.2.1, t2.2.2.2.2.2.2.2.2.2.2.2.2.2)) (fun h4 => .need (0 ≤ (IntKind.i64.wrap (w - t2.2.2.2.1))) fun h5 => .need ((IntKind.i64.wrap (w - t2.2.2.2.1)) ≤ (t2.2.2.2.2.2.2.2.2.2.2.2.1.length : Int)) fun h6 => .tr t2.2.2.2.2.2.2.2.2.2.1.length <| .tr t2.2.2.2.2.2.2.2.2.2.2.1.length <| .tr t2.2.2.2.2.2.2.2.2.2.2.2.1.length <| .tr t2.2.2.2.2.2.2.2.2.2.2.2.2.1.length <| .tr t2.2.2.2.2.2.2.2.2.2.2.2.2.2.length <| .call _ (f54 k t2.1 t2.2.1 t2.2.2.1 t2.2.2.2.1 t2.2.2.2.2.1 t2.2.2.2.2.2.2.2.2.2.1 t2.2.2.2.2.2.2.2.2.2.2.1 t2.2.2.2.2.2.1 t2.2.2.2.2.2.2.2.2.2.2.2.1 t2.2.2.2.2.2.2.1 t2.2.2.2.2.2.2.2.1 t2.2.2.2.2.2.2.2.2.1 t2.2.2.2.2.2.2.2.2.2.2.2.2.1 t2.2.2.2.2.2.2.2.2.2.2.2.2.2 w) fun t3 => .tr t2.2.2.2.2.2.2.2.2.2.1.length <| .tr t2.2.2.2.2.2.2.2.2.2.2.1.length <| .triv ((IntKind.i64.wrap (w - t2.2.2.2.1)).toNat ≤ t2.2.2.2.2.2.2.2.2.2.2.2.1.length) tv <| .call _ (f63 k 0 0 0 0 0 t2.2.2.2.2.2.2.2.2.2.1 t2.2.2.2.2.2.2.2.2.2.2.1 (⟨#[]⟩ : ByteArray) (t2.2.2.2.2.2.2.2.2.2.2.2.1.take ((IntKind.i64.wrap (w - t2.2.2.2.1)).toNat)) 0 0 0 ([] : List Int) ([] : List S90)) fun t4 => .call _ (f56 k t4.1 t4.2) fun t5 => .triv (0 ≤ (((IntKind.i64.wrap (w - t2.2.2.2.1)).toNat : Nat) : Int)) tv <| .triv ((((IntKind.i64.wrap (w - t2.2.2.2.1)).toNat : Nat) : Int) ≤ (t2.2.2.2.2.2.2.2.2.2.2.2.1.length : Int)) tv <| .triv ((((IntKind.i64.wrap (w - t2.2.2.2.1)).toNat : Nat) : Int).toNat + (t2.2.2.2.2.2.2.2.2.2.2.2.1.length - (((IntKind.i64.wrap (w - t2.2.2.2.1)).toNat : Nat) : Int).toNat) ≤ t2.2.2.2.2.2.2.2.2.2.2.2.1.length) tv <| .triv (0 = ([] : List S40).length) tv <| .need ((t2.2.2.2.2.2.2.2.2.2.2.2.1.length - (((IntKind.i64.wrap (w - t2.2.2.2.1)).toNat : Nat) : Int).toNat) * 32 ≤ 70368744177664) fun h7 => .triv ((t2.2.2.2.2.2.2.2.2.2.2.2.1.length - (((IntKind.i64.wrap (w - t2.2.2.2.1)).toNat : Nat) : Int).toNat) ≤ 70368744177664) tv <| .tr t5.1.length <| .tr t5.2.length <| .triv ((t2.2.2.2.2.2.2.2.2.2.2.2.1.length - (((IntKind.i64.wrap (w - t2.2.2.2.1)).toNat : Nat) : Int).toNat) = ((t2.2.2.2.2.2.2.2.2.2.2.2.1.drop ((((IntKind.i64.wrap (w - t2.2.2.2.1)).toNat : Nat) : Int).toNat)).take (t2.2.2.2.2.2.2.2.2.2.2.2.1.length - (((IntKind.i64.wrap (w - t2.2.2.2.1)).toNat : Nat) : Int).toNat)).length) tv <| .tr t2.2.2.2.2.2.2.2.2.2.2.2.2.1.length <| .tr t2.2.2.2.2.2.2.2.2.2.2.2.2.2.length <| .ret (t2.1, t2.2.1, t2.2.2.1, w, t3, y, t2.2.2.2.2.2.2.1, t2.2.2.2.2.2.2.2.1, t2.2.2.2.2.2.2.2.2.1, 0, t5.1, t5.2, ((t2.2.2.2.2.2.2.2.2.2.2.2.1.drop ((((IntKind.i64.wrap (w - t2.2.2.2.1)).toNat : Nat) : Int).toNat)).take (t2.2.2.2.2.2.2.2.2.2.2.2.1.length - (((IntKind.i64.wrap (w - t2.2.2.2.1)).toNat : Nat) : Int).toNat)), t2.2.2.2.2.2.2.2.2.2.2.2.2.1, t2.2.2.2.2.2.2.2.2.2.2.2.2.2))))) (fun h1 => .triv (0 = ([] : List Int).length) tv <| .triv (0 = ([] : List Int).length) tv <| .triv (0 = ([] : List S40).length) tv <| .triv (0 = ([] : List Int).length) tv <| .triv (0 = ([] : List S90).length) tv <| .ret (0, 0, 0, 0, 0, (⟨#[]⟩ : ByteArray), 0, 0, 0, 1, ([] : List Int), ([] : List Int), ([] : List S40), ([] : List Int), ([] : List S90)))
def f37 (k : Nat) (a b c d e : Int) (g i : List Int) (j : ByteArray) (l : List S40) (m n p : Int) (u : List Int) (v : List S90) (w : Int) (y : ByteArray) : Option (Int × Int × Int × Int × Int × ByteArray × Int × Int × Int × Int × (List Int) × (List Int) × (List S40) × (List Int) × (List S90)) := (f37.start k a b c d e g i j l m n p u v w y).run Empty.elim
def f37.o : (Int × Int × Int × Int × Int × ByteArray × Int × Int × Int × Int × (List Int) × (List Int) × (List S40) × (List Int) × (List S90)) → V El × List (O El) := fun r => (.tup [.agg [.id .i64 0 r.1, .id .i64 0 r.2.1, .id .i64 0 r.2.2.1, .id .i64 0 r.2.2.2.1, .id .i64 0 r.2.2.2.2.1, .win 0 true (.l 0) (.d 0 r.2.2.2.2.2.2.2.2.2.2.1.length), .win 1 true (.l 0) (.d 0 r.2.2.2.2.2.2.2.2.2.2.2.1.length), .s r.2.2.2.2.2.1, .win 2 true (.l 0) (.d 0 r.2.2.2.2.2.2.2.2.2.2.2.2.1.length), .id .i64 0 r.2.2.2.2.2.2.1, .id .i64 0 r.2.2.2.2.2.2.2.1, .id .i64 0 r.2.2.2.2.2.2.2.2.1, .win 3 true (.l 0) (.d 0 r.2.2.2.2.2.2.2.2.2.2.2.2.2.1.length), .win 4 true (.l 0) (.d 0 r.2.2.2.2.2.2.2.2.2.2.2.2.2.2.length)], .id .i64 0 r.2.2.2.2.2.2.2.2.2.1], [.row true true true 0 0 r.2.2.2.2.2.2.2.2.2.2.1 none, .row true true true 0 0 r.2.2.2.2.2.2.2.2.2.2.2.1 none, .row true true true 0 3 r.2.2.2.2.2.2.2.2.2.2.2.2.1 none, .row true true true 0 0 r.2.2.2.2.2.2.2.2.2.2.2.2.2.1 none, .row true true true 0 4 r.2.2.2.2.2.2.2.2.2.2.2.2.2.2 none])
abbrev sf37 (k : Nat) : List (V G.El) → List (O G.El) → Q G.El (V G.El × List (O G.El)) := fun as' os' => lT os' <| na as' argA fun b' as' => nc b' (argI .i64) fun a b' => nc b' (argI .i64) fun b b' => nc b' (argI .i64) fun c b' => nc b' (argI .i64) fun d b' => nc b' (argI .i64) fun e b' => nc b' (argL 0) fun g b' => nc b' (argL 0) fun i b' => nc b' argS fun j b' => nc b' (argL 3) fun l b' => nc b' (argI .i64) fun m b' => nc b' (argI .i64) fun n b' => nc b' (argI .i64) fun p b' => nc b' (argL 0) fun u b' => nc b' (argL 4) fun v b' => argT b' <| na as' (argI .i64) fun w as' => na as' argS fun y as' => lT as' <| .call _ (f37 k a b c d e g i j l m n p u v w y) fun r => .ret (f37.o r)
def f9.start (k : Nat) (a b c d e : Int) (g i : List Int) (j : ByteArray) (l : List S85) (m n p : Int) (u : List Int) (v : List S92) (w : Int) (y : ByteArray) : PT (Bool) Empty := .ite (1048576 < (y.size : Int)) (fun h1 => .ret true) (fun h1 => .call _ (f10 k a b c d e g i j l m n p u v 1048576) fun t1 => .ite (t1 < 0) (fun h2 => .ret true) (fun h2 => .callh _ (f12 k a b c d e g i j l m n p u v) fun t2 ht2 => .tr t2.2.2.2.2.2.2.2.2.2.1.length <| .tr t2.2.2.2.2.2.2.2.2.2.2.1.length <| .tr t2.2.2.2.2.2.2.2.2.2.2.2.1.length <| .tr t2.2.2.2.2.2.2.2.2.2.2.2.2.1.length <| .tr t2.2.2.2.2.2.2.2.2.2.2.2.2.2.length <| .call _ (f36 k t2.1 t2.2.1 t2.2.2.1 t2.2.2.2.1 t2.2.2.2.2.1 t2.2.2.2.2.2.2.2.2.2.1 t2.2.2.2.2.2.2.2.2.2.2.1 t2.2.2.2.2.2.1 t2.2.2.2.2.2.2.2.2.2.2.2.1 t2.2.2.2.2.2.2.1 t2.2.2.2.2.2.2.2.1 t2.2.2.2.2.2.2.2.2.1 t2.2.2.2.2.2.2.2.2.2.2.2.2.1 t2.2.2.2.2.2.2.2.2.2.2.2.2.2 w y) fun t3 => .recall _ (f12 k a b c d e g i j l m n p u v) t2 ht2 <| .tr t2.2.2.2.2.2.2.2.2.2.1.length <| .tr t2.2.2.2.2.2.2.2.2.2.2.1.length <| .tr t2.2.2.2.2.2.2.2.2.2.2.2.1.length <| .tr t2.2.2.2.2.2.2.2.2.2.2.2.2.1.length <| .tr t2.2.2.2.2.2.2.2.2.2.2.2.2.2.length <| .callh _ (f37 k t2.1 t2.2.1 t2.2.2.1 t2.2.2.2.1 t2.2.2.2.2.1 t2.2.2.2.2.2.2.2.2.2.1 t2.2.2.2.2.2.2.2.2.2.2.1 t2.2.2.2.2.2.1 t2.2.2.2.2.2.2.2.2.2.2.2.1 t2.2.2.2.2.2.2.1 t2.2.2.2.2.2.2.2.1 t2.2.2.2.2.2.2.2.2.1 t2.2.2.2.2.2.2.2.2.2.2.2.2.1 t2.2.2.2.2.2.2.2.2.2.2.2.2.2 w y) fun t4 ht4 => .tr t4.2.2.2.2.2.2.2.2.2.2.1.length <| .tr t4.2.2.2.2.2.2.2.2.2.2.2.1.length <| .tr t4.2.2.2.2.2.2.2.2.2.2.2.2.1.length <| .tr t4.2.2.2.2.2.2.2.2.2.2.2.2.2.1.length <| .tr t4.2.2.2.2.2.2.2.2.2.2.2.2.2.2.length <| .tr t3.2.2.2.2.2.2.2.2.2.2.1.length <| .tr t3.2.2.2.2.2.2.2.2.2.2.2.1.length <| .tr t3.2.2.2.2.2.2.2.2.2.2.2.2.1.length <| .tr t3.2.2.2.2.2.2.2.2.2.2.2.2.2.1.length <| .tr t3.2.2.2.2.2.2.2.2.2.2.2.2.2.2.length <| .callh _ (f14 k t4.1 t4.2.1 t4.2.2.1 t4.2.2.2.1 t4.2.2.2.2.1 t4.2.2.2.2.2.2.2.2.2.2.1 t4.2.2.2.2.2.2.2.2.2.2.2.1 t4.2.2.2.2.2.1 t4.2.2.2.2.2.2.2.2.2.2.2.2.1 t4.2.2.2.2.2.2.1 t4.2.2.2.2.2.2.2.1 t4.2.2.2.2.2.2.2.2.1 t4.2.2.2.2.2.2.2.2.2.2.2.2.2.1 t4.2.2.2.2.2.2.2.2.2.2.2.2.2.2 t3.1 t3.2.1 t3.2.2.1 t3.2.2.2.1 t3.2.2.2.2.1 t3.2.2.2.2.2.2.2.2.2.2.1 t3.2.2.2.2.2.2.2.2.2.2.2.1 t3.2.2.2.2.2.1 t3.2.2.2.2.2.2.2.2.2.2.2.2.1 t3.2.2.2.2.2.2.1 t3.2.2.2.2.2.2.2.1 t3.2.2.2.2.2.2.2.2.1 t3.2.2.2.2.2.2.2.2.2.2.2.2.2.1 t3.2.2.2.2.2.2.2.2.2.2.2.2.2.2) fun t5 ht5 => .ite (t5 = true) (fun h3 => .t3 h3 <| .ite (t4.2.2.2.2.2.2.2.2.2.1 = t3.2.2.2.2.2.2.2.2.2.1) (fun h4 => .recall _ (f12 k a b c d e g i j l m n p u v) t2 ht2 <| .tr t2.2.2.2.2.2.2.2.2.2.1.length <| .tr t2.2.2.2.2.2.2.2.2.2.2.1.length <| .tr t2.2.2.2.2.2.2.2.2.2.2.2.1.length <| .tr t2.2.2.2.2.2.2.2.2.2.2.2.2.1.length <| .tr t2.2.2.2.2.2.2.2.2.2.2.2.2.2.length <| .tr t2.2.2.2.2.2.2.2.2.2.1.length <| .tr t2.2.2.2.2.2.2.2.2.2.2.1.length <| .tr t2.2.2.2.2.2.2.2.2.2.2.2.1.length <| .tr t2.2.2.2.2.2.2.2.2.2.2.2.2.1.length <| .tr t2.2.2.2.2.2.2.2.2.2.2.2.2.2.length <| .call _ (f14 k t2.1 t2.2.1 t2.2.2.1 t2.2.2.2.1 t2.2.2.2.2.1 t2.2.2.2.2.2.2.2.2.2.1 t2.2.2.2.2.2.2.2.2.2.2.1 t2.2.2.2.2.2.1 t2.2.2.2.2.2.2.2.2.2.2.2.1 t2.2.2.2.2.2.2.1 t2.2.2.2.2.2.2.2.1 t2.2.2.2.2.2.2.2.2.1 t2.2.2.2.2.2.2.2.2.2.2.2.2.1 t2.2.2.2.2.2.2.2.2.2.2.2.2.2 t2.1 t2.2.1 t2.2.2.1 t2.2.2.2.1 t2.2.2.2.2.1 t2.2.2.2.2.2.2.2.2.2.1 t2.2.2.2.2.2.2.2.2.2.2.1 t2.2.2.2.2.2.1 t2.2.2.2.2.2.2.2.2.2.2.2.1 t2.2.2.2.2.2.2.1 t2.2.2.2.2.2.2.2.1 t2.2.2.2.2.2.2.2.2.1 t2.2.2.2.2.2.2.2.2.2.2.2.2.1 t2.2.2.2.2.2.2.2.2.2.2.2.2.2) fun t6 => .ite (t6 = true) (fun h5 => .tr t2.2.2.2.2.2.2.2.2.2.1.length <| .tr t2.2.2.2.2.2.2.2.2.2.2.1.length <| .tr t2.2.2.2.2.2.2.2.2.2.2.2.1.length <| .tr t2.2.2.2.2.2.2.2.2.2.2.2.2.1.length <| .tr t2.2.2.2.2.2.2.2.2.2.2.2.2.2.length <| .call _ (f26 k t2.1 t2.2.1 t2.2.2.1 t2.2.2.2.1 t2.2.2.2.2.1 t2.2.2.2.2.2.1 t2.2.2.2.2.2.2.1 t2.2.2.2.2.2.2.2.1 t2.2.2.2.2.2.2.2.2.1 1 t2.2.2.2.2.2.2.2.2.2.1 t2.2.2.2.2.2.2.2.2.2.2.1 t2.2.2.2.2.2.2.2.2.2.2.2.1 t2.2.2.2.2.2.2.2.2.2.2.2.2.1 t2.2.2.2.2.2.2.2.2.2.2.2.2.2) fun t7 => .ite (t7.1 < 0) (fun h6 => .t4 h6 <| .ret false) (fun h6 => .t2 h6 <| .tr t4.2.2.2.2.2.2.2.2.2.2.1.length <| .tr t4.2.2.2.2.2.2.2.2.2.2.2.1.length <| .tr t4.2.2.2.2.2.2.2.2.2.2.2.2.1.length <| .tr t4.2.2.2.2.2.2.2.2.2.2.2.2.2.1.length <| .tr t4.2.2.2.2.2.2.2.2.2.2.2.2.2.2.length <| .tr t3.2.2.2.2.2.2.2.2.2.2.1.length <| .tr t3.2.2.2.2.2.2.2.2.2.2.2.1.length <| .tr t3.2.2.2.2.2.2.2.2.2.2.2.2.1.length <| .tr t3.2.2.2.2.2.2.2.2.2.2.2.2.2.1.length <| .tr t3.2.2.2.2.2.2.2.2.2.2.2.2.2.2.length <| .recall _ (f14 k t4.1 t4.2.1 t4.2.2.1 t4.2.2.2.1 t4.2.2.2.2.1 t4.2.2.2.2.2.2.2.2.2.2.1 t4.2.2.2.2.2.2.2.2.2.2.2.1 t4.2.2.2.2.2.1 t4.2.2.2.2.2.2.2.2.2.2.2.2.1 t4.2.2.2.2.2.2.1 t4.2.2.2.2.2.2.2.1 t4.2.2.2.2.2.2.2.2.1 t4.2.2.2.2.2.2.2.2.2.2.2.2.2.1 t4.2.2.2.2.2.2.2.2.2.2.2.2.2.2 t3.1 t3.2.1 t3.2.2.1 t3.2.2.2.1 t3.2.2.2.2.1 t3.2.2.2.2.2.2.2.2.2.2.1 t3.2.2.2.2.2.2.2.2.2.2.2.1 t3.2.2.2.2.2.1 t3.2.2.2.2.2.2.2.2.2.2.2.2.1 t3.2.2.2.2.2.2.1 t3.2.2.2.2.2.2.2.1 t3.2.2.2.2.2.2.2.2.1 t3.2.2.2.2.2.2.2.2.2.2.2.2.2.1 t3.2.2.2.2.2.2.2.2.2.2.2.2.2.2) t5 ht5 <| .t2 h6 <| .t4 h3 <| .th h4 <| .tr t4.2.2.2.2.2.2.2.2.2.2.1.length <| .tr t4.2.2.2.2.2.2.2.2.2.2.2.1.length <| .tr t4.2.2.2.2.2.2.2.2.2.2.2.2.1.length <| .tr t4.2.2.2.2.2.2.2.2.2.2.2.2.2.1.length <| .tr t4.2.2.2.2.2.2.2.2.2.2.2.2.2.2.length <| .call _ (f26 k t4.1 t4.2.1 t4.2.2.1 t4.2.2.2.1 t4.2.2.2.2.1 t4.2.2.2.2.2.1 t4.2.2.2.2.2.2.1 t4.2.2.2.2.2.2.2.1 t4.2.2.2.2.2.2.2.2.1 1 t4.2.2.2.2.2.2.2.2.2.2.1 t4.2.2.2.2.2.2.2.2.2.2.2.1 t4.2.2.2.2.2.2.2.2.2.2.2.2.1 t4.2.2.2.2.2.2.2.2.2.2.2.2.2.1 t4.2.2.2.2.2.2.2.2.2.2.2.2.2.2) fun t8 => .need (t4.2.2.2.2.2.2.2.2.2.2.1.length ≤ t8.2.1.length) fun h7 => .need (t4.2.2.2.2.2.2.2.2.2.2.2.1.length ≤ t8.2.2.1.length) fun h8 => .need (t4.2.2.2.2.2.2.2.2.2.2.2.2.1.length ≤ t8.2.2.2.1.length) fun h9 => .need (t4.2.2.2.2.2.2.2.2.2.2.2.2.2.1.length ≤ t8.2.2.2.2.1.length) fun h10 => .need (t4.2.2.2.2.2.2.2.2.2.2.2.2.2.2.length ≤ t8.2.2.2.2.2.length) fun h11 => .callh _ (f27 k t4.1 t4.2.1 t4.2.2.1 t4.2.2.2.1 t4.2.2.2.2.1 (t8.2.1.take t4.2.2.2.2.2.2.2.2.2.2.1.length) (t8.2.2.1.take t4.2.2.2.2.2.2.2.2.2.2.2.1.length) t4.2.2.2.2.2.1 (t8.2.2.2.1.take t4.2.2.2.2.2.2.2.2.2.2.2.2.1.length) t4.2.2.2.2.2.2.1 t4.2.2.2.2.2.2.2.1 t4.2.2.2.2.2.2.2.2.1 (t8.2.2.2.2.1.take t4.2.2.2.2.2.2.2.2.2.2.2.2.2.1.length) (t8.2.2.2.2.2.take t4.2.2.2.2.2.2.2.2.2.2.2.2.2.2.length) 1) fun t9 ht9 => .ite (t9 < 0) (fun h12 => .ret false) (fun h12 => .ite (t9 = t8.1) (fun h13 => .recall _ (f12 k a b c d e g i j l m n p u v) t2 ht2 <| .tr t2.2.2.2.2.2.2.2.2.2.1.length <| .tr t2.2.2.2.2.2.2.2.2.2.2.1.length <| .tr t2.2.2.2.2.2.2.2.2.2.2.2.1.length <| .tr t2.2.2.2.2.2.2.2.2.2.2.2.2.1.length <| .tr t2.2.2.2.2.2.2.2.2.2.2.2.2.2.length <| .recall _ (f37 k t2.1 t2.2.1 t2.2.2.1 t2.2.2.2.1 t2.2.2.2.2.1 t2.2.2.2.2.2.2.2.2.2.1 t2.2.2.2.2.2.2.2.2.2.2.1 t2.2.2.2.2.2.1 t2.2.2.2.2.2.2.2.2.2.2.2.1 t2.2.2.2.2.2.2.1 t2.2.2.2.2.2.2.2.1 t2.2.2.2.2.2.2.2.2.1 t2.2.2.2.2.2.2.2.2.2.2.2.2.1 t2.2.2.2.2.2.2.2.2.2.2.2.2.2 w y) t4 ht4 <| .tr t4.2.2.2.2.2.2.2.2.2.2.1.length <| .tr t4.2.2.2.2.2.2.2.2.2.2.2.1.length <| .tr t4.2.2.2.2.2.2.2.2.2.2.2.2.1.length <| .tr t4.2.2.2.2.2.2.2.2.2.2.2.2.2.1.length <| .tr t4.2.2.2.2.2.2.2.2.2.2.2.2.2.2.length <| .tr t3.2.2.2.2.2.2.2.2.2.2.1.length <| .tr t3.2.2.2.2.2.2.2.2.2.2.2.1.length <| .tr t3.2.2.2.2.2.2.2.2.2.2.2.2.1.length <| .tr t3.2.2.2.2.2.2.2.2.2.2.2.2.2.1.length <| .tr t3.2.2.2.2.2.2.2.2.2.2.2.2.2.2.length <| .recall _ (f14 k t4.1 t4.2.1 t4.2.2.1 t4.2.2.2.1 t4.2.2.2.2.1 t4.2.2.2.2.2.2.2.2.2.2.1 t4.2.2.2.2.2.2.2.2.2.2.2.1 t4.2.2.2.2.2.1 t4.2.2.2.2.2.2.2.2.2.2.2.2.1 t4.2.2.2.2.2.2.1 t4.2.2.2.2.2.2.2.1 t4.2.2.2.2.2.2.2.2.1 t4.2.2.2.2.2.2.2.2.2.2.2.2.2.1 t4.2.2.2.2.2.2.2.2.2.2.2.2.2.2 t3.1 t3.2.1 t3.2.2.1 t3.2.2.2.1 t3.2.2.2.2.1 t3.2.2.2.2.2.2.2.2.2.2.1 t3.2.2.2.2.2.2.2.2.2.2.2.1 t3.2.2.2.2.2.1 t3.2.2.2.2.2.2.2.2.2.2.2.2.1 t3.2.2.2.2.2.2.1 t3.2.2.2.2.2.2.2.1 t3.2.2.2.2.2.2.2.2.1 t3.2.2.2.2.2.2.2.2.2.2.2.2.2.1 t3.2.2.2.2.2.2.2.2.2.2.2.2.2.2) t5 ht5 <| .t4 h3 <| .th h4 <| .th h7 <| .th h8 <| .th h9 <| .th h10 <| .th h11 <| .recall _ (f27 k t4.1 t4.2.1 t4.2.2.1 t4.2.2.2.1 t4.2.2.2.2.1 (t8.2.1.take t4.2.2.2.2.2.2.2.2.2.2.1.length) (t8.2.2.1.take t4.2.2.2.2.2.2.2.2.2.2.2.1.length) t4.2.2.2.2.2.1 (t8.2.2.2.1.take t4.2.2.2.2.2.2.2.2.2.2.2.2.1.length) t4.2.2.2.2.2.2.1 t4.2.2.2.2.2.2.2.1 t4.2.2.2.2.2.2.2.2.1 (t8.2.2.2.2.1.take t4.2.2.2.2.2.2.2.2.2.2.2.2.2.1.length) (t8.2.2.2.2.2.take t4.2.2.2.2.2.2.2.2.2.2.2.2.2.2.length) 1) t9 ht9 <| .th h12 <| .th h13 <| .ret true) (fun h13 => .ret false)))) (fun h5 => .ret false)) (fun h4 => .ret false)) (fun h3 => .t3 h3 <| .ret false)))
def f9 (k : Nat) (a b c d e : Int) (g i : List Int) (j : ByteArray) (l : List S85) (m n p : Int) (u : List Int) (v : List S92) (w : Int) (y : ByteArray) : Option (Bool) := (f9.start k a b c d e g i j l m n p u v w y).run Empty.elim
def f9.o : (Bool) → V El × List (O El) := fun r => (.bb false r, [])
end Go.Proofs.YtbfgmnjhikaagaaGreatDoor.P
namespace Go.Proofs.YtbfgmnjhikaagaaGreatDoor.PM
open Go
open Go.Proofs.YtbfgmnjhikaagaaGreatDoor.PN (PT)
variable {R Lb : Type} {D : Nat → Lb → Option R} {r : R}
theorem Ev.res {v : R} : Ev (fun k => (PT.ret (Lb := Lb) v).run (D k)) v := Ev.ret v
theorem Ev.need {c : Prop} [d : Decidable c] {p : Nat → c → PT R Lb} (h : c) (e : Ev (fun k => (p k h).run (D k)) r) : Ev (fun k => (PT.need c (p k)).run (D k)) r := by
  obtain ⟨K, e⟩ := e
  exact ⟨K, fun k hk => by show dite c _ _ = _; rw [dif_pos h]; exact e k hk⟩
theorem Ev.triv {c : Prop} [d : Decidable c] {h : c} {p : Nat → PT R Lb} (e : Ev (fun k => (p k).run (D k)) r) : Ev (fun k => (PT.triv c h (p k)).run (D k)) r := e
theorem Ev.yes {c : Prop} [d : Decidable c] {p : Nat → c → PT R Lb} {q : Nat → ¬ c → PT R Lb} (h : c) (e : Ev (fun k => (p k h).run (D k)) r) : Ev (fun k => (PT.ite c (p k) (q k)).run (D k)) r := by
  obtain ⟨K, e⟩ := e
  exact ⟨K, fun k hk => by show dite c _ _ = _; rw [dif_pos h]; exact e k hk⟩
theorem Ev.no {c : Prop} [d : Decidable c] {p : Nat → c → PT R Lb} {q : Nat → ¬ c → PT R Lb} (h : ¬ c) (e : Ev (fun k => (q k h).run (D k)) r) : Ev (fun k => (PT.ite c (p k) (q k)).run (D k)) r := by
  obtain ⟨K, e⟩ := e
  exact ⟨K, fun k hk => by show dite c _ _ = _; rw [dif_neg h]; exact e k hk⟩
theorem Ev.fork {c : Prop} [d : Decidable c] {p : Nat → c → PT R Lb} {q : Nat → ¬ c → PT R Lb} (h1 : ∀ h : c, Ev (fun k => (p k h).run (D k)) r) (h2 : ∀ h : ¬ c, Ev (fun k => (q k h).run (D k)) r) : Ev (fun k => (PT.ite c (p k) (q k)).run (D k)) r := by
  by_cases h : c
  · exact Ev.yes h (h1 h)
  · exact Ev.no h (h2 h)
theorem Ev.call {ρ : Type} {x : Nat → Option ρ} {p : Nat → ρ → PT R Lb} {v : ρ} (h : Ev x v) (e : Ev (fun k => (p k v).run (D k)) r) : Ev (fun k => (PT.call ρ (x k) (p k)).run (D k)) r := by
  obtain ⟨K, h⟩ := h
  obtain ⟨K', e⟩ := e
  exact ⟨max K K', fun k hk => by show (x k).bind _ = _; rw [h k (by omega)]; exact e k (by omega)⟩
theorem Ev.left {β γ : Type} {a : β} {p : Nat → β → PT R Lb} {q : Nat → γ → PT R Lb} (e : Ev (fun k => (p k a).run (D k)) r) : Ev (fun k => (PT.either β γ (.inl a) (p k) (q k)).run (D k)) r := e
theorem Ev.right {β γ : Type} {a : γ} {p : Nat → β → PT R Lb} {q : Nat → γ → PT R Lb} (e : Ev (fun k => (q k a).run (D k)) r) : Ev (fun k => (PT.either β γ (.inr a) (p k) (q k)).run (D k)) r := e
theorem Ev.jump {x : Lb} (e : Ev (fun k => D k x) r) : Ev (fun k => (PT.jump (R := R) x).run (D k)) r := e
theorem Ev.round {blk : Nat → Lb → PT R Lb} {x : Lb} (e : Ev (fun k => (blk k x).run (PT.iter blk k)) r) : Ev (fun k => PT.iter blk k x) r := Ev.step (f := fun k => (blk k x).run (PT.iter blk k)) (fun _ => rfl) e
end Go.Proofs.YtbfgmnjhikaagaaGreatDoor.PM
namespace Go.Proofs.YtbfgmnjhikaagaaGreatDoor.P
open Go Go.Proofs.YtbfgmnjhikaagaaGreatDoor.PM Go.Proofs
open Go.Proofs.YtbfgmnjhikaagaaGreatDoor.PN (PT)
theorem wr {n : Int} (h1 : -9223372036854775808 ≤ n) (h2 : n ≤ 9223372036854775807) : IntKind.i64.wrap n = n := wrap_i64 h1 h2
theorem wr1 {i : Nat} (h : i ≤ 4611686018427387904) : IntKind.i64.wrap ((i : Int) + 1) = ((i + 1 : Nat) : Int) := by rw [wr (by omega) (by omega)]; omega
theorem scan {R Lb : Type} {blk : Nat → Lb → PT R Lb} {L : Nat → Lb} {n : Nat} {res : Nat → R} (hs : ∀ i, i ≤ n → (i < n → Ev (fun k => PT.iter blk k (L (i + 1))) (res (i + 1))) → Ev (fun k => (blk k (L i)).run (PT.iter blk k)) (res i)) : ∀ i, i ≤ n → Ev (fun k => PT.iter blk k (L i)) (res i) := by
  have key : ∀ d i, n - i = d → i ≤ n → Ev (fun k => PT.iter blk k (L i)) (res i) := by
    intro d
    induction d with
    | zero => intro i h1 h2; exact Ev.round (hs i h2 fun h => by omega)
    | succ d ih => intro i h1 h2; exact Ev.round (hs i h2 fun h => ih (i + 1) (by omega) (by omega))
  exact fun i h => key _ i rfl h
def inB (b c a : Int) : Bool := decide (b ≤ a) && decide (a ≤ c)
theorem l1In_ev (a b c : Int) : Ev (fun k => f41 k a b c) (inB b c a) := by
  unfold f41 f41.start inB
  simp only [PT.run, dite_eq_ite]
  exact Ev.ite (fun h => Ev.ret' (by rw [decide_eq_true h]; rfl)) (fun h => Ev.ret' (by rw [decide_eq_false h]; rfl))
theorem in_ev (a b c : Int) : Ev (fun k => f76 k a b c) (inB b c a) := by
  unfold f76 f76.start inB
  simp only [PT.run, dite_eq_ite]
  exact Ev.ite (fun h => Ev.ret' (by rw [decide_eq_true h]; rfl)) (fun h => Ev.ret' (by rw [decide_eq_false h]; rfl))
theorem isNodeId_ev (a : Int) : Ev (fun k => f74 k a) (inB 1 50 a) := by
  simp only [f74, f74.start, PT.run]
  exact Ev.bind (in_ev a 1 50) (Ev.ret _)
theorem isNumber_ev (a : Int) : Ev (fun k => f75 k a) (inB 0 1000000000000 a) := by
  simp only [f75, f75.start, PT.run]
  exact Ev.bind (in_ev a 0 1000000000000) (Ev.ret _)
def idAt (l : List Int) (i : Nat) : Bool := inB 1 50 (at' l (i : Int)) && (decide (i = 0) || decide (at' l ((i : Int) - 1) < at' l (i : Int)))
def hasI (l : List Int) (x : Int) : Bool := anyFrom (fun y => y == x) l 0
theorem l9Ids_loop (l : List Int) (hl : l.length ≤ 4194304) : ∀ i, i ≤ l.length → Ev (fun k => f68.D k (.l4 l (i : Int))) (allFrom (idAt l) i l.length) := by
  refine scan fun i hi ih => ?_
  simp only [f68.blk, PT.run, dite_eq_ite]
  refine Ev.ite (fun h => ?_) (fun h => Ev.ret' (allFrom_end _ (by omega)).symm)
  have hlt : i < l.length := by omega
  have ih := ih hlt
  rw [← wr1 (by omega)] at ih
  refine Ev.pos (by omega) (Ev.bind (l1In_ev _ _ _) ?_)
  rw [allFrom_step _ hlt, idAt]
  cases hb : inB 1 50 (at' l (i : Int)) with
  | false => exact Ev.neg (by simp) (Ev.ret' (by simp))
  | true =>
    refine Ev.pos rfl ?_
    by_cases h0 : i = 0
    · refine Ev.neg (by omega) ?_
      rw [decide_eq_true h0]
      simpa using ih
    · refine Ev.pos (by omega) ?_
      rw [wr (n := (i : Int) - 1) (by omega) (by omega)]
      refine Ev.pos (by omega) (Ev.pos (by omega) ?_)
      by_cases h1 : at' l ((i : Int) - 1) < at' l (i : Int)
      · refine Ev.neg (by omega) ?_
        rw [decide_eq_true h1]
        simpa using ih
      · refine Ev.pos (by omega) (Ev.ret' ?_)
        rw [decide_eq_false h1, decide_eq_false h0]
        simp
theorem l9Ids_ev (l : List Int) (m : Nat) (hl : l.length ≤ 4194304) (hm : m ≤ 4194304) : Ev (fun k => f68 k l (m : Int)) (allFrom (idAt l) 0 l.length && decide (l.length ≤ m)) := by
  simp only [f68, f68.start, PT.run, dite_eq_ite]
  refine Ev.ite (fun h => Ev.ret' (by rw [decide_eq_false (p := l.length ≤ m) (by omega)]; simp)) (fun h => ?_)
  rw [decide_eq_true (p := l.length ≤ m) (by omega), Bool.and_true]
  exact l9Ids_loop l hl 0 (Nat.zero_le _)
def areB (l : List Int) : Bool := allFrom (idAt l) 0 l.length && decide (l.length ≤ 7)
theorem l9Ids7_ev (l : List Int) (hl : l.length ≤ 4194304) : Ev (fun k => f68 k l 7) (areB l) := l9Ids_ev l 7 hl (by decide)
theorem areMembers_loop (l : List Int) (hl : l.length ≤ 4194304) : ∀ i, i ≤ l.length → Ev (fun k => f86.D k (.l2 l l (l.length : Int) (i : Int))) (allFrom (idAt l) i l.length && decide (l.length ≤ 7)) := by
  refine scan fun i hi ih => ?_
  simp only [f86.blk, PT.run, dite_eq_ite]
  refine Ev.ite (fun h => ?_) (fun h => Ev.ret' ?_)
  · have hlt : i < l.length := by omega
    have ih := ih hlt
    rw [← wr1 (by omega)] at ih
    refine Ev.pos (by omega) (Ev.pos (by omega) (Ev.bind (isNodeId_ev _) ?_))
    rw [allFrom_step _ hlt, idAt]
    cases hb : inB 1 50 (at' l (i : Int)) with
    | false => exact Ev.neg (by simp) (Ev.ret' (by simp))
    | true =>
      refine Ev.pos rfl ?_
      by_cases h0 : i = 0
      · refine Ev.neg (by omega) ?_
        rw [decide_eq_true h0]
        simpa using ih
      · refine Ev.pos (by omega) ?_
        rw [wr (n := (i : Int) - 1) (by omega) (by omega)]
        refine Ev.pos (by omega) (Ev.pos (by omega) ?_)
        by_cases h1 : at' l ((i : Int) - 1) < at' l (i : Int)
        · refine Ev.neg (by omega) ?_
          rw [decide_eq_true h1]
          simpa using ih
        · refine Ev.pos (by omega) (Ev.ret' ?_)
          rw [decide_eq_false h1, decide_eq_false h0]
          simp
  · rw [allFrom_end _ (by omega), Bool.true_and]
    by_cases h7 : l.length ≤ 7
    · rw [decide_eq_true h7, decide_eq_true (by omega)]
    · rw [decide_eq_false h7, decide_eq_false (by omega)]
theorem areMembers_ev (l : List Int) (hl : l.length ≤ 4194304) : Ev (fun k => f86 k l) (areB l) := by
  simp only [f86, f86.start, PT.run]
  exact areMembers_loop l hl 0 (Nat.zero_le _)
theorem l1Ints_ev (l : List Int) (x : Int) (hl : l.length ≤ 4194304) : Ev (fun k => f69 k l x) (hasI l x) := by
  simp only [f69, f69.start, PT.run]
  have := scan (blk := f69.blk) (L := fun i => .l2 l x (i : Int)) (n := l.length) (res := anyFrom (fun y => y == x) l) (fun i hi ih => ?_) 0 (Nat.zero_le _)
  · exact this
  · simp only [f69.blk, PT.run, dite_eq_ite]
    refine Ev.ite (fun h => ?_) (fun h => Ev.ret' (anyFrom_end _ (by omega)).symm)
    have hlt : i < l.length := by omega
    have ih := ih hlt
    rw [← wr1 (by omega)] at ih
    refine Ev.pos (by omega) ?_
    rw [at_nat l i hlt, anyFrom_step _ hlt]
    by_cases h1 : l[i] = x
    · exact Ev.pos h1 (Ev.ret' (by simp [h1]))
    · exact Ev.neg h1 (ih.eq (by simp [h1]))
def idxFrom (p : Nat → Bool) : Nat → Nat → Int
  | 0, _ => -1
  | d + 1, i => if p i = true then (i : Int) else idxFrom p d (i + 1)
theorem idx_end (p : Nat → Bool) {i n : Nat} (h : n ≤ i) : idxFrom p (n - i) i = -1 := by rw [Nat.sub_eq_zero_of_le h]; rfl
theorem idx_step (p : Nat → Bool) {i n : Nat} (h : i < n) : idxFrom p (n - i) i = if p i = true then (i : Int) else idxFrom p (n - (i + 1)) (i + 1) := by
  obtain ⟨d, hd⟩ : ∃ d, n - i = d + 1 := ⟨n - i - 1, by omega⟩
  rw [hd, show n - (i + 1) = d by omega]
  rfl
theorem idx_any {α : Type} (q : α → Bool) (l : List α) (p : Nat → Bool) (hp : ∀ i (h : i < l.length), p i = q l[i]) : ∀ d i, l.length - i = d → decide (0 ≤ idxFrom p (l.length - i) i) = anyFrom q l i := by
  intro d
  induction d with
  | zero => intro i h; rw [idx_end p (by omega), anyFrom_end q (by omega)]; rfl
  | succ d ih =>
    intro i h
    rw [idx_step p (by omega), anyFrom_step q (by omega), ← hp i (by omega)]
    cases hb : p i with
    | true => rw [if_pos rfl]; simp
    | false => rw [if_neg (by simp), ih (i + 1) (by omega)]; simp
theorem Contains_ev (l : List Int) (x : Int) (hl : l.length ≤ 4194304) : Ev (fun k => f89 k l x) (hasI l x) := by
  simp only [f89, f89.start, PT.run]
  refine Ev.bind (a := idxFrom (fun i => decide (x = at' l (i : Int))) (l.length - 0) 0) ?_ (Ev.ret' ?_)
  · simp only [f98, f98.start, PT.run]
    have := scan (blk := f98.blk) (L := fun i => .l2 l x (l.length : Int) (i : Int)) (n := l.length) (res := fun i => idxFrom (fun i => decide (x = at' l (i : Int))) (l.length - i) i) (fun i hi ih => ?_) 0 (Nat.zero_le _)
    · exact this
    · simp only [f98.blk, PT.run, dite_eq_ite]
      refine Ev.ite (fun h => ?_) (fun h => Ev.ret' (idx_end _ (by omega)).symm)
      have hlt : i < l.length := by omega
      have ih := ih hlt
      rw [← wr1 (by omega)] at ih
      refine Ev.pos (by omega) (Ev.pos (by omega) ?_)
      rw [idx_step _ hlt]
      by_cases h1 : x = at' l (i : Int)
      · exact Ev.pos h1 (Ev.ret' (by rw [if_pos (decide_eq_true h1)]))
      · exact Ev.neg h1 (ih.eq (by rw [if_neg (by simpa using h1)]))
  · exact idx_any (fun y => y == x) l _ (fun i h => by rw [at_nat l i h]; exact decide_eq_decide.2 eq_comm) _ 0 rfl
theorem ContainsFunc_ev (l a b : List Int) (hl : l.length ≤ 4194304) (ha : a.length ≤ 4194304) : Ev (fun k => f87 k l a b) (anyFrom (hasI a) l 0, a, b) := by
  simp only [f87, f87.start, PT.run]
  refine Ev.bind (a := (idxFrom (fun i => hasI a (at' l (i : Int))) (l.length - 0) 0, a, b)) ?_ (Ev.ret' ?_)
  · simp only [f97, f97.start, PT.run]
    have := scan (blk := f97.blk) (L := fun i => .l2 l (l.length : Int) (i : Int) a b) (n := l.length) (res := fun i => (idxFrom (fun i => hasI a (at' l (i : Int))) (l.length - i) i, a, b)) (fun i hi ih => ?_) 0 (Nat.zero_le _)
    · exact this
    · simp only [f97.blk, PT.run, dite_eq_ite]
      refine Ev.ite (fun h => ?_) (fun h => Ev.ret' (by rw [idx_end _ (by omega)]))
      have hlt : i < l.length := by omega
      have ih := ih hlt
      rw [← wr1 (by omega)] at ih
      refine Ev.pos (by omega) (Ev.pos (by omega) (Ev.bind (a := hasI a (at' l (i : Int))) ?_ ?_))
      · simp only [f88, f88.start, PT.run]
        exact Ev.bind (Contains_ev a _ ha) (Ev.ret _)
      · rw [idx_step _ hlt]
        by_cases h1 : hasI a (at' l (i : Int)) = true
        · exact Ev.pos h1 (Ev.ret' (by rw [if_pos h1]))
        · exact Ev.neg h1 (ih.eq (by rw [if_neg h1]))
  · rw [idx_any (hasI a) l _ (fun i h => by rw [at_nat l i h]) _ 0 rfl]
def confB (a b : List Int) : Bool := decide (0 < a.length) && (areB a && (areB b && !(anyFrom (hasI a) b 0)))
theorem isConf_ev (a b : List Int) (ha : a.length ≤ 4194304) (hb : b.length ≤ 4194304) : Ev (fun k => f77 k a b) (confB a b) := by
  simp only [f77, f77.start, PT.run, dite_eq_ite]
  unfold confB
  refine Ev.ite (fun h => ?_) (fun h => Ev.ret' (by rw [decide_eq_false (by omega)]; rfl))
  rw [decide_eq_true (by omega), Bool.true_and]
  refine Ev.bind (areMembers_ev a ha) (Ev.ite (fun h1 => ?_) (fun h1 => Ev.ret' (by simp [h1])))
  rw [h1, Bool.true_and]
  refine Ev.bind (areMembers_ev b hb) (Ev.ite (fun h2 => ?_) (fun h2 => Ev.ret' (by simp [h2])))
  rw [h2, Bool.true_and]
  exact Ev.bind (ContainsFunc_ev b a b hb ha) (Ev.ret _)
theorem ConfOk_ev (a b : List Int) (ha : a.length ≤ 4194304) (hb : b.length ≤ 4194304) : Ev (fun k => f42 k a b) (confB a b) := by
  simp only [f42, f42.start, PT.run, dite_eq_ite]
  unfold confB
  refine Ev.ite (fun h => Ev.ret' (by rw [decide_eq_false (by omega)]; rfl)) (fun h => ?_)
  rw [decide_eq_true (by omega), Bool.true_and]
  refine Ev.bind (l9Ids7_ev a ha) (Ev.ite (fun h1 => ?_) (fun h1 => Ev.ret' (by simp [h1])))
  rw [h1, Bool.true_and]
  refine Ev.bind (l9Ids7_ev b hb) (Ev.ite (fun h2 => ?_) (fun h2 => Ev.ret' (by simp [h2])))
  rw [h2, Bool.true_and]
  have := scan (blk := f42.blk) (L := fun i => .l4 (i : Int) a b) (n := b.length) (res := fun i => !(anyFrom (hasI a) b i)) (fun i hi ih => ?_) 0 (Nat.zero_le _)
  · exact this
  · simp only [f42.blk, PT.run, dite_eq_ite]
    refine Ev.ite (fun h => ?_) (fun h => Ev.ret' (by rw [anyFrom_end _ (by omega)]; rfl))
    have hlt : i < b.length := by omega
    have ih := ih hlt
    rw [← wr1 (by omega)] at ih
    rw [anyFrom_step _ hlt, at_nat b i hlt]
    refine Ev.pos (by omega) (Ev.bind (l1Ints_ev a _ ha) ?_)
    by_cases h1 : hasI a b[i] = true
    · exact Ev.pos h1 (Ev.ret' (by simp [h1]))
    · exact Ev.neg h1 (ih.eq (by simp [h1]))
end Go.Proofs.YtbfgmnjhikaagaaGreatDoor.P
namespace Go.Proofs.YtbfgmnjhikaagaaGreatDoor.P
open Go Go.Proofs.YtbfgmnjhikaagaaGreatDoor.PM Go.Proofs
open Go.Proofs.YtbfgmnjhikaagaaGreatDoor.PN (PT)
def dec1 (n : Int) : ByteArray := (f96 3 n).getD default
set_option maxRecDepth 100000 in
theorem dec_ev (n : Int) (h1 : 1 ≤ n) (h2 : n ≤ 50) : (∀ m, f96 (m + 3) n = some (dec1 n)) ∧ (∀ m, f103 m n 10 = some (dec1 n)) ∧ (dec1 n).size ≤ 2 := by
  have h : n = 1 ∨ n = 2 ∨ n = 3 ∨ n = 4 ∨ n = 5 ∨ n = 6 ∨ n = 7 ∨ n = 8 ∨ n = 9 ∨ n = 10 ∨ n = 11 ∨ n = 12 ∨ n = 13 ∨ n = 14 ∨ n = 15 ∨ n = 16 ∨ n = 17 ∨ n = 18 ∨ n = 19 ∨ n = 20 ∨ n = 21 ∨ n = 22 ∨ n = 23 ∨ n = 24 ∨ n = 25 ∨ n = 26 ∨ n = 27 ∨ n = 28 ∨ n = 29 ∨ n = 30 ∨ n = 31 ∨ n = 32 ∨ n = 33 ∨ n = 34 ∨ n = 35 ∨ n = 36 ∨ n = 37 ∨ n = 38 ∨ n = 39 ∨ n = 40 ∨ n = 41 ∨ n = 42 ∨ n = 43 ∨ n = 44 ∨ n = 45 ∨ n = 46 ∨ n = 47 ∨ n = 48 ∨ n = 49 ∨ n = 50 := by omega
  rcases h with rfl | rfl | rfl | rfl | rfl | rfl | rfl | rfl | rfl | rfl | rfl | rfl | rfl | rfl | rfl | rfl | rfl | rfl | rfl | rfl | rfl | rfl | rfl | rfl | rfl | rfl | rfl | rfl | rfl | rfl | rfl | rfl | rfl | rfl | rfl | rfl | rfl | rfl | rfl | rfl | rfl | rfl | rfl | rfl | rfl | rfl | rfl | rfl | rfl | rfl <;> exact ⟨fun m => by kernel_rfl, fun m => by kernel_rfl, of_decide_eq_true (by kernel_rfl)⟩
theorem l1Dec_ev (n : Int) (h1 : 1 ≤ n) (h2 : n ≤ 50) : Ev (fun k => f96 k n) (dec1 n) := Ev.plus 3 (dec_ev n h1 h2).1
theorem Format_ev (n : Int) (h1 : 1 ≤ n) (h2 : n ≤ 50) : Ev (fun k => f103 k n 10) (dec1 n) := Ev.plus 0 (dec_ev n h1 h2).2.1
def txt (s : ByteArray) (l : List Int) : ByteArray := l.foldl (fun s n => s ++ (⟨#[32]⟩ : ByteArray) ++ dec1 n) s
def oks (l : List Int) : Prop := ∀ i : Nat, i < l.length → 1 ≤ at' l (i : Int) ∧ at' l (i : Int) ≤ 50
theorem sp_size : (⟨#[32]⟩ : ByteArray).size = 1 := rfl
theorem txt_step (s : ByteArray) (l : List Int) (i : Nat) (h : i < l.length) : txt s (l.drop i) = txt (s ++ (⟨#[32]⟩ : ByteArray) ++ dec1 (at' l (i : Int))) (l.drop (i + 1)) := by
  rw [at_nat l i h, List.drop_eq_getElem_cons h]; rfl
theorem txt_end (s : ByteArray) (l : List Int) (i : Nat) (h : l.length ≤ i) : txt s (l.drop i) = s := by rw [List.drop_eq_nil_of_le h]; rfl
theorem bsz (a b : ByteArray) : (a ++ b).size = a.size + b.size := ByteArray.size_append
def tail1 (s : ByteArray) (b : List Int) : ByteArray := if 0 < b.length then txt (s ++ ⟨#[32, 108]⟩) b else s
theorem spec_l11 (a b : List Int) (hb : b.length ≤ 7) (ok : oks b) (d : Nat) : ∀ (i : Nat) (s : ByteArray), b.length - i = d → i ≤ b.length → s.size + 3 * d ≤ 1000 → Ev (fun k => f84.D k (.l11 s (i : Int) a b)) (txt s (b.drop i)) := by
  induction d with
  | zero =>
    intro i s hd hi hs
    refine Ev.round ?_
    simp only [f84.blk, PT.run, dite_eq_ite]
    exact Ev.neg (by omega) (Ev.ret' (txt_end s b i (by omega)).symm)
  | succ d ih =>
    intro i s hd hi hs
    obtain ⟨o1, o2⟩ := ok i (by omega)
    have hz := (dec_ev _ o1 o2).2.2
    have hn := ih (i + 1) (s ++ (⟨#[32]⟩ : ByteArray) ++ dec1 (at' b (i : Int))) (by omega) (by omega) (by rw [bsz, bsz, sp_size]; omega)
    rw [← wr1 (by omega)] at hn
    rw [txt_step s b i (by omega)]
    refine Ev.round ?_
    simp only [f84.blk, PT.run, dite_eq_ite]
    refine Ev.pos (by omega) (Ev.pos (by rw [sp_size]; omega) (Ev.pos (by omega) (Ev.bind (l1Dec_ev _ o1 o2) (Ev.pos ?_ hn))))
    rw [bsz, sp_size]; omega
theorem spec_l5 (a b : List Int) (ha : a.length ≤ 7) (hb : b.length ≤ 7) (oka : oks a) (okb : oks b) (d : Nat) : ∀ (i : Nat) (s : ByteArray), a.length - i = d → i ≤ a.length → s.size + 3 * d ≤ 900 → Ev (fun k => f84.D k (.l5 s (i : Int) a b)) (tail1 (txt s (a.drop i)) b) := by
  induction d with
  | zero =>
    intro i s hd hi hs
    rw [txt_end s a i (by omega)]
    refine Ev.round ?_
    simp only [f84.blk, PT.run, dite_eq_ite]
    refine Ev.neg (by omega) (Ev.ite (fun h => Ev.pos (by rw [show (⟨#[32, 108]⟩ : ByteArray).size = 2 from rfl]; omega) ?_) (fun h => ?_))
    · have := spec_l11 a b hb okb _ 0 (s ++ ⟨#[32, 108]⟩) rfl (Nat.zero_le _) (by rw [bsz, show (⟨#[32, 108]⟩ : ByteArray).size = 2 from rfl]; omega)
      rw [tail1, if_pos (by omega)]
      exact this
    · have := spec_l11 a b hb okb _ 0 s rfl (Nat.zero_le _) (by omega)
      rw [tail1, if_neg (by omega)]
      rw [txt_end s b 0 (by omega)] at this
      exact this
  | succ d ih =>
    intro i s hd hi hs
    obtain ⟨o1, o2⟩ := oka i (by omega)
    have hz := (dec_ev _ o1 o2).2.2
    have hn := ih (i + 1) (s ++ (⟨#[32]⟩ : ByteArray) ++ dec1 (at' a (i : Int))) (by omega) (by omega) (by rw [bsz, bsz, sp_size]; omega)
    rw [← wr1 (by omega)] at hn
    rw [txt_step s a i (by omega)]
    refine Ev.round ?_
    simp only [f84.blk, PT.run, dite_eq_ite]
    refine Ev.pos (by omega) (Ev.pos (by rw [sp_size]; omega) (Ev.pos (by omega) (Ev.bind (l1Dec_ev _ o1 o2) (Ev.pos ?_ hn))))
    rw [bsz, sp_size]; omega
theorem impl_l10 (b : List Int) (hb : b.length ≤ 7) (ok : oks b) (d : Nat) : ∀ (i : Nat) (s : ByteArray), b.length - i = d → i ≤ b.length → s.size + 3 * d ≤ 1000 → Ev (fun k => f94.D k (.l10 s b (b.length : Int) (i : Int))) (txt s (b.drop i)) := by
  induction d with
  | zero =>
    intro i s hd hi hs
    refine Ev.round ?_
    simp only [f94.blk, PT.run, dite_eq_ite]
    exact Ev.neg (by omega) (Ev.ret' (txt_end s b i (by omega)).symm)
  | succ d ih =>
    intro i s hd hi hs
    obtain ⟨o1, o2⟩ := ok i (by omega)
    have hz := (dec_ev _ o1 o2).2.2
    have hn := ih (i + 1) (s ++ (⟨#[32]⟩ : ByteArray) ++ dec1 (at' b (i : Int))) (by omega) (by omega) (by rw [bsz, bsz, sp_size]; omega)
    rw [← wr1 (by omega), ByteArray.append_assoc] at hn
    rw [txt_step s b i (by omega), ByteArray.append_assoc]
    refine Ev.round ?_
    simp only [f94.blk, PT.run, dite_eq_ite]
    refine Ev.pos (by omega) (Ev.pos (by omega) (Ev.pos (by omega) (Ev.bind (Format_ev _ o1 o2) (Ev.pos ?_ (Ev.pos ?_ hn)))))
    · rw [sp_size]; omega
    · rw [bsz, sp_size]; omega
theorem impl_l3 (a b : List Int) (ha : a.length ≤ 7) (hb : b.length ≤ 7) (oka : oks a) (okb : oks b) (d : Nat) : ∀ (i : Nat) (s : ByteArray), a.length - i = d → i ≤ a.length → s.size + 3 * d ≤ 900 → Ev (fun k => f94.D k (.l3 s a (a.length : Int) (i : Int) a b)) (tail1 (txt s (a.drop i)) b) := by
  induction d with
  | zero =>
    intro i s hd hi hs
    rw [txt_end s a i (by omega)]
    refine Ev.round ?_
    simp only [f94.blk, PT.run, dite_eq_ite]
    refine Ev.neg (by omega) (Ev.ite (fun h => Ev.pos (by rw [show (⟨#[32, 108]⟩ : ByteArray).size = 2 from rfl]; omega) ?_) (fun h => ?_))
    · have := impl_l10 b hb okb _ 0 (s ++ ⟨#[32, 108]⟩) rfl (Nat.zero_le _) (by rw [bsz, show (⟨#[32, 108]⟩ : ByteArray).size = 2 from rfl]; omega)
      rw [tail1, if_pos (by omega)]
      exact this
    · have := impl_l10 b hb okb _ 0 s rfl (Nat.zero_le _) (by omega)
      rw [tail1, if_neg (by omega)]
      rw [txt_end s b 0 (by omega)] at this
      exact this
  | succ d ih =>
    intro i s hd hi hs
    obtain ⟨o1, o2⟩ := oka i (by omega)
    have hz := (dec_ev _ o1 o2).2.2
    have hn := ih (i + 1) (s ++ (⟨#[32]⟩ : ByteArray) ++ dec1 (at' a (i : Int))) (by omega) (by omega) (by rw [bsz, bsz, sp_size]; omega)
    rw [← wr1 (by omega), ByteArray.append_assoc] at hn
    rw [txt_step s a i (by omega), ByteArray.append_assoc]
    refine Ev.round ?_
    simp only [f94.blk, PT.run, dite_eq_ite]
    refine Ev.pos (by omega) (Ev.pos (by omega) (Ev.pos (by omega) (Ev.bind (Format_ev _ o1 o2) (Ev.pos ?_ (Ev.pos ?_ hn)))))
    · rw [sp_size]; omega
    · rw [bsz, sp_size]; omega
theorem are_oks {l : List Int} (h : areB l = true) : oks l ∧ l.length ≤ 7 := by
  unfold areB at h
  rw [Bool.and_eq_true] at h
  refine ⟨fun i hi => ?_, of_decide_eq_true h.2⟩
  have := (allFrom_iff _ _ _).1 h.1 i (Nat.zero_le _) hi
  unfold idAt inB at this
  simp only [Bool.and_eq_true, decide_eq_true_eq] at this
  exact this.1
theorem confB_oks {a b : List Int} (h : confB a b = true) : (oks a ∧ a.length ≤ 7) ∧ (oks b ∧ b.length ≤ 7) := by
  unfold confB at h
  simp only [Bool.and_eq_true] at h
  exact ⟨are_oks h.2.1, are_oks h.2.2.1⟩
def ctext (a b : List Int) : ByteArray := tail1 (txt ⟨#[118]⟩ a) b
theorem ConfText_ev (a b : List Int) (ha : a.length ≤ 4194304) (hb : b.length ≤ 4194304) : Ev (fun k => f84 k a b) (if confB a b = true then ctext a b else ⟨#[]⟩) := by
  simp only [f84, f84.start, PT.run, dite_eq_ite]
  refine Ev.bind (ConfOk_ev a b ha hb) ?_
  by_cases h : confB a b = true
  · obtain ⟨⟨h1, h2⟩, h3, h4⟩ := confB_oks h
    rw [if_pos h]
    exact Ev.pos h (spec_l5 a b h2 h4 h1 h3 _ 0 ⟨#[118]⟩ rfl (Nat.zero_le _) (by rw [show (⟨#[118]⟩ : ByteArray).size = 1 from rfl]; omega))
  · rw [if_neg h]
    exact Ev.neg h (Ev.ret _)
theorem confText_ev (a b : List Int) (h : confB a b = true) : Ev (fun k => f94 k a b) (ctext a b) := by
  simp only [f94, f94.start, PT.run, dite_eq_ite]
  obtain ⟨⟨h1, h2⟩, h3, h4⟩ := confB_oks h
  exact impl_l3 a b h2 h4 h1 h3 _ 0 ⟨#[118]⟩ rfl (Nat.zero_le _) (by rw [show (⟨#[118]⟩ : ByteArray).size = 1 from rfl]; omega)
end Go.Proofs.YtbfgmnjhikaagaaGreatDoor.P
namespace Go.Proofs.YtbfgmnjhikaagaaGreatDoor.P
open Go Go.Proofs.YtbfgmnjhikaagaaGreatDoor.PM Go.Proofs
open Go.Proofs.YtbfgmnjhikaagaaGreatDoor.PN (PT)
abbrev wV : ByteArray := ⟨#[118]⟩
abbrev wL : ByteArray := ⟨#[108]⟩
def parseI (ws : List ByteArray) : Nat → Nat → Bool → List Int → List Int → Option (List Int × List Int)
  | 0, _, _, v, l => some (v, l)
  | d + 1, i, g, v, l =>
    let w := at' ws (i : Int)
    if i = 0 ∧ strEq w wV = true then parseI ws d (i + 1) g v l
    else if strEq w wL = true then parseI ws d (i + 1) true v l
    else if (pintV w).2 = true then none
    else if g = true then parseI ws d (i + 1) g v (l ++ [(pintV w).1])
    else parseI ws d (i + 1) g (v ++ [(pintV w).1]) l
def finC (t : ByteArray) : Option (List Int × List Int) → Bool × List Int × List Int
  | none => (false, [], [])
  | some (v, l) => if confB v l = true ∧ strEq (ctext v l) t = true then (true, v, l) else (false, [], [])
def labI (ws : List ByteArray) (t : ByteArray) (i : Int) (g : Bool) (v l : List Int) : f81.L := match g, v, l with
  | false, [], _ => .l4 ws t (ws.length : Int) i
  | false, a :: v, _ => .l4v3 ws (a :: v) t (ws.length : Int) i
  | true, [], [] => .l4v1 ws t (ws.length : Int) i
  | true, [], b :: l => .l4v2 ws (b :: l) t (ws.length : Int) i
  | true, a :: v, [] => .l4v4 ws (a :: v) t (ws.length : Int) i
  | true, a :: v, b :: l => .l4v5 ws (a :: v) (b :: l) t (ws.length : Int) i
theorem pint_ev (w : ByteArray) (h : w.size ≤ 4194304) : Ev (fun k => f93 k w 10 64) (pintV w) := by
  unfold f93
  exact Ev.pos ⟨rfl, rfl, by omega⟩ (Ev.ret _)
theorem fin_ev (t : ByteArray) (v l : List Int) (hv : v.length ≤ 4194304) (hl : l.length ≤ 4194304) :
    Ev (fun k => (f77 k v l).bind fun t1 => if t1 = true then (f94 k v l).bind fun t2 => if strEq t2 t = true then some (true, v, l) else some (false, [], []) else some (false, [], [])) (finC t (some (v, l))) := by
  refine Ev.bind (isConf_ev v l hv hl) ?_
  show Ev _ (if confB v l = true ∧ strEq (ctext v l) t = true then (true, v, l) else (false, [], []))
  by_cases h : confB v l = true
  · refine Ev.pos h (Ev.bind (confText_ev v l h) ?_)
    by_cases h2 : strEq (ctext v l) t = true
    · exact Ev.pos h2 (Ev.ret' (by rw [if_pos ⟨h, h2⟩]))
    · exact Ev.neg h2 (Ev.ret' (by rw [if_neg fun x => h2 x.2]))
  · exact Ev.neg h (Ev.ret' (by rw [if_neg fun x => h x.1]))
theorem parseI_v {ws : List ByteArray} {d i : Nat} {g : Bool} {v l : List Int} (h0 : i = 0) (h : strEq (at' ws (i : Int)) wV = true) : parseI ws d (i + 1) g v l = parseI ws (d + 1) i g v l := by rw [parseI.eq_2, if_pos ⟨h0, h⟩]
theorem parseI_l {ws : List ByteArray} {d i : Nat} {g : Bool} {v l : List Int} (h0 : ¬ (i = 0 ∧ strEq (at' ws (i : Int)) wV = true)) (h : strEq (at' ws (i : Int)) wL = true) : parseI ws d (i + 1) true v l = parseI ws (d + 1) i g v l := by rw [parseI.eq_2, if_neg h0, if_pos h]
theorem parseI_e {ws : List ByteArray} {d i : Nat} {g : Bool} {v l : List Int} (h0 : ¬ (i = 0 ∧ strEq (at' ws (i : Int)) wV = true)) (h : ¬ strEq (at' ws (i : Int)) wL = true) (he : (pintV (at' ws (i : Int))).2 = true) : none = parseI ws (d + 1) i g v l := by rw [parseI.eq_2, if_neg h0, if_neg h, if_pos he]
theorem parseI_a {ws : List ByteArray} {d i : Nat} {v l : List Int} (h0 : ¬ (i = 0 ∧ strEq (at' ws (i : Int)) wV = true)) (h : ¬ strEq (at' ws (i : Int)) wL = true) (he : ¬ (pintV (at' ws (i : Int))).2 = true) : parseI ws d (i + 1) true v (l ++ [(pintV (at' ws (i : Int))).1]) = parseI ws (d + 1) i true v l := by rw [parseI.eq_2, if_neg h0, if_neg h, if_neg he, if_pos rfl]
theorem parseI_b {ws : List ByteArray} {d i : Nat} {v l : List Int} (h0 : ¬ (i = 0 ∧ strEq (at' ws (i : Int)) wV = true)) (h : ¬ strEq (at' ws (i : Int)) wL = true) (he : ¬ (pintV (at' ws (i : Int))).2 = true) : parseI ws d (i + 1) false (v ++ [(pintV (at' ws (i : Int))).1]) l = parseI ws (d + 1) i false v l := by rw [parseI.eq_2, if_neg h0, if_neg h, if_neg he, if_neg (by simp)]
set_option maxHeartbeats 4000000 in
theorem readI_loop (ws : List ByteArray) (t : ByteArray) (hn : ws.length ≤ 4194304) (hw : ∀ i : Nat, i < ws.length → (at' ws (i : Int)).size ≤ 4194304) (d : Nat) : ∀ (i : Nat) (g : Bool) (v l : List Int), ws.length - i = d → i ≤ ws.length → (g = false → l = []) → v.length + l.length ≤ i →
    Ev (fun k => f81.D k (labI ws t (i : Int) g v l)) (finC t (parseI ws d i g v l)) := by
  induction d with
  | zero =>
    intro i g v l hd hi hg hs
    have hE := fin_ev t v l (by omega) (by omega)
    unfold parseI
    refine Ev.round ?_
    cases g with
    | false =>
      obtain rfl := hg rfl
      cases v with
      | nil => simp only [labI, f81.blk, PT.run, dite_eq_ite]; exact Ev.neg (by omega) hE
      | cons a v => simp only [labI, f81.blk, PT.run, dite_eq_ite]; exact Ev.neg (by omega) hE
    | true =>
      cases v with
      | nil =>
        cases l with
        | nil => simp only [labI, f81.blk, PT.run, dite_eq_ite]; exact Ev.neg (by omega) hE
        | cons b l => simp only [labI, f81.blk, PT.run, dite_eq_ite]; exact Ev.neg (by omega) hE
      | cons a v =>
        cases l with
        | nil => simp only [labI, f81.blk, PT.run, dite_eq_ite]; exact Ev.neg (by omega) hE
        | cons b l => simp only [labI, f81.blk, PT.run, dite_eq_ite]; exact Ev.neg (by omega) hE
  | succ d ih =>
    intro i g v l hd hi hg hs
    have ih1 := ih (i + 1) g v l (by omega) (by omega) hg (by omega)
    have ih2 := ih (i + 1) true v l (by omega) (by omega) (by simp) (by omega)
    have ih3 := fun x : Int => ih (i + 1) true v (l ++ [x]) (by omega) (by omega) (by simp) (by rw [List.length_append, List.length_singleton]; omega)
    have ih4 := fun (x : Int) (e : l = []) => ih (i + 1) false (v ++ [x]) l (by omega) (by omega) (fun _ => e) (by rw [List.length_append, List.length_singleton]; omega)
    have hz := hw i (by omega)
    rw [← wr1 (by omega)] at ih1 ih2 ih3 ih4
    generalize hr : parseI ws (d + 1) i g v l = r
    have e1 : ∀ (h0 : i = 0) (h : strEq (at' ws (i : Int)) wV = true), parseI ws d (i + 1) g v l = r := fun h0 h => (parseI_v h0 h).trans hr
    have e2 : ∀ (h0 : ¬ (i = 0 ∧ strEq (at' ws (i : Int)) wV = true)) (h : strEq (at' ws (i : Int)) wL = true), parseI ws d (i + 1) true v l = r := fun h0 h => (parseI_l h0 h).trans hr
    have e3 : ∀ (h0 : ¬ (i = 0 ∧ strEq (at' ws (i : Int)) wV = true)) (h : ¬ strEq (at' ws (i : Int)) wL = true) (he : (pintV (at' ws (i : Int))).2 = true), none = r := fun h0 h he => (parseI_e h0 h he).trans hr
    have e4 : ∀ (hg : g = true) (h0 : ¬ (i = 0 ∧ strEq (at' ws (i : Int)) wV = true)) (h : ¬ strEq (at' ws (i : Int)) wL = true) (he : ¬ (pintV (at' ws (i : Int))).2 = true), parseI ws d (i + 1) true v (l ++ [(pintV (at' ws (i : Int))).1]) = r := fun hg h0 h he => by subst hg; exact (parseI_a h0 h he).trans hr
    have e5 : ∀ (hg : g = false) (h0 : ¬ (i = 0 ∧ strEq (at' ws (i : Int)) wV = true)) (h : ¬ strEq (at' ws (i : Int)) wL = true) (he : ¬ (pintV (at' ws (i : Int))).2 = true), parseI ws d (i + 1) false (v ++ [(pintV (at' ws (i : Int))).1]) l = r := fun hg h0 h he => by subst hg; exact (parseI_b h0 h he).trans hr
    clear hr ih
    refine Ev.round ?_
    cases g with
    | false =>
      obtain rfl := hg rfl
      cases v with
      | nil =>
        simp only [labI, f81.blk, PT.run, dite_eq_ite, List.cons_append]
        simp only [labI, List.nil_append, List.cons_append] at ih1 ih2 ih3 ih4 e1 e2 e3 e4 e5
        refine Ev.pos (by omega) (Ev.pos (by omega) (Ev.pos (by omega) (Ev.ite (fun h0 => Ev.ite (fun hv => ih1.eq (by rw [e1 (by omega) hv])) fun hv => Ev.ite (fun hl => ih2.eq (by rw [e2 (fun x => hv x.2) hl])) fun hl => Ev.bind (pint_ev _ hz) (Ev.ite (fun he => Ev.ret' (by rw [← e3 (fun x => hv x.2) hl he]; rfl)) fun he => ?_)) fun h0 => Ev.ite (fun hl => ih2.eq (by rw [e2 (fun x => h0 (by omega)) hl])) fun hl => Ev.bind (pint_ev _ hz) (Ev.ite (fun he => Ev.ret' (by rw [← e3 (fun x => h0 (by omega)) hl he]; rfl)) fun he => ?_))))
        · exact ((ih4 _ trivial).eq (by rw [e5 trivial (fun x => hv x.2) hl he]))
        · exact ((ih4 _ trivial).eq (by rw [e5 trivial (fun x => h0 (by omega)) hl he]))
      | cons a v =>
        simp only [labI, f81.blk, PT.run, dite_eq_ite, List.cons_append]
        simp only [labI, List.nil_append, List.cons_append] at ih1 ih2 ih3 ih4 e1 e2 e3 e4 e5
        refine Ev.pos (by omega) (Ev.pos (by omega) (Ev.pos (by omega) (Ev.ite (fun h0 => Ev.ite (fun hv => ih1.eq (by rw [e1 (by omega) hv])) fun hv => Ev.ite (fun hl => ih2.eq (by rw [e2 (fun x => hv x.2) hl])) fun hl => Ev.bind (pint_ev _ hz) (Ev.ite (fun he => Ev.ret' (by rw [← e3 (fun x => hv x.2) hl he]; rfl)) fun he => ?_)) fun h0 => Ev.ite (fun hl => ih2.eq (by rw [e2 (fun x => h0 (by omega)) hl])) fun hl => Ev.bind (pint_ev _ hz) (Ev.ite (fun he => Ev.ret' (by rw [← e3 (fun x => h0 (by omega)) hl he]; rfl)) fun he => ?_))))
        · exact Ev.pos (by omega) ((ih4 _ trivial).eq (by rw [e5 trivial (fun x => hv x.2) hl he]))
        · exact Ev.pos (by omega) ((ih4 _ trivial).eq (by rw [e5 trivial (fun x => h0 (by omega)) hl he]))
    | true =>
      cases v with
      | nil =>
        cases l with
        | nil =>
          simp only [labI, f81.blk, PT.run, dite_eq_ite, List.cons_append]
          simp only [labI, List.nil_append, List.cons_append] at ih1 ih2 ih3 ih4 e1 e2 e3 e4 e5
          refine Ev.pos (by omega) (Ev.pos (by omega) (Ev.pos (by omega) (Ev.ite (fun h0 => Ev.ite (fun hv => ih1.eq (by rw [e1 (by omega) hv])) fun hv => Ev.ite (fun hl => ih2.eq (by rw [e2 (fun x => hv x.2) hl])) fun hl => Ev.bind (pint_ev _ hz) (Ev.ite (fun he => Ev.ret' (by rw [← e3 (fun x => hv x.2) hl he]; rfl)) fun he => ?_)) fun h0 => Ev.ite (fun hl => ih2.eq (by rw [e2 (fun x => h0 (by omega)) hl])) fun hl => Ev.bind (pint_ev _ hz) (Ev.ite (fun he => Ev.ret' (by rw [← e3 (fun x => h0 (by omega)) hl he]; rfl)) fun he => ?_))))
          · exact ((ih3 _).eq (by rw [e4 trivial (fun x => hv x.2) hl he]))
          · exact ((ih3 _).eq (by rw [e4 trivial (fun x => h0 (by omega)) hl he]))
        | cons b l =>
          simp only [labI, f81.blk, PT.run, dite_eq_ite, List.cons_append]
          simp only [labI, List.nil_append, List.cons_append] at ih1 ih2 ih3 ih4 e1 e2 e3 e4 e5
          refine Ev.pos (by omega) (Ev.pos (by omega) (Ev.pos (by omega) (Ev.ite (fun h0 => Ev.ite (fun hv => ih1.eq (by rw [e1 (by omega) hv])) fun hv => Ev.ite (fun hl => ih2.eq (by rw [e2 (fun x => hv x.2) hl])) fun hl => Ev.bind (pint_ev _ hz) (Ev.ite (fun he => Ev.ret' (by rw [← e3 (fun x => hv x.2) hl he]; rfl)) fun he => ?_)) fun h0 => Ev.ite (fun hl => ih2.eq (by rw [e2 (fun x => h0 (by omega)) hl])) fun hl => Ev.bind (pint_ev _ hz) (Ev.ite (fun he => Ev.ret' (by rw [← e3 (fun x => h0 (by omega)) hl he]; rfl)) fun he => ?_))))
          · exact Ev.pos (by omega) ((ih3 _).eq (by rw [e4 trivial (fun x => hv x.2) hl he]))
          · exact Ev.pos (by omega) ((ih3 _).eq (by rw [e4 trivial (fun x => h0 (by omega)) hl he]))
      | cons a v =>
        cases l with
        | nil =>
          simp only [labI, f81.blk, PT.run, dite_eq_ite, List.cons_append]
          simp only [labI, List.nil_append, List.cons_append] at ih1 ih2 ih3 ih4 e1 e2 e3 e4 e5
          refine Ev.pos (by omega) (Ev.pos (by omega) (Ev.pos (by omega) (Ev.ite (fun h0 => Ev.ite (fun hv => ih1.eq (by rw [e1 (by omega) hv])) fun hv => Ev.ite (fun hl => ih2.eq (by rw [e2 (fun x => hv x.2) hl])) fun hl => Ev.bind (pint_ev _ hz) (Ev.ite (fun he => Ev.ret' (by rw [← e3 (fun x => hv x.2) hl he]; rfl)) fun he => ?_)) fun h0 => Ev.ite (fun hl => ih2.eq (by rw [e2 (fun x => h0 (by omega)) hl])) fun hl => Ev.bind (pint_ev _ hz) (Ev.ite (fun he => Ev.ret' (by rw [← e3 (fun x => h0 (by omega)) hl he]; rfl)) fun he => ?_))))
          · exact ((ih3 _).eq (by rw [e4 trivial (fun x => hv x.2) hl he]))
          · exact ((ih3 _).eq (by rw [e4 trivial (fun x => h0 (by omega)) hl he]))
        | cons b l =>
          simp only [labI, f81.blk, PT.run, dite_eq_ite, List.cons_append]
          simp only [labI, List.nil_append, List.cons_append] at ih1 ih2 ih3 ih4 e1 e2 e3 e4 e5
          refine Ev.pos (by omega) (Ev.pos (by omega) (Ev.pos (by omega) (Ev.ite (fun h0 => Ev.ite (fun hv => ih1.eq (by rw [e1 (by omega) hv])) fun hv => Ev.ite (fun hl => ih2.eq (by rw [e2 (fun x => hv x.2) hl])) fun hl => Ev.bind (pint_ev _ hz) (Ev.ite (fun he => Ev.ret' (by rw [← e3 (fun x => hv x.2) hl he]; rfl)) fun he => ?_)) fun h0 => Ev.ite (fun hl => ih2.eq (by rw [e2 (fun x => h0 (by omega)) hl])) fun hl => Ev.bind (pint_ev _ hz) (Ev.ite (fun he => Ev.ret' (by rw [← e3 (fun x => h0 (by omega)) hl he]; rfl)) fun he => ?_))))
          · exact Ev.pos (by omega) ((ih3 _).eq (by rw [e4 trivial (fun x => hv x.2) hl he]))
          · exact Ev.pos (by omega) ((ih3 _).eq (by rw [e4 trivial (fun x => h0 (by omega)) hl he]))
theorem splitB_size (sep : ByteArray) : ∀ (k : Nat) (s w : ByteArray), w ∈ Lib.splitB sep 0 k s → w.size ≤ s.size
  | 0, s, w, h => by simp [Lib.splitB] at h; rw [h]; exact Nat.le_refl _
  | k + 1, s, w, h => by
    unfold Lib.splitB at h
    split at h
    · simp at h; rw [h]; exact Nat.le_refl _
    · rcases List.mem_cons.1 h with h | h
      · rw [h, ByteArray.size_extract]; omega
      · have := splitB_size sep k _ w h
        rw [ByteArray.size_extract] at this
        omega
theorem readConf_ev (t : ByteArray) (ht : t.size ≤ 1048576) : Ev (fun k => f81 k t) (finC t (parseI (splV t ⟨#[32]⟩) (splV t ⟨#[32]⟩).length 0 false [] [])) := by
  simp only [f81, f81.start, PT.run]
  have hc : Lib.countB t ⟨#[32]⟩ ≤ t.size := Lib.countB_le ⟨#[32]⟩ (Nat.le_refl 1) t.size t (Nat.le_refl _)
  have hlen : (splV t ⟨#[32]⟩).length ≤ 4194304 := by unfold splV; rw [Lib.splitB_all ⟨#[32]⟩ (Nat.le_refl 1) 0 _ t rfl]; omega
  refine Ev.bind (a := splV t ⟨#[32]⟩) ?_ ?_
  · unfold f92
    exact Ev.pos ⟨rfl, by omega⟩ (Ev.ret _)
  · refine readI_loop (splV t ⟨#[32]⟩) t hlen (fun i hi => ?_) _ 0 false [] [] rfl (Nat.zero_le _) (fun _ => rfl) (Nat.zero_le _)
    rw [at_nat _ i hi]
    have := splitB_size _ _ _ _ (List.getElem_mem hi)
    omega
end Go.Proofs.YtbfgmnjhikaagaaGreatDoor.P
namespace Go.Proofs.YtbfgmnjhikaagaaGreatDoor.P
open Go Go.Proofs.YtbfgmnjhikaagaaGreatDoor.PM Go.Proofs
open Go.Proofs.YtbfgmnjhikaagaaGreatDoor.PN (PT)
def digB (c : Int) : Bool := inB 48 57 c
theorem l1Digit_ev (c : Int) : Ev (fun k => f95 k c) (digB c) := by
  simp only [f95, f95.start, PT.run, dite_eq_ite, digB, inB]
  exact Ev.ite (fun h => Ev.ret' (by rw [decide_eq_true h]; rfl)) (fun h => Ev.ret' (by rw [decide_eq_false h]; rfl))
def numF (w : ByteArray) : Nat → Nat → Int → Int
  | 0, _, n => if 50 < n then -1 else n
  | d + 1, i, n => if digB (byteAt w (i : Int)) = true then numF w d (i + 1) (n * 10 + (byteAt w (i : Int) - 48)) else -1
def numV (w : ByteArray) : Int := if w.size < 1 then -1 else if 15 < w.size then -1 else if 1 < w.size ∧ byteAt w 0 = 48 then -1 else numF w w.size 0 0
theorem num_loop (w : ByteArray) (hw : w.size ≤ 15) (d : Nat) : ∀ (i : Nat) (n : Int), w.size - i = d → i ≤ w.size → 0 ≤ n → n < ((10 ^ i : Nat) : Int) → Ev (fun k => f83.D k (.l5 w 50 n (i : Int))) (numF w d i n) := by
  induction d with
  | zero =>
    intro i n hd hi h0 h1
    refine Ev.round ?_
    simp only [f83.blk, PT.run, dite_eq_ite]
    refine Ev.neg (by omega) ?_
    unfold numF
    exact Ev.ite (fun h => Ev.ret' (by rw [if_pos h])) (fun h => Ev.ret' (by rw [if_neg h]))
  | succ d ih =>
    intro i n hd hi h0 h1
    refine Ev.round ?_
    simp only [f83.blk, PT.run, dite_eq_ite]
    refine Ev.pos (by omega) (Ev.pos (by omega) (Ev.bind (l1Digit_ev _) ?_))
    unfold numF
    refine Ev.ite (fun h => ?_) (fun h => Ev.ret' (by rw [if_neg h]))
    rw [if_pos h]
    have hb := h
    unfold digB inB at hb
    simp only [Bool.and_eq_true, decide_eq_true_eq] at hb
    have hp : (10 : Nat) ^ (i + 1) = 10 ^ i * 10 := Nat.pow_succ ..
    have hq : (10 : Nat) ^ i ≤ 10 ^ 14 := Nat.pow_le_pow_right (by decide) (by omega)
    have hn := ih (i + 1) (n * 10 + (byteAt w (i : Int) - 48)) (by omega) (by omega) (by omega) (by rw [hp]; generalize (10 : Nat) ^ i = M at *; omega)
    rw [← wr1 (by omega)] at hn
    have h14 : (10 : Nat) ^ 14 = 100000000000000 := by decide
    have e1 : IntKind.u8.wrap (byteAt w (i : Int) - 48) = byteAt w (i : Int) - 48 := by rw [IntKind.wrap_u8]; omega
    have e2 : IntKind.i64.wrap (byteAt w (i : Int) - 48) = byteAt w (i : Int) - 48 := wr (by omega) (by omega)
    have e3 : IntKind.i64.wrap (n * 10) = n * 10 := by generalize (10 : Nat) ^ i = M at *; exact wr (by omega) (by omega)
    have e4 : IntKind.i64.wrap (n * 10 + (byteAt w (i : Int) - 48)) = n * 10 + (byteAt w (i : Int) - 48) := by generalize (10 : Nat) ^ i = M at *; exact wr (by omega) (by omega)
    rw [e1, e2, e3, e4]
    exact hn
theorem l1Number_ev (w : ByteArray) (hw : w.size ≤ 4194304) : Ev (fun k => f83 k w 50) (numV w) := by
  simp only [f83, f83.start, PT.run, dite_eq_ite]
  unfold numV
  refine Ev.ite (fun h => Ev.ret' (by rw [if_pos (by omega)])) (fun h => ?_)
  rw [if_neg (by omega)]
  refine Ev.ite (fun h1 => Ev.ret' (by rw [if_pos (by omega)])) (fun h1 => ?_)
  rw [if_neg (by omega)]
  have hl := num_loop w (by omega) _ 0 0 rfl (Nat.zero_le _) (by omega) (by decide)
  by_cases h2 : 1 < w.size
  · refine Ev.pos (by omega) ?_
    refine Ev.ite (fun h3 => Ev.ret' (by rw [if_pos ⟨h2, h3⟩])) (fun h3 => ?_)
    rw [if_neg fun x => h3 x.2]
    exact hl
  · refine Ev.neg (by omega) ?_
    rw [if_neg fun x => h2 x.1]
    exact hl
def cutF (s : ByteArray) : Nat → Nat → Nat → List ByteArray
  | 0, i, m => [s.extract m i]
  | d + 1, i, m => if byteAt s (i : Int) = 32 then s.extract m i :: cutF s d (i + 1) (i + 1) else cutF s d (i + 1) m
theorem cutF_length (s : ByteArray) : ∀ (d i m : Nat), (cutF s d i m).length ≤ d + 1
  | 0, _, _ => Nat.le_refl _
  | d + 1, i, m => by
    unfold cutF
    split
    · have := cutF_length s d (i + 1) (i + 1)
      simp only [List.length_cons]; omega
    · have := cutF_length s d (i + 1) m
      omega
theorem cutF_size (s : ByteArray) : ∀ (d i m : Nat) (w : ByteArray), w ∈ cutF s d i m → w.size ≤ s.size
  | 0, i, m, w, h => by simp [cutF] at h; rw [h, ByteArray.size_extract]; omega
  | d + 1, i, m, w, h => by
    unfold cutF at h
    split at h
    · rcases List.mem_cons.1 h with h | h
      · rw [h, ByteArray.size_extract]; omega
      · exact cutF_size s d _ _ w h
    · exact cutF_size s d _ _ w h
theorem cut_loop (s : ByteArray) (hs : s.size ≤ 1048576) (d : Nat) : ∀ (i m : Nat) (q : List ByteArray), s.size - i = d → i ≤ s.size → m ≤ i → q.length ≤ i → Ev (fun k => f82.D k (.l4 q s 32 (m : Int) (i : Int))) (q ++ cutF s d i m) := by
  induction d with
  | zero =>
    intro i m q hd hi hm hq
    refine Ev.round ?_
    simp only [f82.blk, PT.run, dite_eq_ite]
    refine Ev.pos (by omega) (Ev.pos (by omega) (Ev.pos (by omega) (Ev.pos (by omega) (Ev.pos (by omega) ?_))))
    refine Ev.round ?_
    simp only [f82.blk, PT.run, dite_eq_ite]
    rw [wr1 (by omega)]
    refine Ev.neg (by omega) (Ev.ret' ?_)
    simp [cutF]
  | succ d ih =>
    intro i m q hd hi hm hq
    refine Ev.round ?_
    simp only [f82.blk, PT.run, dite_eq_ite]
    refine Ev.pos (by omega) (Ev.neg (by omega) (Ev.pos (by omega) (Ev.pos (by omega) ?_)))
    unfold cutF
    refine Ev.ite (fun h => ?_) (fun h => ?_)
    · rw [if_pos h]
      have hn := ih (i + 1) (i + 1) (q ++ [s.extract m i]) (by omega) (by omega) (Nat.le_refl _) (by rw [List.length_append, List.length_singleton]; omega)
      rw [← wr1 (by omega), List.append_assoc, List.singleton_append] at hn
      exact Ev.pos (by omega) (Ev.pos (by omega) (Ev.pos (by omega) hn))
    · rw [if_neg h]
      have hn := ih (i + 1) m q (by omega) (by omega) (by omega) (by omega)
      rw [← wr1 (by omega)] at hn
      exact hn
def cutV (s : ByteArray) : List ByteArray := cutF s s.size 0 0
theorem l3Cut_ev (s : ByteArray) (hs : s.size ≤ 1048576) : Ev (fun k => f82 k s 32) (cutV s) := by
  simp only [f82, f82.start, PT.run]
  have := cut_loop s hs _ 0 0 [] rfl (Nat.zero_le _) (Nat.le_refl _) (Nat.le_refl _)
  unfold cutV
  simpa using this
def parseS (ws : List ByteArray) : Nat → Nat → Bool → List Int → List Int → List Int × List Int
  | 0, _, _, v, l => (v, l)
  | d + 1, i, g, v, l =>
    let w := at' ws (i : Int)
    if strEq w wL = true ∧ ¬ g = true then parseS ws d (i + 1) true v l
    else if g = true then parseS ws d (i + 1) g v (l ++ [numV w])
    else parseS ws d (i + 1) g (v ++ [numV w]) l
def finS (t : ByteArray) (p : List Int × List Int) : Bool × List Int × List Int :=
  if strEq (if confB p.1 p.2 = true then ctext p.1 p.2 else ⟨#[]⟩) t = true ∧ ¬ strEq t ⟨#[]⟩ = true then (true, p.1, p.2) else (false, [], [])
def labS (ws : List ByteArray) (t : ByteArray) (i : Int) (g : Bool) (v l : List Int) : f65.L := match v, l with
  | [], [] => .l7 ws t g i
  | [], b :: l => .l7v1 ws (b :: l) t g i
  | a :: v, b :: l => .l7v2 ws (a :: v) (b :: l) t g i
  | a :: v, [] => .l7v3 ws (a :: v) t g i
theorem finS_ev (t : ByteArray) (v l : List Int) (hv : v.length ≤ 4194304) (hl : l.length ≤ 4194304) :
    Ev (fun k => (f84 k v l).bind fun t1 => if strEq t1 t = true then (if strEq t ⟨#[]⟩ = true then some (false, [], []) else some (true, v, l)) else some (false, [], [])) (finS t (v, l)) := by
  refine Ev.bind (ConfText_ev v l hv hl) ?_
  unfold finS
  refine Ev.ite (fun h => Ev.ite (fun h2 => Ev.ret' (by rw [if_neg fun x => x.2 h2])) (fun h2 => Ev.ret' (by rw [if_pos ⟨h, h2⟩]))) (fun h => Ev.ret' (by rw [if_neg fun x => h x.1]))
set_option maxHeartbeats 4000000 in
theorem readS_loop (ws : List ByteArray) (t : ByteArray) (hn : ws.length ≤ 4194304) (hw : ∀ i : Nat, i < ws.length → (at' ws (i : Int)).size ≤ 4194304) (d : Nat) : ∀ (i : Nat) (g : Bool) (v l : List Int), ws.length - i = d → i ≤ ws.length → v.length + l.length ≤ i →
    Ev (fun k => f65.D k (labS ws t (i : Int) g v l)) (finS t (parseS ws d i g v l)) := by
  induction d with
  | zero =>
    intro i g v l hd hi hs
    have hE := finS_ev t v l (by omega) (by omega)
    unfold parseS
    refine Ev.round ?_
    cases v with
    | nil =>
      cases l with
      | nil => simp only [labS, f65.blk, PT.run, dite_eq_ite]; exact Ev.neg (by omega) hE
      | cons b l => simp only [labS, f65.blk, PT.run, dite_eq_ite]; exact Ev.neg (by omega) hE
    | cons a v =>
      cases l with
      | nil => simp only [labS, f65.blk, PT.run, dite_eq_ite]; exact Ev.neg (by omega) hE
      | cons b l => simp only [labS, f65.blk, PT.run, dite_eq_ite]; exact Ev.neg (by omega) hE
  | succ d ih =>
    intro i g v l hd hi hs
    have ih2 := ih (i + 1) true v l (by omega) (by omega) (by omega)
    have ih3 := ih (i + 1) g v (l ++ [numV (at' ws (i : Int))]) (by omega) (by omega) (by rw [List.length_append, List.length_singleton]; omega)
    have ih4 := ih (i + 1) g (v ++ [numV (at' ws (i : Int))]) l (by omega) (by omega) (by rw [List.length_append, List.length_singleton]; omega)
    have hz := hw i (by omega)
    have hN := l1Number_ev _ hz
    rw [← wr1 (by omega)] at ih2 ih3 ih4
    have e : parseS ws (d + 1) i g v l = if strEq (at' ws (i : Int)) wL = true ∧ ¬ g = true then parseS ws d (i + 1) true v l else if g = true then parseS ws d (i + 1) g v (l ++ [numV (at' ws (i : Int))]) else parseS ws d (i + 1) g (v ++ [numV (at' ws (i : Int))]) l := rfl
    rw [e]
    clear ih e
    refine Ev.round ?_
    have a1 : strEq (at' ws (i : Int)) wL = true → ¬ g = true → (if strEq (at' ws (i : Int)) wL = true ∧ ¬ g = true then parseS ws d (i + 1) true v l else if g = true then parseS ws d (i + 1) g v (l ++ [numV (at' ws (i : Int))]) else parseS ws d (i + 1) g (v ++ [numV (at' ws (i : Int))]) l) = parseS ws d (i + 1) true v l := fun h1 h2 => if_pos ⟨h1, h2⟩
    have a2 : g = true → (if strEq (at' ws (i : Int)) wL = true ∧ ¬ g = true then parseS ws d (i + 1) true v l else if g = true then parseS ws d (i + 1) g v (l ++ [numV (at' ws (i : Int))]) else parseS ws d (i + 1) g (v ++ [numV (at' ws (i : Int))]) l) = parseS ws d (i + 1) g v (l ++ [numV (at' ws (i : Int))]) := fun h1 => by rw [if_neg fun x => x.2 h1, if_pos h1]
    have a3 : ¬ strEq (at' ws (i : Int)) wL = true → ¬ g = true → (if strEq (at' ws (i : Int)) wL = true ∧ ¬ g = true then parseS ws d (i + 1) true v l else if g = true then parseS ws d (i + 1) g v (l ++ [numV (at' ws (i : Int))]) else parseS ws d (i + 1) g (v ++ [numV (at' ws (i : Int))]) l) = parseS ws d (i + 1) g (v ++ [numV (at' ws (i : Int))]) l := fun h1 h2 => by rw [if_neg fun x => h1 x.1, if_neg h2]
    generalize (if strEq (at' ws (i : Int)) wL = true ∧ ¬ g = true then parseS ws d (i + 1) true v l else if g = true then parseS ws d (i + 1) g v (l ++ [numV (at' ws (i : Int))]) else parseS ws d (i + 1) g (v ++ [numV (at' ws (i : Int))]) l) = r at a1 a2 a3 ⊢
    cases v with
    | nil =>
      cases l with
      | nil =>
        simp only [labS, f65.blk, PT.run, dite_eq_ite, List.cons_append]
        simp only [labS, List.nil_append, List.cons_append] at ih2 ih3 ih4 a1 a2 a3
        refine Ev.pos (by omega) (Ev.pos (by omega) (Ev.ite (fun h1 => Ev.ite (fun h2 => Ev.bind hN (ih3.eq (by rw [a2 h2]))) fun h2 => ih2.eq (by rw [a1 h1 h2])) fun h1 => Ev.bind hN (Ev.ite (fun h2 => ih3.eq (by rw [a2 h2])) fun h2 => ih4.eq (by rw [a3 h1 h2]))))
      | cons b l =>
        simp only [labS, f65.blk, PT.run, dite_eq_ite, List.cons_append]
        simp only [labS, List.nil_append, List.cons_append] at ih2 ih3 ih4 a1 a2 a3
        refine Ev.pos (by omega) (Ev.pos (by omega) (Ev.ite (fun h1 => Ev.ite (fun h2 => Ev.bind hN (Ev.pos (by omega) (ih3.eq (by rw [a2 h2])))) fun h2 => ih2.eq (by rw [a1 h1 h2])) fun h1 => Ev.bind hN (Ev.ite (fun h2 => Ev.pos (by omega) (ih3.eq (by rw [a2 h2]))) fun h2 => ih4.eq (by rw [a3 h1 h2]))))
    | cons a v =>
      cases l with
      | nil =>
        simp only [labS, f65.blk, PT.run, dite_eq_ite, List.cons_append]
        simp only [labS, List.nil_append, List.cons_append] at ih2 ih3 ih4 a1 a2 a3
        refine Ev.pos (by omega) (Ev.pos (by omega) (Ev.ite (fun h1 => Ev.ite (fun h2 => Ev.bind hN (ih3.eq (by rw [a2 h2]))) fun h2 => ih2.eq (by rw [a1 h1 h2])) fun h1 => Ev.bind hN (Ev.ite (fun h2 => ih3.eq (by rw [a2 h2])) fun h2 => Ev.pos (by omega) (ih4.eq (by rw [a3 h1 h2])))))
      | cons b l =>
        simp only [labS, f65.blk, PT.run, dite_eq_ite, List.cons_append]
        simp only [labS, List.nil_append, List.cons_append] at ih2 ih3 ih4 a1 a2 a3
        refine Ev.pos (by omega) (Ev.pos (by omega) (Ev.ite (fun h1 => Ev.ite (fun h2 => Ev.bind hN (Ev.pos (by omega) (ih3.eq (by rw [a2 h2])))) fun h2 => ih2.eq (by rw [a1 h1 h2])) fun h1 => Ev.bind hN (Ev.ite (fun h2 => Ev.pos (by omega) (ih3.eq (by rw [a2 h2]))) fun h2 => Ev.pos (by omega) (ih4.eq (by rw [a3 h1 h2])))))
theorem ReadConf_ev (t : ByteArray) (ht : t.size ≤ 1048576) : Ev (fun k => f65 k t) (if 200 < t.size then (false, [], []) else finS t (parseS (cutV t) ((cutV t).length - 1) 1 false [] [])) := by
  simp only [f65, f65.start, PT.run, dite_eq_ite]
  refine Ev.ite (fun h => Ev.ret' (by rw [if_pos (by omega)])) (fun h => ?_)
  rw [if_neg (by omega)]
  have h0 : 0 < (cutV t).length := by
    unfold cutV
    cases hd : t.size with
    | zero => simp [cutF]
    | succ d =>
      have : ∀ d i m, 0 < (cutF t d i m).length := by
        intro d
        induction d with
        | zero => intro i m; simp [cutF]
        | succ d ih => intro i m; unfold cutF; split <;> simp [ih]
      exact this _ _ _
  have hl : (cutV t).length ≤ 4194304 := by have := cutF_length t t.size 0 0; unfold cutV; omega
  refine Ev.bind (l3Cut_ev t ht) (readS_loop (cutV t) t hl (fun i hi => ?_) _ 1 false [] [] rfl h0 (Nat.zero_le _))
  rw [at_nat _ i hi]
  have := cutF_size t _ _ _ _ (List.getElem_mem hi)
  omega
end Go.Proofs.YtbfgmnjhikaagaaGreatDoor.P
