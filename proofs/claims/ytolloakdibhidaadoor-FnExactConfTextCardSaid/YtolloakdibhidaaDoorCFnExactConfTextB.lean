/- Part of the proof of FnExactConfText: no statement of its own. -/
import Derived.Test.YtolloakdibhidaaDoorProg
import Derived.KernelRfl
import Derived.Test.YtolloakdibhidaaDoorCFnExactConfTextM1
set_option linter.unusedVariables false
set_option linter.unusedSimpArgs false
namespace Go.Proofs.YtolloakdibhidaaDoor.P
open Go Go.Proofs.YtolloakdibhidaaDoor.PM Go.Proofs
theorem sz2 : szT Tryd.prog 2 = some 1 := by kernel_rfl
theorem ag2 : aggT Tryd.prog 2 = some false := by kernel_rfl
theorem by2 : bytesT Tryd.prog 2 = some 8 := by kernel_rfl
theorem ze2 : zeroT Tryd.prog 2 = some (T.sc (.int .i64 0)) := by kernel_rfl
theorem sz3 : szT Tryd.prog 3 = some 1 := by kernel_rfl
theorem ag3 : aggT Tryd.prog 3 = some false := by kernel_rfl
theorem by3 : bytesT Tryd.prog 3 = some 8 := by kernel_rfl
theorem ze3 : zeroT Tryd.prog 3 = some (T.sc (.int .i64 0)) := by kernel_rfl
theorem sz4 : szT Tryd.prog 4 = some 1 := by kernel_rfl
theorem ag4 : aggT Tryd.prog 4 = some false := by kernel_rfl
theorem by4 : bytesT Tryd.prog 4 = some 1 := by kernel_rfl
theorem ze4 : zeroT Tryd.prog 4 = some (T.sc (.bool false)) := by kernel_rfl
theorem sz5 : szT Tryd.prog 5 = some 1 := by kernel_rfl
theorem ag5 : aggT Tryd.prog 5 = some false := by kernel_rfl
theorem by5 : bytesT Tryd.prog 5 = some 1 := by kernel_rfl
theorem ze5 : zeroT Tryd.prog 5 = some (T.sc (.int .u8 0)) := by kernel_rfl
theorem sz9 : szT Tryd.prog 9 = some 1 := by kernel_rfl
theorem ag9 : aggT Tryd.prog 9 = some false := by kernel_rfl
theorem by9 : bytesT Tryd.prog 9 = some 16 := by kernel_rfl
theorem ze9 : zeroT Tryd.prog 9 = some (T.sc (.string (⟨#[]⟩ : ByteArray))) := by kernel_rfl
theorem sz22 : szT Tryd.prog 22 = some 1 := by kernel_rfl
theorem ag22 : aggT Tryd.prog 22 = some false := by kernel_rfl
theorem by22 : bytesT Tryd.prog 22 = some 24 := by kernel_rfl
theorem ze22 : zeroT Tryd.prog 22 = some (T.nil) := by kernel_rfl
theorem el22 : elemT Tryd.prog 22 = some 2 := by kernel_rfl
theorem sz24 : szT Tryd.prog 24 = some 2 := by kernel_rfl
theorem ag24 : aggT Tryd.prog 24 = some true := by kernel_rfl
theorem by24 : bytesT Tryd.prog 24 = some 48 := by kernel_rfl
theorem ze24 : zeroT Tryd.prog 24 = some (T.agg [T.nil, T.nil]) := by kernel_rfl
theorem fs24 : fieldsT Tryd.prog 24 = some [(0, 1), (1, 1)] := by kernel_rfl
theorem sz27 : szT Tryd.prog 27 = some 2 := by kernel_rfl
theorem ag27 : aggT Tryd.prog 27 = some true := by kernel_rfl
theorem by27 : bytesT Tryd.prog 27 = some 48 := by kernel_rfl
theorem ze27 : zeroT Tryd.prog 27 = some (T.agg [T.nil, T.nil]) := by kernel_rfl
theorem fs27 : fieldsT Tryd.prog 27 = some [(0, 1), (1, 1)] := by kernel_rfl
theorem sz45 : szT Tryd.prog 45 = some 1 := by kernel_rfl
theorem ag45 : aggT Tryd.prog 45 = some false := by kernel_rfl
theorem by45 : bytesT Tryd.prog 45 = some 24 := by kernel_rfl
theorem ze45 : zeroT Tryd.prog 45 = some (T.nil) := by kernel_rfl
theorem el45 : elemT Tryd.prog 45 = some 5 := by kernel_rfl
theorem sz63 : szT Tryd.prog 63 = some 24 := by kernel_rfl
theorem ag63 : aggT Tryd.prog 63 = some true := by kernel_rfl
theorem by63 : bytesT Tryd.prog 63 = some 24 := by kernel_rfl
theorem ze63 : zeroT Tryd.prog 63 = some (T.agg [T.sc (.int .u8 0), T.sc (.int .u8 0), T.sc (.int .u8 0), T.sc (.int .u8 0), T.sc (.int .u8 0), T.sc (.int .u8 0), T.sc (.int .u8 0), T.sc (.int .u8 0), T.sc (.int .u8 0), T.sc (.int .u8 0), T.sc (.int .u8 0), T.sc (.int .u8 0), T.sc (.int .u8 0), T.sc (.int .u8 0), T.sc (.int .u8 0), T.sc (.int .u8 0), T.sc (.int .u8 0), T.sc (.int .u8 0), T.sc (.int .u8 0), T.sc (.int .u8 0), T.sc (.int .u8 0), T.sc (.int .u8 0), T.sc (.int .u8 0), T.sc (.int .u8 0)]) := by kernel_rfl
theorem sz64 : szT Tryd.prog 64 = some 1 := by kernel_rfl
theorem ag64 : aggT Tryd.prog 64 = some false := by kernel_rfl
theorem by64 : bytesT Tryd.prog 64 = some 8 := by kernel_rfl
theorem ze64 : zeroT Tryd.prog 64 = some (T.sc (.int .u64 0)) := by kernel_rfl
theorem ck3 : cellKs Tryd.prog 8 3 = some [none] := by kernel_rfl
theorem ck4 : cellKs Tryd.prog 8 4 = some [none] := by kernel_rfl
theorem ck9 : cellKs Tryd.prog 8 9 = some [none] := by kernel_rfl
theorem ck22 : cellKs Tryd.prog 8 22 = some [some 1] := by kernel_rfl
theorem ck27 : cellKs Tryd.prog 8 27 = some [some 1, some 1] := by kernel_rfl
theorem ft24_0 : fieldT Tryd.prog 24 0 = some (0, 22) := by kernel_rfl
theorem ft24_1 : fieldT Tryd.prog 24 1 = some (1, 22) := by kernel_rfl
theorem ft27_0 : fieldT Tryd.prog 27 0 = some (0, 22) := by kernel_rfl
theorem ft27_1 : fieldT Tryd.prog 27 1 = some (1, 22) := by kernel_rfl
def c3 : FCert := ⟨[], true, [], [(10, [[], [], [1], [0, 1, 2], []])]⟩
def c5 : FCert := ⟨[], true, [], []⟩
def c6 : FCert := ⟨[], true, [(5, [(1, 0), (3, 0), (4, 0)]), (11, [(1, 0), (3, 0), (5, 0)])], []⟩
def c7 : FCert := ⟨[], true, [], []⟩
def c8 : FCert := ⟨[], true, [], []⟩
def c9 : FCert := ⟨[], true, [], []⟩
def c14 : FCert := ⟨[], true, [], []⟩
def c15 : FCert := ⟨[], true, [(4, [(1, 0), (3, 0)])], [(6, [[], [], [], [], [], [3], [3, 5], [1, 3, 5, 6]])]⟩
def c16 : FCert := ⟨[], true, [(4, [(0, 0), (3, 0)])], []⟩
def c17 : FCert := ⟨[], true, [(3, [(0, 0), (3, 0), (4, 0)])], []⟩
def c18 : FCert := ⟨[], true, [], []⟩
def c19 : FCert := ⟨[], true, [(3, [(1, 0), (3, 0), (9, 0), (10, 0), (11, 0)]), (10, [(3, 0), (28, 0), (29, 0), (30, 0)])], []⟩
def c20 : FCert := ⟨[], true, [(4, [(0, 0), (1, 0), (5, 0)])], [(6, [[], [], [], [2], [], [], [], [6], []])]⟩
def c26 : FCert := ⟨[], true, [(4, [(0, 0), (5, 0)])], [(6, [[], [], [], [2], [2, 3], [], [], [], [], [], [], [], [2, 3, 4], [2, 3, 4, 12], [], [], [], [2, 3, 4], [2, 3, 4, 17], [], [], []])]⟩
def c27 : FCert := ⟨[], true, [(2, [(0, 0), (1, 0), (5, 0)])], []⟩
def c28 : FCert := ⟨[], true, [(2, [(0, 0), (5, 0), (6, 0), (7, 0)])], []⟩
def c29 : FCert := ⟨[], true, [], []⟩
def c30 : FCert := ⟨[], true, [], []⟩
def c31 : FCert := ⟨[], true, [], []⟩
def c32 : FCert := ⟨[], true, [], []⟩
def c36 : FCert := ⟨[], true, [], []⟩
def c37 : FCert := ⟨[], true, [], []⟩
def c38 : FCert := ⟨[], true, [(2, [(0, 0), (1, 0), (7, 0), (8, 0)])], []⟩
def c39 : FCert := ⟨[], true, [(2, [(0, 0), (1, 0), (7, 0), (8, 0)])], []⟩
def c40 : FCert := ⟨[], true, [], []⟩
def c44 : FCert := ⟨[], true, [], []⟩
def c45 : FCert := ⟨[], true, [], []⟩
def C0 : Cert := fun f => if f = 3 then c3 else if f = 5 then c5 else if f = 6 then c6 else if f = 7 then c7 else if f = 8 then c8 else if f = 9 then c9 else if f = 14 then c14 else if f = 15 then c15 else if f = 16 then c16 else if f = 17 then c17 else if f = 18 then c18 else if f = 19 then c19 else if f = 20 then c20 else if f = 26 then c26 else if f = 27 then c27 else if f = 28 then c28 else if f = 29 then c29 else if f = 30 then c30 else if f = 31 then c31 else if f = 32 then c32 else if f = 36 then c36 else if f = 37 then c37 else if f = 38 then c38 else if f = 39 then c39 else if f = 40 then c40 else if f = 44 then c44 else if f = 45 then c45 else ⟨[], false, [], []⟩
def P0 : FuncId → Option (List T → List Ob → Option (T × List Ob)) := fun _ => none
def f14 (k : Nat) (a0_0 : List Int) (a1_0 : Int) : Option (Int) := (if (IntKind.i64.wrap (a1_0 - (a0_0.length : Int))) < 0 then some (-1) else some (IntKind.i64.wrap (a1_0 - (a0_0.length : Int))))
def f5 (k : Nat) (a0_0 : List Int) (a0_1 : List Int) (a1_0 : Int) : Option (Int) := ((f14 k a0_0 a1_0).bind fun t1 => (if t1 < 0 then some (-1) else ((f14 k a0_1 t1).bind fun t2 => (if t2 < 0 then some (-1) else some t2))))
def f17.l3 : Nat → (List Int) → (List Int) → Int → Option ((List Int))
  | 0, _, _, _ => none
  | k + 1, q0, x0, x4 => (if x4 < (x0.length : Int) then (if 0 ≤ x4 then (if x4 < ((q0.length : Nat) : Int) then (f17.l3 k (q0.set x4.toNat (at' x0 x4)) x0 (IntKind.i64.wrap (x4 + 1))) else none) else none) else some q0)
def f17 (k : Nat) (a0_0 : List Int) : Option ((List Int)) := (if 0 ≤ (a0_0.length : Int) then (if (a0_0.length : Int) ≤ (a0_0.length : Int) then (if (a0_0.length : Int) * 8 ≤ 70368744177664 then (if (a0_0.length : Int) ≤ 70368744177664 then (f17.l3 k (List.replicate (a0_0.length : Int).toNat 0) a0_0 0) else none) else none) else none) else none)
def stf17_3 (q0 : List Int) (x0 : List Int) (x4 : Int) : St := ⟨[T.sl (List.map e_i64 x0) [], T.dead, T.dead, T.win 0 0 q0.length, T.sc (.int .i64 x4), T.dead, T.dead, T.dead, T.dead, T.dead, T.dead, T.dead, T.dead, T.dead, T.dead, T.dead, T.dead, T.dead, T.dead, T.dead, T.dead, T.dead], [(0, Ob.mkRow 1 (List.map e_i64 q0))], 1, 0⟩
def f7 (k : Nat) (a0_0 : List Int) (a0_1 : List Int) : Option ((List Int) × (List Int)) := ((f17 k a0_0).bind fun t1 => ((f17 k a0_1).bind fun t2 => some (t1, t2)))
def f36 (k : Nat) (a0_0 : Int) (a1_0 : Int) (a2_0 : Int) : Option (Bool) := (if a1_0 ≤ a0_0 then some (decide (a0_0 ≤ a2_0)) else some false)
def f26.l4 : Nat → (List Int) → Int → Option (Bool)
  | 0, _, _ => none
  | k + 1, x0, x5 => (if x5 < (x0.length : Int) then (if 0 ≤ x5 then ((f36 k (at' x0 x5) 1 50).bind fun t1 => (if t1 = true then (if 0 < x5 then (if 0 ≤ (IntKind.i64.wrap (x5 - 1)) then (if (IntKind.i64.wrap (x5 - 1)) < (x0.length : Int) then (if (at' x0 x5) ≤ (at' x0 (IntKind.i64.wrap (x5 - 1))) then some false else (f26.l4 k x0 (IntKind.i64.wrap (x5 + 1)))) else none) else none) else (f26.l4 k x0 (IntKind.i64.wrap (x5 + 1)))) else some false)) else none) else some true)
def f26 (k : Nat) (a0_0 : List Int) (a1_0 : Int) : Option (Bool) := (if a1_0 < (a0_0.length : Int) then some false else (f26.l4 k a0_0 0))
def stf26_4 (x0 : List Int) (x5 : Int) : St := ⟨[T.sl (List.map e_i64 x0) [], T.dead, T.dead, T.dead, T.dead, T.sc (.int .i64 x5), T.dead, T.dead, T.dead, T.dead, T.dead, T.dead, T.dead, T.dead, T.dead, T.dead, T.dead, T.dead, T.dead, T.dead, T.dead, T.dead, T.dead, T.dead, T.dead, T.dead, T.dead, T.dead, T.dead, T.dead, T.dead, T.dead, T.dead, T.dead, T.dead, T.dead, T.dead, T.dead], [], 0, 0⟩
def f27.l2 : Nat → (List Int) → Int → Int → Option (Bool)
  | 0, _, _, _ => none
  | k + 1, x0, x1, x5 => (if x5 < (x0.length : Int) then (if 0 ≤ x5 then (if (at' x0 x5) = x1 then some true else (f27.l2 k x0 x1 (IntKind.i64.wrap (x5 + 1)))) else none) else some false)
def f27 (k : Nat) (a0_0 : List Int) (a1_0 : Int) : Option (Bool) := (f27.l2 k a0_0 a1_0 0)
def stf27_2 (x0 : List Int) (x1 : Int) (x5 : Int) : St := ⟨[T.sl (List.map e_i64 x0) [], T.sc (.int .i64 x1), T.dead, T.dead, T.dead, T.sc (.int .i64 x5), T.dead, T.dead, T.dead, T.dead, T.dead, T.dead, T.dead, T.dead, T.dead, T.dead, T.dead, T.dead], [], 0, 0⟩
def f15.l4 : Nat → Int → (List Int) → (List Int) → Option (Bool)
  | 0, _, _, _ => none
  | k + 1, x3, b0_0, b0_1 => (if x3 < (b0_1.length : Int) then (if 0 ≤ x3 then ((f27 k b0_0 (at' b0_1 x3)).bind fun t3 => (if t3 = true then some false else (f15.l4 k (IntKind.i64.wrap (x3 + 1)) b0_0 b0_1))) else none) else some true)
def f15 (k : Nat) (a0_0 : List Int) (a0_1 : List Int) : Option (Bool) := (if (a0_0.length : Int) < 1 then some false else ((f26 k a0_0 7).bind fun t1 => (if t1 = true then ((f26 k a0_1 7).bind fun t2 => (if t2 = true then (f15.l4 k 0 a0_0 a0_1) else some false)) else some false)))
def stf15_4 (x3 : Int) (b0_0 : List Int) (b0_1 : List Int) : St := ⟨[T.dead, T.ptr 0 0 0, T.dead, T.sc (.int .i64 x3), T.dead, T.dead, T.dead, T.dead, T.dead, T.dead, T.dead, T.dead, T.dead, T.dead, T.dead, T.dead, T.dead, T.dead, T.dead, T.dead, T.dead, T.dead, T.dead, T.dead, T.dead, T.dead, T.dead, T.dead, T.dead, T.dead, T.dead, T.dead, T.dead, T.dead, T.dead], [(0, Ob.mkBox 2 (T.agg [T.sl (List.map e_i64 b0_0) [], T.sl (List.map e_i64 b0_1) []]))], 1, 0⟩
def f16.l4 : Nat → Int → ByteArray → Option (ByteArray)
  | 0, _, _ => none
  | k + 1, x0, x3 => (if 0 < x0 then (if 1 + x3.size ≤ 9223372036854775807 then (f16.l4 k (IntKind.i64.wrap (x0.tdiv 10)) ((strOf ([(IntKind.u8.wrap (IntKind.i64.wrap (48 + (x0.tmod 10))))] : List Int)) ++ x3)) else none) else some x3)
def f16 (k : Nat) (a0_0 : Int) : Option (ByteArray) := (if a0_0 = 0 then some (⟨#[48]⟩ : ByteArray) else (f16.l4 k a0_0 (⟨#[]⟩ : ByteArray)))
def stf16_4 (x0 : Int) (x3 : ByteArray) : St := ⟨[T.sc (.int .i64 x0), T.dead, T.dead, T.sc (.string x3), T.dead, T.dead, T.dead, T.dead, T.dead, T.dead, T.dead, T.dead, T.dead, T.dead, T.dead, T.dead, T.dead, T.dead, T.dead], [], 0, 0⟩
mutual
def f6.l5 : Nat → ByteArray → Int → (List Int) → (List Int) → Option (ByteArray)
  | 0, _, _, _, _ => none
  | k + 1, x3, x4, b0_0, b0_1 => (if x4 < (b0_0.length : Int) then (if x3.size + 1 ≤ 9223372036854775807 then (if 0 ≤ x4 then ((f16 k (at' b0_0 x4)).bind fun t2 => (if x3.size + 1 + t2.size ≤ 9223372036854775807 then (f6.l5 k ((x3 ++ (⟨#[32]⟩ : ByteArray)) ++ t2) (IntKind.i64.wrap (x4 + 1)) b0_0 b0_1) else none)) else none) else none) else (if 0 < (b0_1.length : Int) then (if x3.size + 2 ≤ 9223372036854775807 then (f6.l11 k (x3 ++ (⟨#[32, 108]⟩ : ByteArray)) 0 b0_0 b0_1) else none) else (f6.l11 k x3 0 b0_0 b0_1)))
def f6.l11 : Nat → ByteArray → Int → (List Int) → (List Int) → Option (ByteArray)
  | 0, _, _, _, _ => none
  | k + 1, x3, x5, b0_0, b0_1 => (if x5 < (b0_1.length : Int) then (if x3.size + 1 ≤ 9223372036854775807 then (if 0 ≤ x5 then ((f16 k (at' b0_1 x5)).bind fun t3 => (if x3.size + 1 + t3.size ≤ 9223372036854775807 then (f6.l11 k ((x3 ++ (⟨#[32]⟩ : ByteArray)) ++ t3) (IntKind.i64.wrap (x5 + 1)) b0_0 b0_1) else none)) else none) else none) else some x3)
end
def f6 (k : Nat) (a0_0 : List Int) (a0_1 : List Int) : Option (ByteArray) := ((f15 k a0_0 a0_1).bind fun t1 => (if t1 = true then (f6.l5 k (⟨#[118]⟩ : ByteArray) 0 a0_0 a0_1) else some (⟨#[]⟩ : ByteArray)))
def stf6_5 (x3 : ByteArray) (x4 : Int) (b0_0 : List Int) (b0_1 : List Int) : St := ⟨[T.dead, T.ptr 0 0 0, T.dead, T.sc (.string x3), T.sc (.int .i64 x4), T.dead, T.dead, T.dead, T.dead, T.dead, T.dead, T.dead, T.dead, T.dead, T.dead, T.dead, T.dead, T.dead, T.dead, T.dead, T.dead, T.dead, T.dead, T.dead, T.dead, T.dead, T.dead, T.dead, T.dead, T.dead, T.dead, T.dead, T.dead, T.dead, T.dead, T.dead, T.dead, T.dead, T.dead, T.dead, T.dead, T.dead, T.dead, T.dead, T.dead, T.dead, T.dead, T.dead], [(0, Ob.mkBox 2 (T.agg [T.sl (List.map e_i64 b0_0) [], T.sl (List.map e_i64 b0_1) []]))], 1, 0⟩
def stf6_11 (x3 : ByteArray) (x5 : Int) (b0_0 : List Int) (b0_1 : List Int) : St := ⟨[T.dead, T.ptr 0 0 0, T.dead, T.sc (.string x3), T.dead, T.sc (.int .i64 x5), T.dead, T.dead, T.dead, T.dead, T.dead, T.dead, T.dead, T.dead, T.dead, T.dead, T.dead, T.dead, T.dead, T.dead, T.dead, T.dead, T.dead, T.dead, T.dead, T.dead, T.dead, T.dead, T.dead, T.dead, T.dead, T.dead, T.dead, T.dead, T.dead, T.dead, T.dead, T.dead, T.dead, T.dead, T.dead, T.dead, T.dead, T.dead, T.dead, T.dead, T.dead, T.dead], [(0, Ob.mkBox 2 (T.agg [T.sl (List.map e_i64 b0_0) [], T.sl (List.map e_i64 b0_1) []]))], 1, 0⟩
def f44 (k : Nat) (a0_0 : Int) (a1_0 : Int) (a2_0 : Int) : Option (Bool) := (if a1_0 ≤ a0_0 then some (decide (a0_0 ≤ a2_0)) else some false)
def f37 (k : Nat) (a0_0 : Int) : Option (Bool) := ((f44 k a0_0 1 50).bind fun t1 => some t1)
def f28.l2 : Nat → (List Int) → (List Int) → Int → Int → Option (Bool)
  | 0, _, _, _, _ => none
  | k + 1, x0, x5, x6, x7 => (if x7 < x6 then (if 0 ≤ x7 then (if x7 < (x5.length : Int) then ((f37 k (at' x5 x7)).bind fun t1 => (if t1 = true then (if 0 < x7 then (if 0 ≤ (IntKind.i64.wrap (x7 - 1)) then (if (IntKind.i64.wrap (x7 - 1)) < (x0.length : Int) then (if (at' x5 x7) ≤ (at' x0 (IntKind.i64.wrap (x7 - 1))) then some false else (f28.l2 k x0 x5 x6 (IntKind.i64.wrap (x7 + 1)))) else none) else none) else (f28.l2 k x0 x5 x6 (IntKind.i64.wrap (x7 + 1)))) else some false)) else none) else none) else some (decide ((x0.length : Int) ≤ 7)))
def f28 (k : Nat) (a0_0 : List Int) : Option (Bool) := (f28.l2 k a0_0 a0_0 (a0_0.length : Int) 0)
def stf28_2 (x0 : List Int) (x5 : List Int) (x6 : Int) (x7 : Int) : St := ⟨[T.sl (List.map e_i64 x0) [], T.dead, T.dead, T.dead, T.dead, T.sl (List.map e_i64 x5) [], T.sc (.int .i64 x6), T.sc (.int .i64 x7), T.dead, T.dead, T.dead, T.dead, T.dead, T.dead, T.dead, T.dead, T.dead, T.dead, T.dead, T.dead, T.dead, T.dead, T.dead, T.dead, T.dead, T.dead, T.dead, T.dead, T.dead, T.dead, T.dead, T.dead], [], 0, 0⟩
def f39.l2 : Nat → (List Int) → Int → Int → Int → Option (Int)
  | 0, _, _, _, _ => none
  | k + 1, x0, x1, x7, x8 => (if x8 < x7 then (if 0 ≤ x8 then (if x8 < (x0.length : Int) then (if x1 = (at' x0 x8) then some x8 else (f39.l2 k x0 x1 x7 (IntKind.i64.wrap (x8 + 1)))) else none) else none) else some (-1))
def f39 (k : Nat) (a0_0 : List Int) (a1_0 : Int) : Option (Int) := (f39.l2 k a0_0 a1_0 (a0_0.length : Int) 0)
def stf39_2 (x0 : List Int) (x1 : Int) (x7 : Int) (x8 : Int) : St := ⟨[T.sl (List.map e_i64 x0) [], T.sc (.int .i64 x1), T.dead, T.dead, T.dead, T.dead, T.dead, T.sc (.int .i64 x7), T.sc (.int .i64 x8), T.dead, T.dead, T.dead, T.dead, T.dead, T.dead, T.dead, T.dead, T.dead, T.dead], [], 0, 0⟩
def f31 (k : Nat) (a0_0 : List Int) (a1_0 : Int) : Option (Bool) := ((f39 k a0_0 a1_0).bind fun t1 => some (decide (0 ≤ t1)))
def f30 (k : Nat) (a0_0 : Int) (o0_0 : List Int) (o0_1 : List Int) : Option (Bool) := ((f31 k o0_0 a0_0).bind fun t1 => some t1)
def f38.l2 : Nat → (List Int) → Int → Int → (List Int) → (List Int) → Option (Int × (List Int) × (List Int))
  | 0, _, _, _, _, _ => none
  | k + 1, x0, x7, x8, b0_0, b0_1 => (if x8 < x7 then (if 0 ≤ x8 then (if x8 < (x0.length : Int) then ((f30 k (at' x0 x8) b0_0 b0_1).bind fun t1 => (if t1 = true then some (x8, b0_0, b0_1) else (f38.l2 k x0 x7 (IntKind.i64.wrap (x8 + 1)) b0_0 b0_1))) else none) else none) else some ((-1), b0_0, b0_1))
def f38 (k : Nat) (a0_0 : List Int) (o0_0 : List Int) (o0_1 : List Int) : Option (Int × (List Int) × (List Int)) := (f38.l2 k a0_0 (a0_0.length : Int) 0 o0_0 o0_1)
def stf38_2 (x0 : List Int) (x7 : Int) (x8 : Int) (b0_0 : List Int) (b0_1 : List Int) : St := ⟨[T.sl (List.map e_i64 x0) [], T.fn 30 [T.ptr 0 0 0], T.dead, T.dead, T.dead, T.dead, T.dead, T.sc (.int .i64 x7), T.sc (.int .i64 x8), T.dead, T.dead, T.dead, T.dead, T.dead, T.dead, T.dead, T.dead, T.dead, T.dead], [(0, Ob.mkBox 2 (T.agg [T.sl (List.map e_i64 b0_0) [], T.sl (List.map e_i64 b0_1) []]))], 1, 1⟩
def f29 (k : Nat) (a0_0 : List Int) (o0_0 : List Int) (o0_1 : List Int) : Option (Bool × (List Int) × (List Int)) := ((f38 k a0_0 o0_0 o0_1).bind fun t1 => some (decide (0 ≤ t1.1), t1.2.1, t1.2.2))
def f18 (k : Nat) (a0_0 : List Int) (a0_1 : List Int) : Option (Bool) := (if 0 < (a0_0.length : Int) then ((f28 k a0_0).bind fun t1 => (if t1 = true then ((f28 k a0_1).bind fun t2 => (if t2 = true then ((f29 k a0_1 a0_0 a0_1).bind fun t3 => some (!t3.1)) else some false)) else some false)) else some false)
def f45 (k : Nat) (a0_0 : Int) : Option (ByteArray) := (if a0_0 < 10 then (if 0 ≤ (IntKind.i64.wrap (a0_0 + 1)) then (if (IntKind.i64.wrap (a0_0 + 1)) ≤ 36 then (if 0 ≤ a0_0 then (if a0_0 ≤ max (IntKind.i64.wrap (a0_0 + 1)) 0 then some ((⟨#[48, 49, 50, 51, 52, 53, 54, 55, 56, 57, 97, 98, 99, 100, 101, 102, 103, 104, 105, 106, 107, 108, 109, 110, 111, 112, 113, 114, 115, 116, 117, 118, 119, 120, 121, 122]⟩ : ByteArray).extract a0_0.toNat ((IntKind.i64.wrap (a0_0 + 1)).toNat)) else none) else none) else none) else none) else (if 0 ≤ (IntKind.i64.wrap ((IntKind.i64.wrap (a0_0 * 2)) + 2)) then (if (IntKind.i64.wrap ((IntKind.i64.wrap (a0_0 * 2)) + 2)) ≤ 200 then (if 0 ≤ (IntKind.i64.wrap (a0_0 * 2)) then (if (IntKind.i64.wrap (a0_0 * 2)) ≤ max (IntKind.i64.wrap ((IntKind.i64.wrap (a0_0 * 2)) + 2)) 0 then some ((⟨#[48, 48, 48, 49, 48, 50, 48, 51, 48, 52, 48, 53, 48, 54, 48, 55, 48, 56, 48, 57, 49, 48, 49, 49, 49, 50, 49, 51, 49, 52, 49, 53, 49, 54, 49, 55, 49, 56, 49, 57, 50, 48, 50, 49, 50, 50, 50, 51, 50, 52, 50, 53, 50, 54, 50, 55, 50, 56, 50, 57, 51, 48, 51, 49, 51, 50, 51, 51, 51, 52, 51, 53, 51, 54, 51, 55, 51, 56, 51, 57, 52, 48, 52, 49, 52, 50, 52, 51, 52, 52, 52, 53, 52, 54, 52, 55, 52, 56, 52, 57, 53, 48, 53, 49, 53, 50, 53, 51, 53, 52, 53, 53, 53, 54, 53, 55, 53, 56, 53, 57, 54, 48, 54, 49, 54, 50, 54, 51, 54, 52, 54, 53, 54, 54, 54, 55, 54, 56, 54, 57, 55, 48, 55, 49, 55, 50, 55, 51, 55, 52, 55, 53, 55, 54, 55, 55, 55, 56, 55, 57, 56, 48, 56, 49, 56, 50, 56, 51, 56, 52, 56, 53, 56, 54, 56, 55, 56, 56, 56, 57, 57, 48, 57, 49, 57, 50, 57, 51, 57, 52, 57, 53, 57, 54, 57, 55, 57, 56, 57, 57]⟩ : ByteArray).extract ((IntKind.i64.wrap (a0_0 * 2)).toNat) ((IntKind.i64.wrap ((IntKind.i64.wrap (a0_0 * 2)) + 2)).toNat)) else none) else none) else none) else none))
def f40 (k : Nat) (a0_0 : Int) (a1_0 : Int) : Option (ByteArray) := (if a1_0 = 10 then (if 0 ≤ a0_0 then (if a0_0 < 100 then ((f45 k a0_0).bind fun t1 => some t1) else none) else none) else none)
def f32 (k : Nat) (a0_0 : Int) (a1_0 : Int) : Option (ByteArray) := ((f40 k a0_0 a1_0).bind fun t1 => some t1)
mutual
def f19.l3 : Nat → ByteArray → (List Int) → Int → Int → (List Int) → (List Int) → Option (ByteArray)
  | 0, _, _, _, _, _, _ => none
  | k + 1, x3, x9, x10, x11, b0_0, b0_1 => (if x11 < x10 then (if 0 ≤ x11 then (if x11 < (x9.length : Int) then ((f32 k (at' x9 x11) 10).bind fun t1 => (if 1 + t1.size ≤ 9223372036854775807 then (if x3.size + (1 + t1.size) ≤ 9223372036854775807 then (f19.l3 k (x3 ++ ((⟨#[32]⟩ : ByteArray) ++ t1)) x9 x10 (IntKind.i64.wrap (x11 + 1)) b0_0 b0_1) else none) else none)) else none) else none) else (if 0 < (b0_1.length : Int) then (if x3.size + 2 ≤ 9223372036854775807 then (f19.l10 k (x3 ++ (⟨#[32, 108]⟩ : ByteArray)) b0_1 (b0_1.length : Int) 0) else none) else (f19.l10 k x3 b0_1 (b0_1.length : Int) 0)))
def f19.l10 : Nat → ByteArray → (List Int) → Int → Int → Option (ByteArray)
  | 0, _, _, _, _ => none
  | k + 1, x3, x28, x29, x30 => (if x30 < x29 then (if 0 ≤ x30 then (if x30 < (x28.length : Int) then ((f32 k (at' x28 x30) 10).bind fun t2 => (if 1 + t2.size ≤ 9223372036854775807 then (if x3.size + (1 + t2.size) ≤ 9223372036854775807 then (f19.l10 k (x3 ++ ((⟨#[32]⟩ : ByteArray) ++ t2)) x28 x29 (IntKind.i64.wrap (x30 + 1))) else none) else none)) else none) else none) else some x3)
end
def f19 (k : Nat) (a0_0 : List Int) (a0_1 : List Int) : Option (ByteArray) := (f19.l3 k (⟨#[118]⟩ : ByteArray) a0_0 (a0_0.length : Int) 0 a0_0 a0_1)
def stf19_3 (x3 : ByteArray) (x9 : List Int) (x10 : Int) (x11 : Int) (b0_0 : List Int) (b0_1 : List Int) : St := ⟨[T.dead, T.ptr 0 0 0, T.dead, T.sc (.string x3), T.dead, T.dead, T.dead, T.dead, T.dead, T.sl (List.map e_i64 x9) [], T.sc (.int .i64 x10), T.sc (.int .i64 x11), T.dead, T.dead, T.dead, T.dead, T.dead, T.dead, T.dead, T.dead, T.dead, T.dead, T.dead, T.dead, T.dead, T.dead, T.dead, T.dead, T.dead, T.dead, T.dead, T.dead, T.dead, T.dead, T.dead, T.dead, T.dead, T.dead, T.dead, T.dead, T.dead], [(0, Ob.mkBox 2 (T.agg [T.sl (List.map e_i64 b0_0) [], T.sl (List.map e_i64 b0_1) []]))], 1, 0⟩
def stf19_10 (x3 : ByteArray) (x28 : List Int) (x29 : Int) (x30 : Int) : St := ⟨[T.dead, T.dead, T.dead, T.sc (.string x3), T.dead, T.dead, T.dead, T.dead, T.dead, T.dead, T.dead, T.dead, T.dead, T.dead, T.dead, T.dead, T.dead, T.dead, T.dead, T.dead, T.dead, T.dead, T.dead, T.dead, T.dead, T.dead, T.dead, T.dead, T.sl (List.map e_i64 x28) [], T.sc (.int .i64 x29), T.sc (.int .i64 x30), T.dead, T.dead, T.dead, T.dead, T.dead, T.dead, T.dead, T.dead, T.dead, T.dead], [], 0, 0⟩
def f8 (k : Nat) (a0_0 : List Int) (a0_1 : List Int) : Option (ByteArray) := ((f18 k a0_0 a0_1).bind fun t1 => (if t1 = true then ((f19 k a0_0 a0_1).bind fun t2 => some t2) else some (⟨#[]⟩ : ByteArray)))
def f20.l4 : Nat → (List Int) → (List Int) → Int → Option (Bool)
  | 0, _, _, _ => none
  | k + 1, x0, x1, x5 => (if x5 < (x0.length : Int) then (if 0 ≤ x5 then (if x5 < (x1.length : Int) then (if (at' x0 x5) = (at' x1 x5) then (f20.l4 k x0 x1 (IntKind.i64.wrap (x5 + 1))) else some false) else none) else none) else some true)
def f20 (k : Nat) (a0_0 : List Int) (a1_0 : List Int) : Option (Bool) := (if (a0_0.length : Int) = (a1_0.length : Int) then (f20.l4 k a0_0 a1_0 0) else some false)
def stf20_4 (x0 : List Int) (x1 : List Int) (x5 : Int) : St := ⟨[T.sl (List.map e_i64 x0) [], T.sl (List.map e_i64 x1) [], T.dead, T.dead, T.dead, T.sc (.int .i64 x5), T.dead, T.dead, T.dead, T.dead, T.dead, T.dead, T.dead, T.dead, T.dead, T.dead, T.dead, T.dead, T.dead, T.dead, T.dead, T.dead, T.dead, T.dead, T.dead, T.dead], [], 0, 0⟩
def f9 (k : Nat) (a0_0 : List Int) (a0_1 : List Int) (a1_0 : List Int) (a1_1 : List Int) : Option (Bool) := ((f20 k a0_0 a1_0).bind fun t1 => (if t1 = true then ((f20 k a0_1 a1_1).bind fun t2 => (if t2 = true then some true else some false)) else some false))
def f3 (k : Nat) (a0_0 : List Int) (a0_1 : List Int) : Option (Bool) := ((f5 k a0_0 a0_1 1048576).bind fun t1 => (if t1 < 0 then some true else ((f7 k a0_0 a0_1).bind fun t2 => ((f6 k t2.1 t2.2).bind fun t3 => ((f8 k t2.1 t2.2).bind fun t4 => (if strEq t4 t3 = true then ((f9 k t2.1 t2.2 t2.1 t2.2).bind fun t5 => (if t5 = true then some true else some false)) else some false))))))
end Go.Proofs.YtolloakdibhidaaDoor.P
