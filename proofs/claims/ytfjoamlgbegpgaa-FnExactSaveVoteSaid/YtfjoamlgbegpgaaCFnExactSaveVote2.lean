/- Part of the proof of FnExactSaveVote: no statement of its own. -/
import Derived.IntWalk
import Derived.KernelRfl
import Derived.Lib.Bytealg
import Derived.Lib.Strings
import Derived.Test.YtfjoamlgbegpgaaProg
import Derived.Test.YtfjoamlgbegpgaaCFnExactSaveVote1
set_option linter.unusedVariables false
set_option linter.unusedSimpArgs false
namespace Go.Proofs.Ytfjoamlgbegpgaa.P
open Go Go.Proofs.Ytfjoamlgbegpgaa.PM Go.Proofs
structure S73 where
  f0 : Int
  f1 : ByteArray
  f2 : ByteArray
  f3 : ByteArray
instance : Inhabited S73 := ⟨⟨default, default, default, default⟩⟩
def e73 (x : S73) : T := .agg [T.sc (.int .i64 x.f0), T.sc (.string x.f1), T.sc (.string x.f2), T.sc (.string x.f3)]
theorem g73 (l : List S73) (i : Int) (h : i.toNat < l.length) : l[i.toNat] = at' l i := get_at l i h
theorem w73 (l : List S73) : wid 4 (l.map e73) = true := by simp [wid, e73, T.width, T.cells]
structure S80 where
  f0 : ByteArray
  f1 : ByteArray
instance : Inhabited S80 := ⟨⟨default, default⟩⟩
def e80 (x : S80) : T := .agg [T.sc (.string x.f0), T.sc (.string x.f1)]
theorem g80 (l : List S80) (i : Int) (h : i.toNat < l.length) : l[i.toNat] = at' l i := get_at l i h
theorem w80 (l : List S80) : wid 2 (l.map e80) = true := by simp [wid, e80, T.width, T.cells]
structure S104 where
  f0 : Int
  f1 : ByteArray
instance : Inhabited S104 := ⟨⟨default, default⟩⟩
def e104 (x : S104) : T := .agg [T.sc (.int .i64 x.f0), T.sc (.string x.f1)]
theorem g104 (l : List S104) (i : Int) (h : i.toNat < l.length) : l[i.toNat] = at' l i := get_at l i h
theorem w104 (l : List S104) : wid 2 (l.map e104) = true := by simp [wid, e104, T.width, T.cells]
structure S106 where
  f0 : ByteArray
  f1 : ByteArray
instance : Inhabited S106 := ⟨⟨default, default⟩⟩
def e106 (x : S106) : T := .agg [T.sc (.string x.f0), T.sc (.string x.f1)]
theorem g106 (l : List S106) (i : Int) (h : i.toNat < l.length) : l[i.toNat] = at' l i := get_at l i h
theorem w106 (l : List S106) : wid 2 (l.map e106) = true := by simp [wid, e106, T.width, T.cells]
structure S108 where
  f0 : Int
  f1 : ByteArray
  f2 : ByteArray
  f3 : ByteArray
instance : Inhabited S108 := ⟨⟨default, default, default, default⟩⟩
def e108 (x : S108) : T := .agg [T.sc (.int .i64 x.f0), T.sc (.string x.f1), T.sc (.string x.f2), T.sc (.string x.f3)]
theorem g108 (l : List S108) (i : Int) (h : i.toNat < l.length) : l[i.toNat] = at' l i := get_at l i h
theorem w108 (l : List S108) : wid 4 (l.map e108) = true := by simp [wid, e108, T.width, T.cells]
structure S136 where
  f0 : Int
  f1 : Int
  f2 : ByteArray
instance : Inhabited S136 := ⟨⟨default, default, default⟩⟩
def e136 (x : S136) : T := .agg [T.sc (.int .i64 x.f0), T.sc (.int .i64 x.f1), T.sc (.string x.f2)]
theorem g136 (l : List S136) (i : Int) (h : i.toNat < l.length) : l[i.toNat] = at' l i := get_at l i h
theorem w136 (l : List S136) : wid 3 (l.map e136) = true := by simp [wid, e136, T.width, T.cells]
theorem sz2 : szT Try.prog 2 = some 1 := by kernel_rfl
theorem ag2 : aggT Try.prog 2 = some false := by kernel_rfl
theorem by2 : bytesT Try.prog 2 = some 8 := by kernel_rfl
theorem ze2 : zeroT Try.prog 2 = some (T.sc (.int .i64 0)) := by kernel_rfl
theorem sz3 : szT Try.prog 3 = some 1 := by kernel_rfl
theorem ag3 : aggT Try.prog 3 = some false := by kernel_rfl
theorem by3 : bytesT Try.prog 3 = some 8 := by kernel_rfl
theorem ze3 : zeroT Try.prog 3 = some (T.sc (.int .i64 0)) := by kernel_rfl
theorem sz4 : szT Try.prog 4 = some 1 := by kernel_rfl
theorem ag4 : aggT Try.prog 4 = some false := by kernel_rfl
theorem by4 : bytesT Try.prog 4 = some 1 := by kernel_rfl
theorem ze4 : zeroT Try.prog 4 = some (T.sc (.bool false)) := by kernel_rfl
theorem sz5 : szT Try.prog 5 = some 1 := by kernel_rfl
theorem ag5 : aggT Try.prog 5 = some false := by kernel_rfl
theorem by5 : bytesT Try.prog 5 = some 1 := by kernel_rfl
theorem ze5 : zeroT Try.prog 5 = some (T.sc (.int .u8 0)) := by kernel_rfl
theorem sz9 : szT Try.prog 9 = some 1 := by kernel_rfl
theorem ag9 : aggT Try.prog 9 = some false := by kernel_rfl
theorem by9 : bytesT Try.prog 9 = some 16 := by kernel_rfl
theorem ze9 : zeroT Try.prog 9 = some (T.sc (.string (⟨#[]⟩ : ByteArray))) := by kernel_rfl
theorem sz22 : szT Try.prog 22 = some 1 := by kernel_rfl
theorem ag22 : aggT Try.prog 22 = some false := by kernel_rfl
theorem by22 : bytesT Try.prog 22 = some 24 := by kernel_rfl
theorem ze22 : zeroT Try.prog 22 = some (T.nil) := by kernel_rfl
theorem el22 : elemT Try.prog 22 = some 106 := by kernel_rfl
theorem sz23 : szT Try.prog 23 = some 1 := by kernel_rfl
theorem ag23 : aggT Try.prog 23 = some false := by kernel_rfl
theorem by23 : bytesT Try.prog 23 = some 24 := by kernel_rfl
theorem ze23 : zeroT Try.prog 23 = some (T.nil) := by kernel_rfl
theorem el23 : elemT Try.prog 23 = some 108 := by kernel_rfl
theorem sz25 : szT Try.prog 25 = some 3 := by kernel_rfl
theorem ag25 : aggT Try.prog 25 = some true := by kernel_rfl
theorem by25 : bytesT Try.prog 25 = some 72 := by kernel_rfl
theorem ze25 : zeroT Try.prog 25 = some (T.agg [T.nil, T.nil, T.nil]) := by kernel_rfl
theorem fs25 : fieldsT Try.prog 25 = some [(0, 1), (1, 1), (2, 1)] := by kernel_rfl
theorem sz28 : szT Try.prog 28 = some 1 := by kernel_rfl
theorem ag28 : aggT Try.prog 28 = some false := by kernel_rfl
theorem by28 : bytesT Try.prog 28 = some 24 := by kernel_rfl
theorem ze28 : zeroT Try.prog 28 = some (T.nil) := by kernel_rfl
theorem el28 : elemT Try.prog 28 = some 80 := by kernel_rfl
theorem sz29 : szT Try.prog 29 = some 1 := by kernel_rfl
theorem ag29 : aggT Try.prog 29 = some false := by kernel_rfl
theorem by29 : bytesT Try.prog 29 = some 24 := by kernel_rfl
theorem ze29 : zeroT Try.prog 29 = some (T.nil) := by kernel_rfl
theorem el29 : elemT Try.prog 29 = some 73 := by kernel_rfl
theorem sz31 : szT Try.prog 31 = some 3 := by kernel_rfl
theorem ag31 : aggT Try.prog 31 = some true := by kernel_rfl
theorem by31 : bytesT Try.prog 31 = some 72 := by kernel_rfl
theorem ze31 : zeroT Try.prog 31 = some (T.agg [T.nil, T.nil, T.nil]) := by kernel_rfl
theorem fs31 : fieldsT Try.prog 31 = some [(0, 1), (1, 1), (2, 1)] := by kernel_rfl
theorem sz38 : szT Try.prog 38 = some 1 := by kernel_rfl
theorem ag38 : aggT Try.prog 38 = some false := by kernel_rfl
theorem by38 : bytesT Try.prog 38 = some 24 := by kernel_rfl
theorem ze38 : zeroT Try.prog 38 = some (T.nil) := by kernel_rfl
theorem el38 : elemT Try.prog 38 = some 5 := by kernel_rfl
theorem sz40 : szT Try.prog 40 = some 1 := by kernel_rfl
theorem ag40 : aggT Try.prog 40 = some false := by kernel_rfl
theorem by40 : bytesT Try.prog 40 = some 24 := by kernel_rfl
theorem ze40 : zeroT Try.prog 40 = some (T.nil) := by kernel_rfl
theorem el40 : elemT Try.prog 40 = some 2 := by kernel_rfl
theorem sz51 : szT Try.prog 51 = some 1 := by kernel_rfl
theorem ag51 : aggT Try.prog 51 = some false := by kernel_rfl
theorem by51 : bytesT Try.prog 51 = some 8 := by kernel_rfl
theorem ze51 : zeroT Try.prog 51 = some (T.sc (.int .u64 0)) := by kernel_rfl
theorem sz58 : szT Try.prog 58 = some 1 := by kernel_rfl
theorem ag58 : aggT Try.prog 58 = some false := by kernel_rfl
theorem by58 : bytesT Try.prog 58 = some 24 := by kernel_rfl
theorem ze58 : zeroT Try.prog 58 = some (T.nil) := by kernel_rfl
theorem el58 : elemT Try.prog 58 = some 136 := by kernel_rfl
theorem sz60 : szT Try.prog 60 = some 3 := by kernel_rfl
theorem ag60 : aggT Try.prog 60 = some true := by kernel_rfl
theorem by60 : bytesT Try.prog 60 = some 40 := by kernel_rfl
theorem ze60 : zeroT Try.prog 60 = some (T.agg [T.sc (.int .i64 0), T.sc (.int .i64 0), T.nil]) := by kernel_rfl
theorem fs60 : fieldsT Try.prog 60 = some [(0, 1), (1, 1), (2, 1)] := by kernel_rfl
theorem sz73 : szT Try.prog 73 = some 4 := by kernel_rfl
theorem ag73 : aggT Try.prog 73 = some true := by kernel_rfl
theorem by73 : bytesT Try.prog 73 = some 56 := by kernel_rfl
theorem ze73 : zeroT Try.prog 73 = some (T.agg [T.sc (.int .i64 0), T.sc (.string (⟨#[]⟩ : ByteArray)), T.sc (.string (⟨#[]⟩ : ByteArray)), T.sc (.string (⟨#[]⟩ : ByteArray))]) := by kernel_rfl
theorem fs73 : fieldsT Try.prog 73 = some [(0, 1), (1, 1), (2, 1), (3, 1)] := by kernel_rfl
theorem sz80 : szT Try.prog 80 = some 2 := by kernel_rfl
theorem ag80 : aggT Try.prog 80 = some true := by kernel_rfl
theorem by80 : bytesT Try.prog 80 = some 32 := by kernel_rfl
theorem ze80 : zeroT Try.prog 80 = some (T.agg [T.sc (.string (⟨#[]⟩ : ByteArray)), T.sc (.string (⟨#[]⟩ : ByteArray))]) := by kernel_rfl
theorem fs80 : fieldsT Try.prog 80 = some [(0, 1), (1, 1)] := by kernel_rfl
theorem sz81 : szT Try.prog 81 = some 1 := by kernel_rfl
theorem ag81 : aggT Try.prog 81 = some false := by kernel_rfl
theorem by81 : bytesT Try.prog 81 = some 8 := by kernel_rfl
theorem sz89 : szT Try.prog 89 = some 1 := by kernel_rfl
theorem ag89 : aggT Try.prog 89 = some false := by kernel_rfl
theorem by89 : bytesT Try.prog 89 = some 24 := by kernel_rfl
theorem ze89 : zeroT Try.prog 89 = some (T.nil) := by kernel_rfl
theorem el89 : elemT Try.prog 89 = some 9 := by kernel_rfl
theorem sz104 : szT Try.prog 104 = some 2 := by kernel_rfl
theorem ag104 : aggT Try.prog 104 = some true := by kernel_rfl
theorem by104 : bytesT Try.prog 104 = some 24 := by kernel_rfl
theorem ze104 : zeroT Try.prog 104 = some (T.agg [T.sc (.int .i64 0), T.sc (.string (⟨#[]⟩ : ByteArray))]) := by kernel_rfl
theorem fs104 : fieldsT Try.prog 104 = some [(0, 1), (1, 1)] := by kernel_rfl
theorem sz106 : szT Try.prog 106 = some 2 := by kernel_rfl
theorem ag106 : aggT Try.prog 106 = some true := by kernel_rfl
theorem by106 : bytesT Try.prog 106 = some 32 := by kernel_rfl
theorem ze106 : zeroT Try.prog 106 = some (T.agg [T.sc (.string (⟨#[]⟩ : ByteArray)), T.sc (.string (⟨#[]⟩ : ByteArray))]) := by kernel_rfl
theorem fs106 : fieldsT Try.prog 106 = some [(0, 1), (1, 1)] := by kernel_rfl
theorem sz108 : szT Try.prog 108 = some 4 := by kernel_rfl
theorem ag108 : aggT Try.prog 108 = some true := by kernel_rfl
theorem by108 : bytesT Try.prog 108 = some 56 := by kernel_rfl
theorem ze108 : zeroT Try.prog 108 = some (T.agg [T.sc (.int .i64 0), T.sc (.string (⟨#[]⟩ : ByteArray)), T.sc (.string (⟨#[]⟩ : ByteArray)), T.sc (.string (⟨#[]⟩ : ByteArray))]) := by kernel_rfl
theorem fs108 : fieldsT Try.prog 108 = some [(0, 1), (1, 1), (2, 1), (3, 1)] := by kernel_rfl
theorem sz120 : szT Try.prog 120 = some 2 := by kernel_rfl
theorem ag120 : aggT Try.prog 120 = some true := by kernel_rfl
theorem by120 : bytesT Try.prog 120 = some 32 := by kernel_rfl
theorem ze120 : zeroT Try.prog 120 = some (T.agg [T.nil, T.sc (.int .i64 0)]) := by kernel_rfl
theorem fs120 : fieldsT Try.prog 120 = some [(0, 1), (1, 1)] := by kernel_rfl
theorem sz128 : szT Try.prog 128 = some 1 := by kernel_rfl
theorem ag128 : aggT Try.prog 128 = some false := by kernel_rfl
theorem by128 : bytesT Try.prog 128 = some 24 := by kernel_rfl
theorem ze128 : zeroT Try.prog 128 = some (T.nil) := by kernel_rfl
theorem el128 : elemT Try.prog 128 = some 104 := by kernel_rfl
theorem sz136 : szT Try.prog 136 = some 3 := by kernel_rfl
theorem ag136 : aggT Try.prog 136 = some true := by kernel_rfl
theorem by136 : bytesT Try.prog 136 = some 32 := by kernel_rfl
theorem ze136 : zeroT Try.prog 136 = some (T.agg [T.sc (.int .i64 0), T.sc (.int .i64 0), T.sc (.string (⟨#[]⟩ : ByteArray))]) := by kernel_rfl
theorem fs136 : fieldsT Try.prog 136 = some [(0, 1), (1, 1), (2, 1)] := by kernel_rfl
theorem sz141 : szT Try.prog 141 = some 0 := by kernel_rfl
theorem ag141 : aggT Try.prog 141 = some true := by kernel_rfl
theorem by141 : bytesT Try.prog 141 = some 0 := by kernel_rfl
theorem ze141 : zeroT Try.prog 141 = some (T.agg []) := by kernel_rfl
theorem fs141 : fieldsT Try.prog 141 = some [] := by kernel_rfl
theorem sz143 : szT Try.prog 143 = some 1 := by kernel_rfl
theorem ag143 : aggT Try.prog 143 = some false := by kernel_rfl
theorem by143 : bytesT Try.prog 143 = some 4 := by kernel_rfl
theorem ze143 : zeroT Try.prog 143 = some (T.sc (.int .u32 0)) := by kernel_rfl
theorem sz145 : szT Try.prog 145 = some 1 := by kernel_rfl
theorem ag145 : aggT Try.prog 145 = some false := by kernel_rfl
theorem by145 : bytesT Try.prog 145 = some 8 := by kernel_rfl
theorem ze145 : zeroT Try.prog 145 = some (T.sc (.int .u64 0)) := by kernel_rfl
theorem ck2 : cellKs Try.prog 8 2 = some [none] := by kernel_rfl
theorem ck3 : cellKs Try.prog 8 3 = some [none] := by kernel_rfl
theorem ck4 : cellKs Try.prog 8 4 = some [none] := by kernel_rfl
theorem ck9 : cellKs Try.prog 8 9 = some [none] := by kernel_rfl
theorem ck28 : cellKs Try.prog 8 28 = some [some 2] := by kernel_rfl
theorem ck29 : cellKs Try.prog 8 29 = some [some 4] := by kernel_rfl
theorem ck31 : cellKs Try.prog 8 31 = some [some 2, some 2, some 4] := by kernel_rfl
theorem ck38 : cellKs Try.prog 8 38 = some [some 1] := by kernel_rfl
theorem ck40 : cellKs Try.prog 8 40 = some [some 1] := by kernel_rfl
theorem ck58 : cellKs Try.prog 8 58 = some [some 3] := by kernel_rfl
theorem ck60 : cellKs Try.prog 8 60 = some [none, none, some 3] := by kernel_rfl
theorem ck73 : cellKs Try.prog 8 73 = some [none, none, none, none] := by kernel_rfl
theorem ck80 : cellKs Try.prog 8 80 = some [none, none] := by kernel_rfl
theorem ck81 : cellKs Try.prog 8 81 = some [none] := by kernel_rfl
theorem ck104 : cellKs Try.prog 8 104 = some [none, none] := by kernel_rfl
theorem ck128 : cellKs Try.prog 8 128 = some [some 2] := by kernel_rfl
theorem ck136 : cellKs Try.prog 8 136 = some [none, none, none] := by kernel_rfl
theorem ck143 : cellKs Try.prog 8 143 = some [none] := by kernel_rfl
theorem ck145 : cellKs Try.prog 8 145 = some [none] := by kernel_rfl
theorem eq80 : eqT Try.prog 80 = some [(0, 9), (1, 9)] := by kernel_rfl
theorem ft25_0 : fieldT Try.prog 25 0 = some (0, 22) := by kernel_rfl
theorem ft25_1 : fieldT Try.prog 25 1 = some (1, 22) := by kernel_rfl
theorem ft25_2 : fieldT Try.prog 25 2 = some (2, 23) := by kernel_rfl
theorem ft31_0 : fieldT Try.prog 31 0 = some (0, 28) := by kernel_rfl
theorem ft31_1 : fieldT Try.prog 31 1 = some (1, 28) := by kernel_rfl
theorem ft31_2 : fieldT Try.prog 31 2 = some (2, 29) := by kernel_rfl
theorem ft60_0 : fieldT Try.prog 60 0 = some (0, 2) := by kernel_rfl
theorem ft60_1 : fieldT Try.prog 60 1 = some (1, 2) := by kernel_rfl
theorem ft60_2 : fieldT Try.prog 60 2 = some (2, 58) := by kernel_rfl
theorem ft73_0 : fieldT Try.prog 73 0 = some (0, 2) := by kernel_rfl
theorem ft73_1 : fieldT Try.prog 73 1 = some (1, 9) := by kernel_rfl
theorem ft73_2 : fieldT Try.prog 73 2 = some (2, 9) := by kernel_rfl
theorem ft73_3 : fieldT Try.prog 73 3 = some (3, 9) := by kernel_rfl
theorem ft80_0 : fieldT Try.prog 80 0 = some (0, 9) := by kernel_rfl
theorem ft80_1 : fieldT Try.prog 80 1 = some (1, 9) := by kernel_rfl
theorem ft104_0 : fieldT Try.prog 104 0 = some (0, 2) := by kernel_rfl
theorem ft104_1 : fieldT Try.prog 104 1 = some (1, 9) := by kernel_rfl
theorem ft106_0 : fieldT Try.prog 106 0 = some (0, 9) := by kernel_rfl
theorem ft106_1 : fieldT Try.prog 106 1 = some (1, 9) := by kernel_rfl
theorem ft108_0 : fieldT Try.prog 108 0 = some (0, 2) := by kernel_rfl
theorem ft108_1 : fieldT Try.prog 108 1 = some (1, 9) := by kernel_rfl
theorem ft108_2 : fieldT Try.prog 108 2 = some (2, 9) := by kernel_rfl
theorem ft108_3 : fieldT Try.prog 108 3 = some (3, 9) := by kernel_rfl
theorem ft120_0 : fieldT Try.prog 120 0 = some (0, 38) := by kernel_rfl
theorem ft120_1 : fieldT Try.prog 120 1 = some (1, 3) := by kernel_rfl
theorem ft136_0 : fieldT Try.prog 136 0 = some (0, 2) := by kernel_rfl
theorem ft136_1 : fieldT Try.prog 136 1 = some (1, 2) := by kernel_rfl
theorem ft136_2 : fieldT Try.prog 136 2 = some (2, 9) := by kernel_rfl
def c5 : FCert := ⟨[], true, [(12, [(3, 0), (8, 0), (9, 0), (10, 0), (11, 0)])], []⟩
def c6 : FCert := ⟨[], true, [(22, [(0, 0), (4, 0), (5, 0), (13, 0), (14, 0), (15, 0), (19, 0)]), (26, [(0, 0), (4, 0), (5, 0), (13, 0), (14, 0), (15, 0), (19, 0), (20, 0), (21, 0)])], []⟩
set_option maxRecDepth 100000
def P0 : FuncId → Option (List T → List Ob → Option (T × List Ob)) := fun f => if f = 132 then some (cmpD) else if f = 121 then some (insD 2 32) else if f = 100 then some (delD 2) else if f = 103 then some (insD 4 56) else none
def f19 (k : Nat) (a0_0 : List Int) : Option (Bool) := some (decide (1048576 < (a0_0.length : Int)))
def f54 (k : Nat) (a0_0 : List Int) : Option ((List Int) × Int) := some (a0_0, 0)
def f102 (k : Nat) (o0_0 : List Int) (o0_1 : Int) : Option (Int × Int) := (if (o0_0.length : Int) ≤ o0_1 then some (0, o0_1) else (if 0 ≤ (IntKind.i64.wrap ((IntKind.i64.wrap (o0_1 + 1)) - 1)) then (if (IntKind.i64.wrap ((IntKind.i64.wrap (o0_1 + 1)) - 1)) < (o0_0.length : Int) then some ((IntKind.i64.wrap (at' o0_0 (IntKind.i64.wrap ((IntKind.i64.wrap (o0_1 + 1)) - 1)))), (IntKind.i64.wrap (o0_1 + 1))) else none) else none))
def f63 (k : Nat) (a1_0 : Int) (o0_0 : List Int) (o0_1 : Int) : Option (Int × Int) := (if a1_0 ≤ 1 then some (0, o0_1) else (if a1_0 ≤ 256 then ((f102 k o0_0 o0_1).bind fun t1 => (if a1_0 ≠ 0 then some ((t1.1.tmod a1_0), t1.2) else none)) else ((f102 k o0_0 o0_1).bind fun t2 => ((f102 k o0_0 t2.2).bind fun t3 => (if a1_0 ≠ 0 then some (((IntKind.i64.wrap ((IntKind.i64.wrap (t2.1 * 256)) + t3.1)).tmod a1_0), t3.2) else none)))))
def f95 (k : Nat) (a1_0 : Int) (a2_0 : Int) (o0_0 : List Int) (o0_1 : Int) : Option (Int × Int) := (if a1_0 ≠ 0 then (if a2_0 < (IntKind.i64.wrap (1 + (IntKind.i64.wrap ((o0_0.length : Int).tdiv a1_0)))) then ((f63 k a2_0 o0_0 o0_1).bind fun t1 => some ((IntKind.i64.wrap (1 + t1.1)), t1.2)) else ((f63 k (IntKind.i64.wrap (1 + (IntKind.i64.wrap ((o0_0.length : Int).tdiv a1_0)))) o0_0 o0_1).bind fun t2 => some ((IntKind.i64.wrap (1 + t2.1)), t2.2))) else none)
def f56 (k : Nat) (a1_0 : Int) (o0_0 : List Int) (o0_1 : Int) : Option (Bool × Int) := ((f63 k a1_0 o0_0 o0_1).bind fun t1 => some (decide (t1.1 = (IntKind.i64.wrap (a1_0 - 1))), t1.2))
def f84 (k : Nat) (a0_0 : ByteArray) : Option (Bool) := (if 1 ≤ (a0_0.size : Int) then some (decide ((a0_0.size : Int) ≤ 100)) else some false)
def f43.l5 : Nat → (List S80) → Int → Int → Option (Bool)
  | 0, _, _, _ => none
  | k + 1, x0, x3, x4 => (if x4 < (x0.length : Int) then (if 0 ≤ x4 then ((f84 k ((at' x0 x4).f0)).bind fun t1 => (if t1 = true then (if 0 < x4 then (if 0 ≤ (IntKind.i64.wrap (x4 - 1)) then (if (IntKind.i64.wrap (x4 - 1)) < (x0.length : Int) then (if (strLt ((at' x0 x4).f0) ((at' x0 (IntKind.i64.wrap (x4 - 1))).f0) || strEq ((at' x0 x4).f0) ((at' x0 (IntKind.i64.wrap (x4 - 1))).f0)) = true then some false else (f43.l5 k x0 (IntKind.i64.wrap (x3 + (((at' x0 x4).f1).size : Int))) (IntKind.i64.wrap (x4 + 1)))) else none) else none) else (f43.l5 k x0 (IntKind.i64.wrap (x3 + (((at' x0 x4).f1).size : Int))) (IntKind.i64.wrap (x4 + 1)))) else some false)) else none) else some (decide (x3 ≤ 200000)))
def f43 (k : Nat) (a0_0 : List S80) : Option (Bool) := (if 60 < (a0_0.length : Int) then some false else (f43.l5 k a0_0 0 0))
def f52.l2 : Nat → (List S80) → ByteArray → Int → Option (Int)
  | 0, _, _, _ => none
  | k + 1, x0, x1, x5 => (if x5 < (x0.length : Int) then (if 0 ≤ x5 then (if strEq ((at' x0 x5).f0) x1 = true then some x5 else (f52.l2 k x0 x1 (IntKind.i64.wrap (x5 + 1)))) else none) else some (-1))
def f52 (k : Nat) (a0_0 : List S80) (a1_0 : ByteArray) : Option (Int) := (f52.l2 k a0_0 a1_0 0)
def f85.l4 : Nat → (List S80) → (List S80) → ByteArray → ByteArray → Bool → Int → Option ((List S80))
  | 0, _, _, _, _, _, _ => none
  | k + 1, q0, x0, x1, x2, x8, x9 => (if x9 < (x0.length : Int) then (if x8 = true then (if 0 ≤ x9 then (if strEq ((at' x0 x9).f0) x1 = true then (f85.l4 k q0 x0 x1 x2 x8 (IntKind.i64.wrap (x9 + 1))) else (if (q0.length + 1) * 32 ≤ 70368744177664 then (if q0.length + 1 ≤ 70368744177664 then (f85.l4 k (q0 ++ ([(⟨(at' x0 x9).f0, (at' x0 x9).f1⟩ : S80)] : List S80)) x0 x1 x2 x8 (IntKind.i64.wrap (x9 + 1))) else none) else none)) else none) else (if 0 ≤ x9 then (if strLt ((at' x0 x9).f0) x1 = true then (if strEq ((at' x0 x9).f0) x1 = true then (f85.l4 k q0 x0 x1 x2 x8 (IntKind.i64.wrap (x9 + 1))) else (if (q0.length + 1) * 32 ≤ 70368744177664 then (if q0.length + 1 ≤ 70368744177664 then (f85.l4 k (q0 ++ ([(⟨(at' x0 x9).f0, (at' x0 x9).f1⟩ : S80)] : List S80)) x0 x1 x2 x8 (IntKind.i64.wrap (x9 + 1))) else none) else none)) else (if (q0.length + 1) * 32 ≤ 70368744177664 then (if q0.length + 1 ≤ 70368744177664 then (if strEq ((at' x0 x9).f0) x1 = true then (f85.l4 k (q0 ++ ([(⟨x1, x2⟩ : S80)] : List S80)) x0 x1 x2 true (IntKind.i64.wrap (x9 + 1))) else (if (q0.length + 2) * 32 ≤ 70368744177664 then (if q0.length + 2 ≤ 70368744177664 then (f85.l4 k ((q0 ++ ([(⟨x1, x2⟩ : S80)] : List S80)) ++ ([(⟨(at' x0 x9).f0, (at' x0 x9).f1⟩ : S80)] : List S80)) x0 x1 x2 true (IntKind.i64.wrap (x9 + 1))) else none) else none)) else none) else none)) else none)) else (if x8 = true then some q0 else (if (q0.length + 1) * 32 ≤ 70368744177664 then (if q0.length + 1 ≤ 70368744177664 then some (q0 ++ ([(⟨x1, x2⟩ : S80)] : List S80)) else none) else none)))
def f85 (k : Nat) (a0_0 : List S80) (a1_0 : ByteArray) (a2_0 : ByteArray) : Option ((List S80)) := (f85.l4 k ([] : List S80) a0_0 a1_0 a2_0 false 0)
def f86.l3 : Nat → (List S80) → (List S80) → ByteArray → Int → Option ((List S80))
  | 0, _, _, _, _ => none
  | k + 1, q0, x0, x1, x6 => (if x6 < (x0.length : Int) then (if 0 ≤ x6 then (if strEq ((at' x0 x6).f0) x1 = true then (f86.l3 k q0 x0 x1 (IntKind.i64.wrap (x6 + 1))) else (if (q0.length + 1) * 32 ≤ 70368744177664 then (if q0.length + 1 ≤ 70368744177664 then (f86.l3 k (q0 ++ ([(⟨(at' x0 x6).f0, (at' x0 x6).f1⟩ : S80)] : List S80)) x0 x1 (IntKind.i64.wrap (x6 + 1))) else none) else none)) else none) else some q0)
def f86 (k : Nat) (a0_0 : List S80) (a1_0 : ByteArray) : Option ((List S80)) := (f86.l3 k ([] : List S80) a0_0 a1_0 0)
def f44 (k : Nat) (a0_0 : List S80) (a1_0 : Int) (a1_1 : ByteArray) (a1_2 : ByteArray) (a1_3 : ByteArray) : Option (Bool × (List S80)) := ((f52 k a0_0 a1_1).bind fun t1 => (if a1_0 = 1 then (if 0 ≤ t1 then (if t1 < (a0_0.length : Int) then (if ((at' a0_0 t1).f1).size + a1_3.size ≤ 9223372036854775807 then ((f85 k a0_0 a1_1 ((at' a0_0 t1).f1 ++ a1_3)).bind fun t2 => some (true, t2)) else none) else none) else ((f85 k a0_0 a1_1 a1_3).bind fun t3 => some (true, t3))) else (if t1 < 0 then (if a0_0.length * 32 ≤ 70368744177664 then (if a0_0.length ≤ 70368744177664 then some (false, a0_0) else none) else none) else ((f86 k a0_0 a1_1).bind fun t4 => (if a1_0 = 2 then (if 0 ≤ t1 then (if t1 < (a0_0.length : Int) then ((f85 k t4 a1_2 ((at' a0_0 t1).f1)).bind fun t5 => some (true, t5)) else none) else none) else some (true, t4))))))
def f58 (k : Nat) (a0_0 : Int) (a1_0 : Int) (a2_0 : Int) : Option (Bool) := (if a1_0 ≤ a0_0 then some (decide (a0_0 ≤ a2_0)) else some false)
def f45 (k : Nat) (a0_0 : Int) (a0_1 : ByteArray) (a0_2 : ByteArray) (a0_3 : ByteArray) : Option (Bool) := ((f58 k a0_0 1 3).bind fun t1 => (if t1 = true then ((f84 k a0_1).bind fun t2 => (if t2 = true then (if a0_0 = 2 then ((f84 k a0_2).bind fun t3 => (if t3 = true then some (strEq a0_3 (⟨#[]⟩ : ByteArray)) else some false)) else (if strEq a0_2 (⟨#[]⟩ : ByteArray) = true then (if a0_0 = 1 then some true else some (strEq a0_3 (⟨#[]⟩ : ByteArray))) else some false)) else some false)) else some false))
def f46.l4 : Nat → (List S80) → (List S80) → Int → Option (Bool)
  | 0, _, _, _ => none
  | k + 1, x0, x1, x5 => (if x5 < (x0.length : Int) then (if 0 ≤ x5 then (if x5 < (x1.length : Int) then (if (strEq ((at' x0 x5).f0) ((at' x1 x5).f0) && strEq ((at' x0 x5).f1) ((at' x1 x5).f1)) = true then (f46.l4 k x0 x1 (IntKind.i64.wrap (x5 + 1))) else some false) else none) else none) else some true)
def f46 (k : Nat) (a0_0 : List S80) (a1_0 : List S80) : Option (Bool) := (if (a0_0.length : Int) = (a1_0.length : Int) then (f46.l4 k a0_0 a1_0 0) else some false)
def f13.l5 : Nat → (List S80) → Int → (List S80) → (List S80) → (List S73) → Option (Bool)
  | 0, _, _, _, _, _ => none
  | k + 1, x3, x4, b0_0, b0_1, b0_2 => (if x4 < (b0_2.length : Int) then (if 0 ≤ x4 then ((f44 k x3 ((at' b0_2 x4).f0) ((at' b0_2 x4).f1) ((at' b0_2 x4).f2) ((at' b0_2 x4).f3)).bind fun t3 => (if t3.1 = true then ((f45 k ((at' b0_2 x4).f0) ((at' b0_2 x4).f1) ((at' b0_2 x4).f2) ((at' b0_2 x4).f3)).bind fun t4 => (if t4 = true then ((f43 k t3.2).bind fun t5 => (if t5 = true then (f13.l5 k t3.2 (IntKind.i64.wrap (x4 + 1)) b0_0 b0_1 b0_2) else some false)) else some false)) else some false)) else none) else ((f46 k x3 b0_0).bind fun t6 => some t6))
def f13 (k : Nat) (a0_0 : List S80) (a0_1 : List S80) (a0_2 : List S73) : Option (Bool) := ((f43 k a0_0).bind fun t1 => (if t1 = true then ((f43 k a0_1).bind fun t2 => (if t2 = true then (if 200 < (a0_2.length : Int) then some false else (f13.l5 k a0_1 0 a0_0 a0_1 a0_2)) else some false)) else some false))
def f28 (k : Nat) (a0_0 : List S80) (a0_1 : List S80) (a0_2 : List S73) : Option ((List S80) × (List S80) × (List S73)) := ((f13 k a0_0 a0_1 a0_2).bind fun t1 => (if t1 = true then (if a0_0.length * 32 ≤ 70368744177664 then (if a0_0.length ≤ 70368744177664 then some (a0_0, a0_0, ([] : List S73)) else none) else none) else some (([] : List S80), ([] : List S80), ([] : List S73))))
def f64 (k : Nat) (o0_0 : List Int) (o0_1 : Int) : Option (ByteArray × Int) := ((f63 k 8 o0_0 o0_1).bind fun t1 => (if 0 ≤ t1.1 then (if t1.1 < 8 then some ((at' ([(⟨#[]⟩ : ByteArray), (⟨#[97]⟩ : ByteArray), (⟨#[98]⟩ : ByteArray), (⟨#[97, 98, 99]⟩ : ByteArray), (⟨#[108, 97, 121, 101, 114]⟩ : ByteArray), (⟨#[99, 111, 110, 102, 105, 103]⟩ : ByteArray), (⟨#[122, 122, 57]⟩ : ByteArray), (⟨#[48]⟩ : ByteArray)] : List ByteArray) t1.1), t1.2) else none) else none))
def f97 (k : Nat) (o0_0 : List Int) (o0_1 : Int) : Option (Int × ByteArray × ByteArray × ByteArray × Int) := ((f63 k 4 o0_0 o0_1).bind fun t1 => (if 0 ≤ t1.1 then (if t1.1 < 4 then ((f63 k 5 o0_0 t1.2).bind fun t2 => (if t2.1 = 0 then ((f63 k 3 o0_0 t2.2).bind fun t3 => (if 0 ≤ t3.1 then (if t3.1 < 3 then some (2, (at' ([(⟨#[108, 111, 103]⟩ : ByteArray), (⟨#[118, 111, 116, 101]⟩ : ByteArray), (⟨#[118, 111, 116, 101, 46, 110, 101, 119]⟩ : ByteArray), (⟨#[98]⟩ : ByteArray)] : List ByteArray) t1.1), (at' ([(⟨#[108, 111, 103]⟩ : ByteArray), (⟨#[118, 111, 116, 101]⟩ : ByteArray), (⟨#[99]⟩ : ByteArray)] : List ByteArray) t3.1), (⟨#[]⟩ : ByteArray), t3.2) else none) else none)) else (if t2.1 = 1 then some (3, (at' ([(⟨#[108, 111, 103]⟩ : ByteArray), (⟨#[118, 111, 116, 101]⟩ : ByteArray), (⟨#[118, 111, 116, 101, 46, 110, 101, 119]⟩ : ByteArray), (⟨#[98]⟩ : ByteArray)] : List ByteArray) t1.1), (⟨#[]⟩ : ByteArray), (⟨#[]⟩ : ByteArray), t2.2) else ((f64 k o0_0 t2.2).bind fun t4 => some (1, (at' ([(⟨#[108, 111, 103]⟩ : ByteArray), (⟨#[118, 111, 116, 101]⟩ : ByteArray), (⟨#[118, 111, 116, 101, 46, 110, 101, 119]⟩ : ByteArray), (⟨#[98]⟩ : ByteArray)] : List ByteArray) t1.1), (⟨#[]⟩ : ByteArray), t4.1, t4.2))))) else none) else none))
def f66 (k : Nat) (a0_0 : List S80) (a0_1 : List S80) (a0_2 : List S73) : Option ((List S80) × (List S80) × (List S73)) := (if a0_0.length * 32 ≤ 70368744177664 then (if a0_0.length ≤ 70368744177664 then (if a0_1.length * 32 ≤ 70368744177664 then (if a0_1.length ≤ 70368744177664 then (if a0_2.length * 56 ≤ 70368744177664 then (if a0_2.length ≤ 70368744177664 then some (a0_0, a0_1, a0_2) else none) else none) else none) else none) else none) else none)
def f65 (k : Nat) (a0_0 : List S80) (a0_1 : List S80) (a0_2 : List S73) (a1_0 : Int) (a1_1 : ByteArray) (a1_2 : ByteArray) (a1_3 : ByteArray) : Option (Int × (List S80) × (List S80) × (List S73)) := ((f45 k a1_0 a1_1 a1_2 a1_3).bind fun t1 => (if t1 = true then ((f44 k a0_0 a1_0 a1_1 a1_2 a1_3).bind fun t2 => (if t2.1 = true then (if (a0_2.length : Int) = 200 then ((f66 k a0_0 a0_1 a0_2).bind fun t3 => some (4, t3.1, t3.2.1, t3.2.2)) else ((f43 k t2.2).bind fun t4 => (if t4 = true then ((f66 k a0_0 a0_1 a0_2).bind fun t5 => (if (t5.2.2.length + 1) * 56 ≤ 70368744177664 then (if t5.2.2.length + 1 ≤ 70368744177664 then some (0, t2.2, t5.2.1, (t5.2.2 ++ ([(⟨a1_0, a1_1, a1_2, a1_3⟩ : S73)] : List S73))) else none) else none)) else ((f66 k a0_0 a0_1 a0_2).bind fun t6 => some (4, t6.1, t6.2.1, t6.2.2))))) else ((f66 k a0_0 a0_1 a0_2).bind fun t7 => some (3, t7.1, t7.2.1, t7.2.2)))) else ((f66 k a0_0 a0_1 a0_2).bind fun t8 => some (2, t8.1, t8.2.1, t8.2.2))))
def f96 (k : Nat) (a0_0 : List S80) (a0_1 : List S80) (a0_2 : List S73) (a1_0 : Int) (a1_1 : ByteArray) (a1_2 : ByteArray) (a1_3 : ByteArray) : Option (Int × (List S80) × (List S80) × (List S73)) := ((f13 k a0_0 a0_1 a0_2).bind fun t1 => (if t1 = true then ((f65 k a0_0 a0_1 a0_2 a1_0 a1_1 a1_2 a1_3).bind fun t2 => some (t2.1, t2.2.1, t2.2.2.1, t2.2.2.2)) else some (1, ([] : List S80), ([] : List S80), ([] : List S73))))
mutual
def f55.l3 : Nat → Int → (List Int) → Int → Option ((List S80) × (List S80) × (List S73) × (List Int) × Int)
  | 0, _, _, _ => none
  | k + 1, x4, b0_0, b0_1 => (if 0 < x4 then ((f56 k 5 b0_0 b0_1).bind fun t2 => (if t2.1 = true then ((f28 k ([] : List S80) ([] : List S80) ([] : List S73)).bind fun t3 => (f55.l3v1 k t3.1 t3.2.1 t3.2.2 (IntKind.i64.wrap (x4 - 1)) b0_0 t2.2)) else ((f97 k b0_0 t2.2).bind fun t10 => ((f96 k ([] : List S80) ([] : List S80) ([] : List S73) t10.1 t10.2.1 t10.2.2.1 t10.2.2.2.1).bind fun t11 => (if t11.1 = 0 then (f55.l3v1 k t11.2.1 t11.2.2.1 t11.2.2.2 (IntKind.i64.wrap (x4 - 1)) b0_0 t10.2.2.2.2) else (f55.l3 k (IntKind.i64.wrap (x4 - 1)) b0_0 t10.2.2.2.2)))))) else ((f63 k 40 b0_0 b0_1).bind fun t12 => (if t12.1 = 0 then (if 1 * 32 ≤ 70368744177664 then some (([(⟨(⟨#[122, 122]⟩ : ByteArray), (⟨#[]⟩ : ByteArray)⟩ : S80)] : List S80), ([] : List S80), ([] : List S73), b0_0, t12.2) else none) else (if t12.1 = 1 then some (([] : List S80), ([] : List S80), ([] : List S73), b0_0, t12.2) else (if t12.1 = 2 then ((f63 k 9 b0_0 t12.2).bind fun t13 => (if 0 ≤ (IntKind.i64.wrap (200000 - t13.1)) then (if (IntKind.i64.wrap (200000 - t13.1)) ≤ (IntKind.i64.wrap (200000 - t13.1)) then (if (IntKind.i64.wrap (200000 - t13.1)) * 1 ≤ 70368744177664 then (if (IntKind.i64.wrap (200000 - t13.1)) ≤ 70368744177664 then some (([(⟨(⟨#[98, 105, 103]⟩ : ByteArray), (strOf (List.replicate (IntKind.i64.wrap (200000 - t13.1)).toNat 0))⟩ : S80)] : List S80), ([(⟨(⟨#[98, 105, 103]⟩ : ByteArray), (strOf (List.replicate (IntKind.i64.wrap (200000 - t13.1)).toNat 0))⟩ : S80)] : List S80), ([] : List S73), b0_0, t13.2) else none) else none) else none) else none)) else some (([] : List S80), ([] : List S80), ([] : List S73), b0_0, t12.2))))))
def f55.l3v1 : Nat → (List S80) → (List S80) → (List S73) → Int → (List Int) → Int → Option ((List S80) × (List S80) × (List S73) × (List Int) × Int)
  | 0, _, _, _, _, _, _ => none
  | k + 1, q3, q4, q5, x4, b0_0, b0_1 => (if 0 < x4 then ((f56 k 5 b0_0 b0_1).bind fun t4 => (if t4.1 = true then ((f28 k q3 q4 q5).bind fun t5 => (f55.l3v1 k t5.1 t5.2.1 t5.2.2 (IntKind.i64.wrap (x4 - 1)) b0_0 t4.2)) else ((f97 k b0_0 t4.2).bind fun t6 => ((f96 k q3 q4 q5 t6.1 t6.2.1 t6.2.2.1 t6.2.2.2.1).bind fun t7 => (if t7.1 = 0 then (f55.l3v1 k t7.2.1 t7.2.2.1 t7.2.2.2 (IntKind.i64.wrap (x4 - 1)) b0_0 t6.2.2.2.2) else (f55.l3v1 k q3 q4 q5 (IntKind.i64.wrap (x4 - 1)) b0_0 t6.2.2.2.2)))))) else ((f63 k 40 b0_0 b0_1).bind fun t8 => (if t8.1 = 0 then (if (q3.length + 1) * 32 ≤ 70368744177664 then (if q3.length + 1 ≤ 70368744177664 then some ((q3 ++ ([(⟨(⟨#[122, 122]⟩ : ByteArray), (⟨#[]⟩ : ByteArray)⟩ : S80)] : List S80)), q4, q5, b0_0, t8.2) else none) else none) else (if t8.1 = 1 then (if 0 < ((q5.length : Nat) : Int) then (if 1 ≤ ((q5.length : Nat) : Int) then some (q3, q4, ((q5.drop 1).take (q5.length - 1)), b0_0, t8.2) else none) else some (q3, q4, q5, b0_0, t8.2)) else (if t8.1 = 2 then ((f63 k 9 b0_0 t8.2).bind fun t9 => (if 0 ≤ (IntKind.i64.wrap (200000 - t9.1)) then (if (IntKind.i64.wrap (200000 - t9.1)) ≤ (IntKind.i64.wrap (200000 - t9.1)) then (if (IntKind.i64.wrap (200000 - t9.1)) * 1 ≤ 70368744177664 then (if (IntKind.i64.wrap (200000 - t9.1)) ≤ 70368744177664 then some (([(⟨(⟨#[98, 105, 103]⟩ : ByteArray), (strOf (List.replicate (IntKind.i64.wrap (200000 - t9.1)).toNat 0))⟩ : S80)] : List S80), ([(⟨(⟨#[98, 105, 103]⟩ : ByteArray), (strOf (List.replicate (IntKind.i64.wrap (200000 - t9.1)).toNat 0))⟩ : S80)] : List S80), ([] : List S73), b0_0, t9.2) else none) else none) else none) else none)) else some (q3, q4, q5, b0_0, t8.2))))))
end
def f55 (k : Nat) (o0_0 : List Int) (o0_1 : Int) : Option ((List S80) × (List S80) × (List S73) × (List Int) × Int) := ((f95 k 3 10 o0_0 o0_1).bind fun t1 => (f55.l3 k t1.1 o0_0 t1.2))
def f117.l3 : Nat → Int → Int → (List Int) → Int → Option (Int × (List Int) × Int)
  | 0, _, _, _, _ => none
  | k + 1, x3, x4, b0_0, b0_1 => (if x4 < 8 then ((f102 k b0_0 b0_1).bind fun t1 => (f117.l3 k (orI .u64 (shlI .u64 x3 8) (IntKind.u64.wrap t1.1)) (IntKind.i64.wrap (x4 + 1)) b0_0 t1.2)) else some (x3, b0_0, b0_1))
def f117 (k : Nat) (o0_0 : List Int) (o0_1 : Int) : Option (Int × (List Int) × Int) := (f117.l3 k 0 0 o0_0 o0_1)
def f98 (k : Nat) (a1_0 : Int) (a2_0 : Int) (o0_0 : List Int) (o0_1 : Int) : Option (Int × (List Int) × Int) := ((f63 k 8 o0_0 o0_1).bind fun t1 => (if t1.1 = 0 then some (a1_0, o0_0, t1.2) else (if t1.1 = 1 then some (a2_0, o0_0, t1.2) else (if a2_0 < a1_0 then some (a1_0, o0_0, t1.2) else ((f117 k o0_0 t1.2).bind fun t2 => (if (IntKind.u64.wrap (IntKind.i64.wrap ((IntKind.i64.wrap (a2_0 - a1_0)) + 1))) ≠ 0 then some ((IntKind.i64.wrap (a1_0 + (IntKind.i64.wrap ((shrI .u64 t2.1 1).tmod (IntKind.u64.wrap (IntKind.i64.wrap ((IntKind.i64.wrap (a2_0 - a1_0)) + 1))))))), t2.2.1, t2.2.2) else none))))))
def f57 (k : Nat) (a1_0 : Int) (a2_0 : Int) (o0_0 : List Int) (o0_1 : Int) : Option (Int × (List Int) × Int) := ((f56 k 24 o0_0 o0_1).bind fun t1 => (if t1.1 = true then ((f63 k 4 o0_0 t1.2).bind fun t2 => (if 0 ≤ t2.1 then (if t2.1 < 4 then some ((at' ([(IntKind.i64.wrap (a1_0 - 1)), (IntKind.i64.wrap (a2_0 + 1)), (-9223372036854775808), 9223372036854775807] : List Int) t2.1), o0_0, t2.2) else none) else none)) else ((f98 k a1_0 a2_0 o0_0 t1.2).bind fun t3 => some (t3.1, t3.2.1, t3.2.2))))
def f20.l5 : Nat → (List Int) → Int → (List Int) → Int → (List S80) → (List S80) → (List S73) → Option ((List S80) × (List S80) × (List S73) × (List Int) × Int)
  | 0, _, _, _, _, _, _, _ => none
  | k + 1, q3, x8, b1_0, b1_1, b2_0, b2_1, b2_2 => (if x8 < (b2_2.length : Int) then ((f56 k 2 b1_0 b1_1).bind fun t3 => (if t3.1 = true then (if (q3.length + 1) * 8 ≤ 70368744177664 then (if q3.length + 1 ≤ 70368744177664 then (f20.l5 k (q3 ++ ([x8] : List Int)) (IntKind.i64.wrap (x8 + 1)) b1_0 t3.2 b2_0 b2_1 b2_2) else none) else none) else (f20.l5 k q3 (IntKind.i64.wrap (x8 + 1)) b1_0 t3.2 b2_0 b2_1 b2_2))) else ((f56 k 16 b1_0 b1_1).bind fun t4 => (if t4.1 = true then ((f57 k 0 (b2_2.length : Int) b1_0 t4.2).bind fun t5 => (if (q3.length + 1) * 8 ≤ 70368744177664 then (if q3.length + 1 ≤ 70368744177664 then ((f57 k 0 4 t5.2.1 t5.2.2).bind fun t6 => some (b2_0, b2_1, b2_2, (q3 ++ ([t5.1] : List Int)), t6.1)) else none) else none)) else ((f57 k 0 4 b1_0 t4.2).bind fun t7 => some (b2_0, b2_1, b2_2, q3, t7.1)))))
def f20 (k : Nat) (a0_0 : List Int) : Option ((List S80) × (List S80) × (List S73) × (List Int) × Int) := ((f54 k a0_0).bind fun t1 => ((f55 k t1.1 t1.2).bind fun t2 => (f20.l5 k ([] : List Int) 0 t2.2.2.2.1 t2.2.2.2.2 t2.1 t2.2.1 t2.2.2.1)))
mutual
def f21.l4 : Nat → (List Int) → Int → Int → (List S80) → (List S80) → (List S73) → Option (Bool × (List S80) × (List S80) × (List S73))
  | 0, _, _, _, _, _, _ => none
  | k + 1, x1, x2, x8, b0_0, b0_1, b0_2 => (if x8 < (x1.length : Int) then (if 0 ≤ x8 then ((f58 k (at' x1 x8) 0 (IntKind.i64.wrap ((b0_2.length : Int) - 1))).bind fun t2 => (if t2 = true then (if 0 < x8 then (if 0 ≤ (IntKind.i64.wrap (x8 - 1)) then (if (IntKind.i64.wrap (x8 - 1)) < (x1.length : Int) then (if (at' x1 x8) ≤ (at' x1 (IntKind.i64.wrap (x8 - 1))) then some (false, ([] : List S80), ([] : List S80), ([] : List S73)) else (f21.l4 k x1 x2 (IntKind.i64.wrap (x8 + 1)) b0_0 b0_1 b0_2)) else none) else none) else (f21.l4 k x1 x2 (IntKind.i64.wrap (x8 + 1)) b0_0 b0_1 b0_2)) else some (false, ([] : List S80), ([] : List S80), ([] : List S73)))) else none) else (if b0_1.length * 32 ≤ 70368744177664 then (if b0_1.length ≤ 70368744177664 then (f21.l10 k b0_1 x1 x2 0 b0_0 b0_1 b0_2) else none) else none))
def f21.l10 : Nat → (List S80) → (List Int) → Int → Int → (List S80) → (List S80) → (List S73) → Option (Bool × (List S80) × (List S80) × (List S73))
  | 0, _, _, _, _, _, _, _ => none
  | k + 1, q2, x1, x2, x10, b0_0, b0_1, b0_2 => (if x10 < (x1.length : Int) then (if 0 ≤ x10 then (if 0 ≤ (at' x1 x10) then (if (at' x1 x10) < (b0_2.length : Int) then (if x10 = (IntKind.i64.wrap ((x1.length : Int) - 1)) then (if (at' b0_2 (at' x1 x10)).f0 = 1 then (if x2 < (((at' b0_2 (at' x1 x10)).f3).size : Int) then (if 0 ≤ x2 then (if x2 ≤ ((((at' b0_2 (at' x1 x10)).f3).size : Nat) : Int) then ((f44 k q2 ((at' b0_2 (at' x1 x10)).f0) ((at' b0_2 (at' x1 x10)).f1) ((at' b0_2 (at' x1 x10)).f2) (((at' b0_2 (at' x1 x10)).f3).extract 0 x2.toNat)).bind fun t3 => (f21.l10 k t3.2 x1 x2 (IntKind.i64.wrap (x10 + 1)) b0_0 b0_1 b0_2)) else none) else none) else ((f44 k q2 ((at' b0_2 (at' x1 x10)).f0) ((at' b0_2 (at' x1 x10)).f1) ((at' b0_2 (at' x1 x10)).f2) ((at' b0_2 (at' x1 x10)).f3)).bind fun t4 => (f21.l10 k t4.2 x1 x2 (IntKind.i64.wrap (x10 + 1)) b0_0 b0_1 b0_2))) else ((f44 k q2 ((at' b0_2 (at' x1 x10)).f0) ((at' b0_2 (at' x1 x10)).f1) ((at' b0_2 (at' x1 x10)).f2) ((at' b0_2 (at' x1 x10)).f3)).bind fun t5 => (f21.l10 k t5.2 x1 x2 (IntKind.i64.wrap (x10 + 1)) b0_0 b0_1 b0_2))) else ((f44 k q2 ((at' b0_2 (at' x1 x10)).f0) ((at' b0_2 (at' x1 x10)).f1) ((at' b0_2 (at' x1 x10)).f2) ((at' b0_2 (at' x1 x10)).f3)).bind fun t6 => (f21.l10 k t6.2 x1 x2 (IntKind.i64.wrap (x10 + 1)) b0_0 b0_1 b0_2))) else none) else none) else none) else ((f43 k q2).bind fun t7 => (if t7 = true then (if q2.length * 32 ≤ 70368744177664 then (if q2.length ≤ 70368744177664 then some (true, q2, q2, ([] : List S73)) else none) else none) else some (false, ([] : List S80), ([] : List S80), ([] : List S73)))))
end
def f21 (k : Nat) (a0_0 : List S80) (a0_1 : List S80) (a0_2 : List S73) (a1_0 : List Int) (a2_0 : Int) : Option (Bool × (List S80) × (List S80) × (List S73)) := ((f13 k a0_0 a0_1 a0_2).bind fun t1 => (if t1 = true then (if a2_0 < 0 then some (false, ([] : List S80), ([] : List S80), ([] : List S73)) else (f21.l4 k a1_0 a2_0 0 a0_0 a0_1 a0_2)) else some (false, ([] : List S80), ([] : List S80), ([] : List S73))))
def f101 (k : Nat) (a0_0 : ByteArray) : Option (Bool) := (if 1 ≤ (a0_0.size : Int) then some (decide ((a0_0.size : Int) ≤ 100)) else some false)
def f62.l3 : Nat → (List S80) → Int → (List S80) → Int → Int → Option (Bool)
  | 0, _, _, _, _, _ => none
  | k + 1, x0, x3, x6, x7, x8 => (if x8 < x7 then (if 0 ≤ x8 then (if x8 < (x6.length : Int) then ((f101 k ((at' x6 x8).f0)).bind fun t1 => (if t1 = true then (if 200000 < (IntKind.i64.wrap (x3 + (((at' x6 x8).f1).size : Int))) then some false else (if 0 < x8 then (if 0 ≤ (IntKind.i64.wrap (x8 - 1)) then (if (IntKind.i64.wrap (x8 - 1)) < (x0.length : Int) then (if strLt ((at' x0 (IntKind.i64.wrap (x8 - 1))).f0) ((at' x6 x8).f0) = true then (f62.l3 k x0 (IntKind.i64.wrap (x3 + (((at' x6 x8).f1).size : Int))) x6 x7 (IntKind.i64.wrap (x8 + 1))) else some false) else none) else none) else (f62.l3 k x0 (IntKind.i64.wrap (x3 + (((at' x6 x8).f1).size : Int))) x6 x7 (IntKind.i64.wrap (x8 + 1))))) else some false)) else none) else none) else some (decide ((x0.length : Int) ≤ 60)))
def f62 (k : Nat) (a0_0 : List S80) : Option (Bool) := (f62.l3 k a0_0 0 a0_0 (a0_0.length : Int) 0)
def f89 (k : Nat) (a0_0 : Int) (a0_1 : ByteArray) (a0_2 : ByteArray) (a0_3 : ByteArray) : Option (Bool) := (if a0_0 = 1 then ((f101 k a0_1).bind fun t1 => (if t1 = true then some (strEq a0_2 (⟨#[]⟩ : ByteArray)) else some false)) else (if a0_0 = 2 then ((f101 k a0_1).bind fun t2 => (if t2 = true then ((f101 k a0_2).bind fun t3 => (if t3 = true then some (strEq a0_3 (⟨#[]⟩ : ByteArray)) else some false)) else some false)) else (if a0_0 = 3 then ((f101 k a0_1).bind fun t4 => (if t4 = true then (if strEq a0_2 (⟨#[]⟩ : ByteArray) = true then some (strEq a0_3 (⟨#[]⟩ : ByteArray)) else some false) else some false)) else some false)))
def f94 (k : Nat) (a0_0 : ByteArray) (a0_1 : ByteArray) (o0_0 : ByteArray) : Option (Bool) := some (strEq a0_0 o0_0)
def f93.l2 : Nat → (List S80) → Int → Int → ByteArray → Option (Int × ByteArray)
  | 0, _, _, _, _ => none
  | k + 1, x0, x7, x8, b0_0 => (if x8 < x7 then (if 0 ≤ x8 then (if x8 < (x0.length : Int) then ((f94 k ((at' x0 x8).f0) ((at' x0 x8).f1) b0_0).bind fun t1 => (if t1 = true then some (x8, b0_0) else (f93.l2 k x0 x7 (IntKind.i64.wrap (x8 + 1)) b0_0))) else none) else none) else some ((-1), b0_0))
def f93 (k : Nat) (a0_0 : List S80) (o0_0 : ByteArray) : Option (Int × ByteArray) := (f93.l2 k a0_0 (a0_0.length : Int) 0 o0_0)
def f53 (k : Nat) (a0_0 : List S80) (a1_0 : ByteArray) : Option (Int) := ((f93 k a0_0 a1_0).bind fun t1 => some t1.1)
def f59 (k : Nat) (a0_0 : List S80) : Option ((List S80)) := (if a0_0.length * 32 ≤ 70368744177664 then (if a0_0.length ≤ 70368744177664 then some a0_0 else none) else none)
def f132 (k : Nat) (a0_0 : ByteArray) (a1_0 : ByteArray) : Option (Int) := some (cmpS a0_0 a1_0)
def f120 (k : Nat) (a0_0 : ByteArray) (a1_0 : ByteArray) : Option (Int) := ((f132 k a0_0 a1_0).bind fun t1 => some t1)
def f119 (k : Nat) (a0_0 : ByteArray) (a0_1 : ByteArray) (a1_0 : ByteArray) : Option (Int) := ((f120 k a0_0 a1_0).bind fun t1 => some t1)
def f118.l3 : Nat → (List S80) → ByteArray → Int → Int → Int → Option (Int × Bool)
  | 0, _, _, _, _, _ => none
  | k + 1, x0, x1, x8, x9, x10 => (if x9 < x10 then (if 0 ≤ (IntKind.i64.wrap (shrI .u64 (IntKind.u64.wrap (IntKind.i64.wrap (x9 + x10))) 1)) then (if (IntKind.i64.wrap (shrI .u64 (IntKind.u64.wrap (IntKind.i64.wrap (x9 + x10))) 1)) < (x0.length : Int) then ((f119 k ((at' x0 (IntKind.i64.wrap (shrI .u64 (IntKind.u64.wrap (IntKind.i64.wrap (x9 + x10))) 1))).f0) ((at' x0 (IntKind.i64.wrap (shrI .u64 (IntKind.u64.wrap (IntKind.i64.wrap (x9 + x10))) 1))).f1) x1).bind fun t1 => (if t1 < 0 then (f118.l3 k x0 x1 x8 (IntKind.i64.wrap ((IntKind.i64.wrap (shrI .u64 (IntKind.u64.wrap (IntKind.i64.wrap (x9 + x10))) 1)) + 1)) x10) else (f118.l3 k x0 x1 x8 x9 (IntKind.i64.wrap (shrI .u64 (IntKind.u64.wrap (IntKind.i64.wrap (x9 + x10))) 1))))) else none) else none) else (if x9 < x8 then (if 0 ≤ x9 then (if x9 < (x0.length : Int) then ((f119 k ((at' x0 x9).f0) ((at' x0 x9).f1) x1).bind fun t2 => some (x9, decide (t2 = 0))) else none) else none) else some (x9, false)))
def f118 (k : Nat) (a0_0 : List S80) (a1_0 : ByteArray) : Option (Int × Bool) := (f118.l3 k a0_0 a1_0 (a0_0.length : Int) 0 (a0_0.length : Int))
def f121 (k : Nat) (a1_0 : Int) (o0 : List S80) (o1 : List S80) : Option ((List S80)) := if 0 ≤ a1_0 ∧ a1_0 ≤ (o0.length : Int) ∧ o1.length = 1 ∧ (o0.length + 1) * 32 ≤ 70368744177664 ∧ o0.length + 1 ≤ 70368744177664 then some (o0.take a1_0.toNat ++ (o1 ++ o0.drop a1_0.toNat)) else none
def f99 (k : Nat) (a0_0 : List S80) (a1_0 : ByteArray) (a1_1 : ByteArray) : Option ((List S80)) := ((f59 k a0_0).bind fun t1 => ((f118 k t1 a1_0).bind fun t2 => (if t2.2 = true then (if 0 ≤ t2.1 then (if t2.1 < ((t1.length : Nat) : Int) then some (t1.set t2.1.toNat (⟨a1_0, a1_1⟩ : S80)) else none) else none) else ((f121 k t2.1 t1 ([(⟨a1_0, a1_1⟩ : S80)] : List S80)).bind fun t3 => some t3))))
def f100 (k : Nat) (a1_0 : Int) (a2_0 : Int) (o0 : List S80) : Option ((List S80)) := if 0 ≤ a1_0 ∧ a2_0 = a1_0 + 1 ∧ a2_0 ≤ (o0.length : Int) then some (o0.take a1_0.toNat ++ o0.drop (a1_0.toNat + 1)) else none
def f61 (k : Nat) (a0_0 : Int) (a0_1 : ByteArray) (a0_2 : ByteArray) (a0_3 : ByteArray) (a1_0 : List S80) : Option (((List S80)) ⊕ ((List S80))) := ((f53 k a1_0 a0_1).bind fun t1 => (if a0_0 = 1 then (if 0 ≤ t1 then (if t1 < (a1_0.length : Int) then (if ((at' a1_0 t1).f1).size + a0_3.size ≤ 9223372036854775807 then ((f99 k a1_0 ((at' a1_0 t1).f0) ((at' a1_0 t1).f1 ++ a0_3)).bind fun t2 => some (Sum.inl t2)) else none) else none) else (if a0_3.size ≤ 9223372036854775807 then ((f99 k a1_0 a0_1 ((⟨#[]⟩ : ByteArray) ++ a0_3)).bind fun t3 => some (Sum.inl t3)) else none)) else (if t1 < 0 then some (Sum.inr a1_0) else ((f59 k a1_0).bind fun t4 => ((f100 k t1 (IntKind.i64.wrap (t1 + 1)) t4).bind fun t5 => (if a0_0 = 3 then some (Sum.inl t5) else (if 0 ≤ t1 then (if t1 < (a1_0.length : Int) then ((f99 k t5 a0_2 ((at' a1_0 t1).f1)).bind fun t6 => some (Sum.inl t6)) else none) else none)))))))
def f90.l4 : Nat → (List S80) → (List S80) → Int → Int → Option (Bool)
  | 0, _, _, _, _ => none
  | k + 1, x0, x1, x12, x13 => (if x13 < x12 then (if 0 ≤ x13 then (if x13 < (x0.length : Int) then (if x13 < (x1.length : Int) then (if (strEq ((at' x0 x13).f0) ((at' x1 x13).f0) && strEq ((at' x0 x13).f1) ((at' x1 x13).f1)) = true then (f90.l4 k x0 x1 x12 (IntKind.i64.wrap (x13 + 1))) else some false) else none) else none) else none) else some true)
def f90 (k : Nat) (a0_0 : List S80) (a1_0 : List S80) : Option (Bool) := (if (a0_0.length : Int) = (a1_0.length : Int) then (f90.l4 k a0_0 a1_0 (a0_0.length : Int) 0) else some false)
def f49.l5 : Nat → (List S80) → (List S73) → Int → Int → (List S80) → (List S80) → (List S73) → Option (Bool)
  | 0, _, _, _, _, _, _, _ => none
  | k + 1, x3, x27, x28, x29, b0_0, b0_1, b0_2 => (if x29 < x28 then (if 0 ≤ x29 then (if x29 < (x27.length : Int) then ((f89 k ((at' x27 x29).f0) ((at' x27 x29).f1) ((at' x27 x29).f2) ((at' x27 x29).f3)).bind fun t3 => (if t3 = true then ((f61 k ((at' x27 x29).f0) ((at' x27 x29).f1) ((at' x27 x29).f2) ((at' x27 x29).f3) x3).bind fun t4 => match t4 with | Sum.inl t4 => ((f62 k t4).bind fun t5 => (if t5 = true then (f49.l5 k t4 x27 x28 (IntKind.i64.wrap (x29 + 1)) b0_0 b0_1 b0_2) else some false)) | Sum.inr t4 => some false) else some false)) else none) else none) else ((f90 k x3 b0_0).bind fun t6 => some t6))
def f49 (k : Nat) (a0_0 : List S80) (a0_1 : List S80) (a0_2 : List S73) : Option (Bool) := ((f62 k a0_0).bind fun t1 => (if t1 = true then ((f62 k a0_1).bind fun t2 => (if t2 = true then (if 200 < (a0_2.length : Int) then some false else (f49.l5 k a0_1 a0_2 (a0_2.length : Int) 0 a0_0 a0_1 a0_2)) else some false)) else some false))
def f60 (k : Nat) (a0_0 : Int) (a1_0 : Int) (a2_0 : Int) : Option (Bool) := (if a1_0 ≤ a0_0 then some (decide (a0_0 ≤ a2_0)) else some false)
def f22.l5 : Nat → (List S80) → (List Int) → Int → (List Int) → Int → Int → (List S80) → (List S80) → (List S73) → Option (Bool × (List S80) × (List S80) × (List S73))
  | 0, _, _, _, _, _, _, _, _, _ => none
  | k + 1, q2, x1, x2, x25, x26, x27, b0_0, b0_1, b0_2 => (if x27 < x26 then (if 0 ≤ x27 then (if x27 < (x25.length : Int) then ((f60 k (at' x25 x27) 0 (IntKind.i64.wrap ((b0_2.length : Int) - 1))).bind fun t3 => (if t3 = true then (if 0 < x27 then (if 0 ≤ (IntKind.i64.wrap (x27 - 1)) then (if (IntKind.i64.wrap (x27 - 1)) < (x1.length : Int) then (if (at' x25 x27) ≤ (at' x1 (IntKind.i64.wrap (x27 - 1))) then some (false, ([] : List S80), ([] : List S80), ([] : List S73)) else (if 0 ≤ (at' x25 x27) then (if (at' x25 x27) < (b0_2.length : Int) then (if x27 = (IntKind.i64.wrap ((x1.length : Int) - 1)) then (if 0 ≤ (minI x2 (((at' b0_2 (at' x25 x27)).f3).size : Int)) then (if (minI x2 (((at' b0_2 (at' x25 x27)).f3).size : Int)) ≤ ((((at' b0_2 (at' x25 x27)).f3).size : Nat) : Int) then ((f61 k ((at' b0_2 (at' x25 x27)).f0) ((at' b0_2 (at' x25 x27)).f1) ((at' b0_2 (at' x25 x27)).f2) (((at' b0_2 (at' x25 x27)).f3).extract 0 ((minI x2 (((at' b0_2 (at' x25 x27)).f3).size : Int)).toNat)) q2).bind fun t4 => match t4 with | Sum.inl t4 => (f22.l5 k t4 x1 x2 x25 x26 (IntKind.i64.wrap (x27 + 1)) b0_0 b0_1 b0_2) | Sum.inr t4 => (f22.l5 k q2 x1 x2 x25 x26 (IntKind.i64.wrap (x27 + 1)) b0_0 b0_1 b0_2)) else none) else none) else ((f61 k ((at' b0_2 (at' x25 x27)).f0) ((at' b0_2 (at' x25 x27)).f1) ((at' b0_2 (at' x25 x27)).f2) ((at' b0_2 (at' x25 x27)).f3) q2).bind fun t5 => match t5 with | Sum.inl t5 => (f22.l5 k t5 x1 x2 x25 x26 (IntKind.i64.wrap (x27 + 1)) b0_0 b0_1 b0_2) | Sum.inr t5 => (f22.l5 k q2 x1 x2 x25 x26 (IntKind.i64.wrap (x27 + 1)) b0_0 b0_1 b0_2))) else none) else none)) else none) else none) else (if 0 ≤ (at' x25 x27) then (if (at' x25 x27) < (b0_2.length : Int) then (if x27 = (IntKind.i64.wrap ((x1.length : Int) - 1)) then (if 0 ≤ (minI x2 (((at' b0_2 (at' x25 x27)).f3).size : Int)) then (if (minI x2 (((at' b0_2 (at' x25 x27)).f3).size : Int)) ≤ ((((at' b0_2 (at' x25 x27)).f3).size : Nat) : Int) then ((f61 k ((at' b0_2 (at' x25 x27)).f0) ((at' b0_2 (at' x25 x27)).f1) ((at' b0_2 (at' x25 x27)).f2) (((at' b0_2 (at' x25 x27)).f3).extract 0 ((minI x2 (((at' b0_2 (at' x25 x27)).f3).size : Int)).toNat)) q2).bind fun t6 => match t6 with | Sum.inl t6 => (f22.l5 k t6 x1 x2 x25 x26 (IntKind.i64.wrap (x27 + 1)) b0_0 b0_1 b0_2) | Sum.inr t6 => (f22.l5 k q2 x1 x2 x25 x26 (IntKind.i64.wrap (x27 + 1)) b0_0 b0_1 b0_2)) else none) else none) else ((f61 k ((at' b0_2 (at' x25 x27)).f0) ((at' b0_2 (at' x25 x27)).f1) ((at' b0_2 (at' x25 x27)).f2) ((at' b0_2 (at' x25 x27)).f3) q2).bind fun t7 => match t7 with | Sum.inl t7 => (f22.l5 k t7 x1 x2 x25 x26 (IntKind.i64.wrap (x27 + 1)) b0_0 b0_1 b0_2) | Sum.inr t7 => (f22.l5 k q2 x1 x2 x25 x26 (IntKind.i64.wrap (x27 + 1)) b0_0 b0_1 b0_2))) else none) else none)) else some (false, ([] : List S80), ([] : List S80), ([] : List S73)))) else none) else none) else ((f62 k q2).bind fun t8 => (if t8 = true then ((f59 k q2).bind fun t9 => some (true, q2, t9, ([] : List S73))) else some (false, ([] : List S80), ([] : List S80), ([] : List S73)))))
def f22 (k : Nat) (a0_0 : List S80) (a0_1 : List S80) (a0_2 : List S73) (a1_0 : List Int) (a2_0 : Int) : Option (Bool × (List S80) × (List S80) × (List S73)) := ((f49 k a0_0 a0_1 a0_2).bind fun t1 => (if t1 = true then (if a2_0 < 0 then some (false, ([] : List S80), ([] : List S80), ([] : List S73)) else ((f59 k a0_1).bind fun t2 => (f22.l5 k t2 a1_0 a2_0 a1_0 (a1_0.length : Int) 0 a0_0 a0_1 a0_2))) else some (false, ([] : List S80), ([] : List S80), ([] : List S73))))
def f23.l4 : Nat → (List S80) → (List S80) → Int → Option (Bool)
  | 0, _, _, _ => none
  | k + 1, x0, x1, x5 => (if x5 < (x0.length : Int) then (if 0 ≤ x5 then (if x5 < (x1.length : Int) then (if (strEq ((at' x0 x5).f0) ((at' x1 x5).f0) && strEq ((at' x0 x5).f1) ((at' x1 x5).f1)) = true then (f23.l4 k x0 x1 (IntKind.i64.wrap (x5 + 1))) else some false) else none) else none) else some true)
def f23 (k : Nat) (a0_0 : List S80) (a1_0 : List S80) : Option (Bool) := (if (a0_0.length : Int) = (a1_0.length : Int) then (f23.l4 k a0_0 a1_0 0) else some false)
def f24 (k : Nat) (a0_0 : List S80) (a0_1 : List S80) (a0_2 : List S73) : Option ((List S80) × (List S80) × (List S73)) := ((f49 k a0_0 a0_1 a0_2).bind fun t1 => (if t1 = true then ((f59 k a0_0).bind fun t2 => some (t2, t2, ([] : List S73))) else some (([] : List S80), ([] : List S80), ([] : List S73))))
def f15 (k : Nat) (a0_0 : List S80) (a0_1 : List S80) (a0_2 : List S73) : Option (Bool) := ((f49 k a0_0 a0_1 a0_2).bind fun t1 => some t1)
def f5.l12 : Nat → (List Int) → (List S80) → (List S80) → (List S73) → Bool → Int → (List S80) → (List S80) → (List S73) → Option (Bool)
  | 0, _, _, _, _, _, _, _, _, _ => none
  | k + 1, q2, q3, q4, q5, x9, x11, b0_0, b0_1, b0_2 => (if x11 < (b0_2.length : Int) then (if (q2.length + 1) * 8 ≤ 70368744177664 then (if q2.length + 1 ≤ 70368744177664 then (f5.l12 k (q2 ++ ([x11] : List Int)) q3 q4 q5 x9 (IntKind.i64.wrap (x11 + 1)) b0_0 b0_1 b0_2) else none) else none) else ((f22 k b0_0 b0_1 b0_2 q2 1099511627776).bind fun t6 => ((f22 k b0_0 b0_1 b0_2 ([] : List Int) 0).bind fun t7 => (if t6.1 = true then (if t7.1 = true then ((f23 k t6.2.1 b0_0).bind fun t8 => (if t8 = true then ((f23 k t7.2.1 b0_1).bind fun t9 => (if t9 = true then (if ((t6.2.2.2.length : Nat) : Int) = 0 then ((f24 k b0_0 b0_1 b0_2).bind fun t10 => ((f22 k t10.1 t10.2.1 t10.2.2 ([] : List Int) 0).bind fun t11 => (if t11.1 = true then ((f23 k t11.2.1 b0_0).bind fun t12 => (if t12 = true then (if x9 = true then ((f15 k q3 q4 q5).bind fun t13 => (if t13 = true then some (decide (((q5.length : Nat) : Int) = 0)) else some false)) else some true) else ((f15 k q3 q4 q5).bind fun t14 => (if t14 = true then some false else some false)))) else ((f15 k q3 q4 q5).bind fun t15 => (if t15 = true then some false else some false))))) else some false) else some false)) else some false)) else some false) else some false))))
def f5 (k : Nat) (a0_0 : List Int) : Option (Bool) := ((f19 k a0_0).bind fun t1 => (if t1 = true then some true else ((f20 k a0_0).bind fun t2 => ((f21 k t2.1 t2.2.1 t2.2.2.1 t2.2.2.2.1 t2.2.2.2.2).bind fun t3 => ((f22 k t2.1 t2.2.1 t2.2.2.1 t2.2.2.2.1 t2.2.2.2.2).bind fun t4 => (if (t4.1 == t3.1) = true then ((f13 k t2.1 t2.2.1 t2.2.2.1).bind fun t5 => (if t5 = true then (f5.l12 k ([] : List Int) t4.2.1 t4.2.2.1 t4.2.2.2 t4.1 0 t2.1 t2.2.1 t2.2.2.1) else some (!t4.1))) else some false))))))
def f25 (k : Nat) (a0_0 : List Int) : Option ((List S80) × (List S80) × (List S73) × ByteArray × ByteArray) := ((f54 k a0_0).bind fun t1 => ((f55 k t1.1 t1.2).bind fun t2 => ((f63 k 4 t2.2.2.2.1 t2.2.2.2.2).bind fun t3 => (if 0 ≤ t3.1 then (if t3.1 < 4 then ((f56 k 12 t2.2.2.2.1 t3.2).bind fun t4 => (if t4.1 = true then ((f63 k 4 t2.2.2.2.1 t4.2).bind fun t5 => (if 0 ≤ (IntKind.i64.wrap (95 + t5.1)) then (if (IntKind.i64.wrap (95 + t5.1)) ≤ (IntKind.i64.wrap (95 + t5.1)) then (if (IntKind.i64.wrap (95 + t5.1)) * 1 ≤ 70368744177664 then (if (IntKind.i64.wrap (95 + t5.1)) ≤ 70368744177664 then ((f64 k t2.2.2.2.1 t5.2).bind fun t6 => some (t2.1, t2.2.1, t2.2.2.1, (strOf (List.replicate (IntKind.i64.wrap (95 + t5.1)).toNat 0)), t6.1)) else none) else none) else none) else none)) else ((f64 k t2.2.2.2.1 t4.2).bind fun t7 => some (t2.1, t2.2.1, t2.2.2.1, (at' ([(⟨#[118, 111, 116, 101]⟩ : ByteArray), (⟨#[108, 111, 103]⟩ : ByteArray), (⟨#[118, 111, 116, 101]⟩ : ByteArray), (⟨#[]⟩ : ByteArray)] : List ByteArray) t3.1), t7.1)))) else none) else none))))
def f26 (k : Nat) (a0_0 : List S80) (a0_1 : List S80) (a0_2 : List S73) (a1_0 : ByteArray) (a2_0 : ByteArray) : Option (Int × (List S80) × (List S80) × (List S73)) := ((f13 k a0_0 a0_1 a0_2).bind fun t1 => (if t1 = true then (if a1_0.size + 4 ≤ 9223372036854775807 then ((f52 k a0_0 (a1_0 ++ (⟨#[46, 110, 101, 119]⟩ : ByteArray))).bind fun t2 => (if 0 ≤ t2 then ((f65 k a0_0 a0_1 a0_2 3 (a1_0 ++ (⟨#[46, 110, 101, 119]⟩ : ByteArray)) (⟨#[]⟩ : ByteArray) (⟨#[]⟩ : ByteArray)).bind fun t3 => (if t3.1 = 0 then ((f65 k t3.2.1 t3.2.2.1 t3.2.2.2 1 (a1_0 ++ (⟨#[46, 110, 101, 119]⟩ : ByteArray)) (⟨#[]⟩ : ByteArray) a2_0).bind fun t4 => (if t4.1 = 0 then ((f65 k t4.2.1 t4.2.2.1 t4.2.2.2 2 (a1_0 ++ (⟨#[46, 110, 101, 119]⟩ : ByteArray)) a1_0 (⟨#[]⟩ : ByteArray)).bind fun t5 => (if t5.1 = 0 then ((f66 k t5.2.1 t5.2.2.1 t5.2.2.2).bind fun t6 => some (0, t6.1, t6.2.1, t6.2.2)) else ((f66 k a0_0 a0_1 a0_2).bind fun t7 => some (t5.1, t7.1, t7.2.1, t7.2.2)))) else ((f66 k a0_0 a0_1 a0_2).bind fun t8 => some (t4.1, t8.1, t8.2.1, t8.2.2)))) else ((f66 k a0_0 a0_1 a0_2).bind fun t9 => some (t3.1, t9.1, t9.2.1, t9.2.2)))) else ((f65 k a0_0 a0_1 a0_2 1 (a1_0 ++ (⟨#[46, 110, 101, 119]⟩ : ByteArray)) (⟨#[]⟩ : ByteArray) a2_0).bind fun t10 => (if t10.1 = 0 then ((f65 k t10.2.1 t10.2.2.1 t10.2.2.2 2 (a1_0 ++ (⟨#[46, 110, 101, 119]⟩ : ByteArray)) a1_0 (⟨#[]⟩ : ByteArray)).bind fun t11 => (if t11.1 = 0 then ((f66 k t11.2.1 t11.2.2.1 t11.2.2.2).bind fun t12 => some (0, t12.1, t12.2.1, t12.2.2)) else ((f66 k a0_0 a0_1 a0_2).bind fun t13 => some (t11.1, t13.1, t13.2.1, t13.2.2)))) else ((f66 k a0_0 a0_1 a0_2).bind fun t14 => some (t10.1, t14.1, t14.2.1, t14.2.2)))))) else none) else some (1, ([] : List S80), ([] : List S80), ([] : List S73))))
def f103 (k : Nat) (a1_0 : Int) (o0 : List S73) (o1 : List S73) : Option ((List S73)) := if 0 ≤ a1_0 ∧ a1_0 ≤ (o0.length : Int) ∧ o1.length = 1 ∧ (o0.length + 1) * 56 ≤ 70368744177664 ∧ o0.length + 1 ≤ 70368744177664 then some (o0.take a1_0.toNat ++ (o1 ++ o0.drop a1_0.toNat)) else none
def f79 (k : Nat) (a0_0 : List S80) (a0_1 : List S80) (a0_2 : List S73) : Option ((List S80) × (List S80) × (List S73)) := ((f59 k a0_0).bind fun t1 => ((f59 k a0_1).bind fun t2 => (if a0_2.length * 56 ≤ 70368744177664 then (if a0_2.length ≤ 70368744177664 then some (t1, t2, a0_2) else none) else none)))
def f104 (k : Nat) (a0_0 : List S80) (a0_1 : List S80) (a0_2 : List S73) (a1_0 : Int) (a1_1 : ByteArray) (a1_2 : ByteArray) (a1_3 : ByteArray) : Option (Int × (List S80) × (List S80) × (List S73)) := ((f89 k a1_0 a1_1 a1_2 a1_3).bind fun t1 => (if t1 = true then ((f61 k a1_0 a1_1 a1_2 a1_3 a0_0).bind fun t2 => match t2 with | Sum.inl t2 => (if (a0_2.length : Int) = 200 then ((f79 k a0_0 a0_1 a0_2).bind fun t3 => some (4, t3.1, t3.2.1, t3.2.2)) else ((f62 k t2).bind fun t4 => (if t4 = true then ((f79 k a0_0 a0_1 a0_2).bind fun t5 => ((f59 k t2).bind fun t6 => (if (t5.2.2.length + 1) * 56 ≤ 70368744177664 then (if t5.2.2.length + 1 ≤ 70368744177664 then some (0, t6, t5.2.1, (t5.2.2 ++ ([(⟨a1_0, a1_1, a1_2, a1_3⟩ : S73)] : List S73))) else none) else none))) else ((f79 k a0_0 a0_1 a0_2).bind fun t7 => some (4, t7.1, t7.2.1, t7.2.2))))) | Sum.inr t2 => ((f79 k a0_0 a0_1 a0_2).bind fun t8 => some (3, t8.1, t8.2.1, t8.2.2))) else ((f79 k a0_0 a0_1 a0_2).bind fun t9 => some (2, t9.1, t9.2.1, t9.2.2))))
def f67.l9 : Nat → (List S73) → (List S80) → (List S80) → (List S73) → Int → Int → (List S80) → (List S80) → (List S73) → Option (Int × (List S80) × (List S80) × (List S73))
  | 0, _, _, _, _, _, _, _, _, _ => none
  | k + 1, q3, q4, q5, q6, x41, x42, b0_0, b0_1, b0_2 => (if x42 < x41 then (if 0 ≤ x42 then (if x42 < ((q3.length : Nat) : Int) then ((f104 k q4 q5 q6 ((at' q3 x42).f0) ((at' q3 x42).f1) ((at' q3 x42).f2) ((at' q3 x42).f3)).bind fun t5 => (if t5.1 = 0 then (f67.l9 k q3 t5.2.1 t5.2.2.1 t5.2.2.2 x41 (IntKind.i64.wrap (x42 + 1)) b0_0 b0_1 b0_2) else ((f79 k b0_0 b0_1 b0_2).bind fun t6 => some (t5.1, t6.1, t6.2.1, t6.2.2)))) else none) else none) else some (0, q4, q5, q6))
def f67 (k : Nat) (a0_0 : List S80) (a0_1 : List S80) (a0_2 : List S73) (a1_0 : ByteArray) (a2_0 : ByteArray) : Option (Int × (List S80) × (List S80) × (List S73)) := ((f49 k a0_0 a0_1 a0_2).bind fun t1 => (if t1 = true then (if a1_0.size + 4 ≤ 9223372036854775807 then ((f53 k a0_0 (a1_0 ++ (⟨#[46, 110, 101, 119]⟩ : ByteArray))).bind fun t2 => (if 0 ≤ t2 then ((f103 k 0 ([(⟨1, (a1_0 ++ (⟨#[46, 110, 101, 119]⟩ : ByteArray)), (⟨#[]⟩ : ByteArray), a2_0⟩ : S73), (⟨2, (a1_0 ++ (⟨#[46, 110, 101, 119]⟩ : ByteArray)), a1_0, (⟨#[]⟩ : ByteArray)⟩ : S73)] : List S73) ([(⟨3, (a1_0 ++ (⟨#[46, 110, 101, 119]⟩ : ByteArray)), (⟨#[]⟩ : ByteArray), (⟨#[]⟩ : ByteArray)⟩ : S73)] : List S73)).bind fun t3 => ((f79 k a0_0 a0_1 a0_2).bind fun t4 => (f67.l9 k t3 t4.1 t4.2.1 t4.2.2 ((t3.length : Nat) : Int) 0 a0_0 a0_1 a0_2))) else ((f79 k a0_0 a0_1 a0_2).bind fun t7 => (f67.l9 k ([(⟨1, (a1_0 ++ (⟨#[46, 110, 101, 119]⟩ : ByteArray)), (⟨#[]⟩ : ByteArray), a2_0⟩ : S73), (⟨2, (a1_0 ++ (⟨#[46, 110, 101, 119]⟩ : ByteArray)), a1_0, (⟨#[]⟩ : ByteArray)⟩ : S73)] : List S73) t7.1 t7.2.1 t7.2.2 2 0 a0_0 a0_1 a0_2)))) else none) else some (1, ([] : List S80), ([] : List S80), ([] : List S73))))
def f27 (k : Nat) (a0_0 : List S80) (a0_1 : List S80) (a0_2 : List S73) (a1_0 : ByteArray) (a2_0 : ByteArray) : Option (Int × (List S80) × (List S80) × (List S73)) := ((f67 k a0_0 a0_1 a0_2 a1_0 a2_0).bind fun t1 => some (t1.1, t1.2.1, t1.2.2.1, t1.2.2.2))
def f17 (k : Nat) (a0_0 : List S80) (a0_1 : List S80) (a0_2 : List S73) (a1_0 : ByteArray) : Option (ByteArray × Bool) := ((f13 k a0_0 a0_1 a0_2).bind fun t1 => (if t1 = true then ((f52 k a0_0 a1_0).bind fun t2 => (if t2 < 0 then some ((⟨#[]⟩ : ByteArray), false) else (if 0 ≤ t2 then (if t2 < (a0_0.length : Int) then some ((at' a0_0 t2).f1, true) else none) else none))) else some ((⟨#[]⟩ : ByteArray), false)))
def f18 (k : Nat) (a0_0 : List S80) (a0_1 : List S80) (a0_2 : List S73) (a1_0 : ByteArray) : Option (ByteArray × Bool) := ((f53 k a0_0 a1_0).bind fun t1 => ((f49 k a0_0 a0_1 a0_2).bind fun t2 => (if t2 = true then (if t1 < 0 then some ((⟨#[]⟩ : ByteArray), false) else (if 0 ≤ t1 then (if t1 < (a0_0.length : Int) then some ((at' a0_0 t1).f1, true) else none) else none)) else some ((⟨#[]⟩ : ByteArray), false))))
mutual
def f6.l22 : Nat → (List S80) → (List S80) → (List S73) → (List Int) → ByteArray → ByteArray → ByteArray → Bool → Int → Option (Bool)
  | 0, _, _, _, _, _, _, _, _, _ => none
  | k + 1, q1, q2, q3, x0, x4, x5, x13, x14, x19 => (if x19 < 8 then (f6.l26 k ([] : List Int) q1 q2 q3 x0 x4 x5 x13 x14 x19 0) else some true)
def f6.l26 : Nat → (List Int) → (List S80) → (List S80) → (List S73) → (List Int) → ByteArray → ByteArray → ByteArray → Bool → Int → Int → Option (Bool)
  | 0, _, _, _, _, _, _, _, _, _, _, _ => none
  | k + 1, q1, q2, q3, q4, x0, x4, x5, x13, x14, x19, x21 => (if x21 < ((q4.length : Nat) : Int) then (if 0 ≤ (IntKind.u64.wrap x21) then (if (andI .i64 (shrI .i64 x19 (IntKind.u64.wrap x21)) 1) = 1 then (if (q1.length + 1) * 8 ≤ 70368744177664 then (if q1.length + 1 ≤ 70368744177664 then (f6.l26 k (q1 ++ ([x21] : List Int)) q2 q3 q4 x0 x4 x5 x13 x14 x19 (IntKind.i64.wrap (x21 + 1))) else none) else none) else (f6.l26 k q1 q2 q3 q4 x0 x4 x5 x13 x14 x19 (IntKind.i64.wrap (x21 + 1)))) else none) else ((f22 k q2 q3 q4 q1 ((x0.length : Int).tmod 4)).bind fun t11 => ((f18 k t11.2.1 t11.2.2.1 t11.2.2.2 x4).bind fun t12 => (if t11.1 = true then (if (t12.2 == x14) = true then (if t12.2 = true then (if strEq t12.1 x5 = true then (f6.l22 k q2 q3 q4 x0 x4 x5 x13 x14 (IntKind.i64.wrap (x19 + 1))) else (if x14 = true then (if strEq t12.1 x13 = true then (f6.l22 k q2 q3 q4 x0 x4 x5 x13 x14 (IntKind.i64.wrap (x19 + 1))) else some false) else some false)) else (f6.l22 k q2 q3 q4 x0 x4 x5 x13 x14 (IntKind.i64.wrap (x19 + 1)))) else (if t12.2 = true then (if strEq t12.1 x5 = true then (f6.l22 k q2 q3 q4 x0 x4 x5 x13 x14 (IntKind.i64.wrap (x19 + 1))) else some false) else some false)) else some false))))
end
def f6 (k : Nat) (a0_0 : List Int) : Option (Bool) := ((f19 k a0_0).bind fun t1 => (if t1 = true then some true else ((f25 k a0_0).bind fun t2 => ((f26 k t2.1 t2.2.1 t2.2.2.1 t2.2.2.2.1 t2.2.2.2.2).bind fun t3 => ((f27 k t2.1 t2.2.1 t2.2.2.1 t2.2.2.2.1 t2.2.2.2.2).bind fun t4 => (if t4.1 = t3.1 then ((f13 k t2.1 t2.2.1 t2.2.2.1).bind fun t5 => (if t5 = true then ((f24 k t2.1 t2.2.1 t2.2.2.1).bind fun t6 => (if t2.2.2.2.1.size + 4 ≤ 9223372036854775807 then ((f17 k t6.1 t6.2.1 t6.2.2 (t2.2.2.2.1 ++ (⟨#[46, 110, 101, 119]⟩ : ByteArray))).bind fun t7 => (if t7.2 = true then some true else ((f18 k t6.1 t6.2.1 t6.2.2 t2.2.2.2.1).bind fun t8 => ((f27 k t6.1 t6.2.1 t6.2.2 t2.2.2.2.1 t2.2.2.2.2).bind fun t9 => (if t9.1 = 0 then ((f18 k t9.2.1 t9.2.2.1 t9.2.2.2 t2.2.2.2.1).bind fun t10 => (if t10.2 = true then (if strEq t10.1 t2.2.2.2.2 = true then (f6.l22 k t9.2.1 t9.2.2.1 t9.2.2.2 a0_0 t2.2.2.2.1 t2.2.2.2.2 t8.1 t8.2 0) else some false) else some false)) else some true))))) else none)) else some true)) else some false))))))
def f82 (k : Nat) (a0_0 : ByteArray) (a0_1 : ByteArray) (a1_0 : Int) : Option (Int) := (if (IntKind.i64.wrap (a1_0 - (a0_0.size : Int))) < 0 then some (-1) else (if (IntKind.i64.wrap ((IntKind.i64.wrap (a1_0 - (a0_0.size : Int))) - (a0_1.size : Int))) < 0 then some (-1) else some (IntKind.i64.wrap ((IntKind.i64.wrap (a1_0 - (a0_0.size : Int))) - (a0_1.size : Int)))))
def f41.l5 : Nat → (List S106) → Int → Int → Option (Int)
  | 0, _, _, _ => none
  | k + 1, x0, x1, x5 => (if x5 < (x0.length : Int) then (if 0 ≤ x5 then ((f82 k ((at' x0 x5).f0) ((at' x0 x5).f1) x1).bind fun t1 => (if t1 < 0 then some (-1) else (f41.l5 k x0 t1 (IntKind.i64.wrap (x5 + 1))))) else none) else some x1)
def f41 (k : Nat) (a0_0 : List S106) (a1_0 : Int) : Option (Int) := (if (IntKind.i64.wrap (a1_0 - (a0_0.length : Int))) < 0 then some (-1) else (f41.l5 k a0_0 (IntKind.i64.wrap (a1_0 - (a0_0.length : Int))) 0))
def f83 (k : Nat) (a0_0 : Int) (a0_1 : ByteArray) (a0_2 : ByteArray) (a0_3 : ByteArray) (a1_0 : Int) : Option (Int) := (if (IntKind.i64.wrap (a1_0 - (a0_1.size : Int))) < 0 then some (-1) else (if (IntKind.i64.wrap ((IntKind.i64.wrap (a1_0 - (a0_1.size : Int))) - (a0_2.size : Int))) < 0 then some (-1) else (if (IntKind.i64.wrap ((IntKind.i64.wrap ((IntKind.i64.wrap (a1_0 - (a0_1.size : Int))) - (a0_2.size : Int))) - (a0_3.size : Int))) < 0 then some (-1) else some (IntKind.i64.wrap ((IntKind.i64.wrap ((IntKind.i64.wrap (a1_0 - (a0_1.size : Int))) - (a0_2.size : Int))) - (a0_3.size : Int))))))
def f42.l5 : Nat → (List S108) → Int → Int → Option (Int)
  | 0, _, _, _ => none
  | k + 1, x0, x1, x5 => (if x5 < (x0.length : Int) then (if 0 ≤ x5 then ((f83 k ((at' x0 x5).f0) ((at' x0 x5).f1) ((at' x0 x5).f2) ((at' x0 x5).f3) x1).bind fun t1 => (if t1 < 0 then some (-1) else (f42.l5 k x0 t1 (IntKind.i64.wrap (x5 + 1))))) else none) else some x1)
def f42 (k : Nat) (a0_0 : List S108) (a1_0 : Int) : Option (Int) := (if (IntKind.i64.wrap (a1_0 - (a0_0.length : Int))) < 0 then some (-1) else (f42.l5 k a0_0 (IntKind.i64.wrap (a1_0 - (a0_0.length : Int))) 0))
def f12 (k : Nat) (a0_0 : List S106) (a0_1 : List S106) (a0_2 : List S108) (a1_0 : Int) : Option (Int) := ((f41 k a0_0 a1_0).bind fun t1 => (if t1 < 0 then some (-1) else ((f41 k a0_1 t1).bind fun t2 => (if t2 < 0 then some (-1) else ((f42 k a0_2 t2).bind fun t3 => (if t3 < 0 then some (-1) else some t3))))))
def f87 (k : Nat) (a0_0 : ByteArray) (a0_1 : ByteArray) : Option (ByteArray × ByteArray) := some (a0_0, a0_1)
def f47.l3 : Nat → (List S80) → (List S106) → Int → Option ((List S80))
  | 0, _, _, _ => none
  | k + 1, q0, x0, x4 => (if x4 < (x0.length : Int) then (if 0 ≤ x4 then ((f87 k ((at' x0 x4).f0) ((at' x0 x4).f1)).bind fun t1 => (if x4 < ((q0.length : Nat) : Int) then (f47.l3 k (q0.set x4.toNat (⟨t1.1, t1.2⟩ : S80)) x0 (IntKind.i64.wrap (x4 + 1))) else none)) else none) else some q0)
def f47 (k : Nat) (a0_0 : List S106) : Option ((List S80)) := (if 0 ≤ (a0_0.length : Int) then (if (a0_0.length : Int) ≤ (a0_0.length : Int) then (if (a0_0.length : Int) * 32 ≤ 70368744177664 then (if (a0_0.length : Int) ≤ 70368744177664 then (f47.l3 k (List.replicate (a0_0.length : Int).toNat (⟨(⟨#[]⟩ : ByteArray), (⟨#[]⟩ : ByteArray)⟩ : S80)) a0_0 0) else none) else none) else none) else none)
def f88 (k : Nat) (a0_0 : Int) (a0_1 : ByteArray) (a0_2 : ByteArray) (a0_3 : ByteArray) : Option (Int × ByteArray × ByteArray × ByteArray) := some (a0_0, a0_1, a0_2, a0_3)
def f48.l3 : Nat → (List S73) → (List S108) → Int → Option ((List S73))
  | 0, _, _, _ => none
  | k + 1, q0, x0, x4 => (if x4 < (x0.length : Int) then (if 0 ≤ x4 then ((f88 k ((at' x0 x4).f0) ((at' x0 x4).f1) ((at' x0 x4).f2) ((at' x0 x4).f3)).bind fun t1 => (if x4 < ((q0.length : Nat) : Int) then (f48.l3 k (q0.set x4.toNat (⟨t1.1, t1.2.1, t1.2.2.1, t1.2.2.2⟩ : S73)) x0 (IntKind.i64.wrap (x4 + 1))) else none)) else none) else some q0)
def f48 (k : Nat) (a0_0 : List S108) : Option ((List S73)) := (if 0 ≤ (a0_0.length : Int) then (if (a0_0.length : Int) ≤ (a0_0.length : Int) then (if (a0_0.length : Int) * 56 ≤ 70368744177664 then (if (a0_0.length : Int) ≤ 70368744177664 then (f48.l3 k (List.replicate (a0_0.length : Int).toNat (⟨0, (⟨#[]⟩ : ByteArray), (⟨#[]⟩ : ByteArray), (⟨#[]⟩ : ByteArray)⟩ : S73)) a0_0 0) else none) else none) else none) else none)
def f14 (k : Nat) (a0_0 : List S106) (a0_1 : List S106) (a0_2 : List S108) : Option ((List S80) × (List S80) × (List S73)) := ((f47 k a0_0).bind fun t1 => ((f47 k a0_1).bind fun t2 => ((f48 k a0_2).bind fun t3 => some (t1, t2, t3))))
def f91 (k : Nat) (a0_0 : ByteArray) (a0_1 : ByteArray) (a1_0 : ByteArray) (a1_1 : ByteArray) : Option (Bool) := (if strEq a0_0 a1_0 = true then (if strEq a0_1 a1_1 = true then some true else some false) else some false)
def f50.l4 : Nat → (List S80) → (List S80) → Int → Option (Bool)
  | 0, _, _, _ => none
  | k + 1, x0, x1, x5 => (if x5 < (x0.length : Int) then (if 0 ≤ x5 then (if x5 < (x1.length : Int) then ((f91 k ((at' x0 x5).f0) ((at' x0 x5).f1) ((at' x1 x5).f0) ((at' x1 x5).f1)).bind fun t1 => (if t1 = true then (f50.l4 k x0 x1 (IntKind.i64.wrap (x5 + 1))) else some false)) else none) else none) else some true)
def f50 (k : Nat) (a0_0 : List S80) (a1_0 : List S80) : Option (Bool) := (if (a0_0.length : Int) = (a1_0.length : Int) then (f50.l4 k a0_0 a1_0 0) else some false)
def f92 (k : Nat) (a0_0 : Int) (a0_1 : ByteArray) (a0_2 : ByteArray) (a0_3 : ByteArray) (a1_0 : Int) (a1_1 : ByteArray) (a1_2 : ByteArray) (a1_3 : ByteArray) : Option (Bool) := (if a0_0 = a1_0 then (if strEq a0_1 a1_1 = true then (if strEq a0_2 a1_2 = true then (if strEq a0_3 a1_3 = true then some true else some false) else some false) else some false) else some false)
def f51.l4 : Nat → (List S73) → (List S73) → Int → Option (Bool)
  | 0, _, _, _ => none
  | k + 1, x0, x1, x5 => (if x5 < (x0.length : Int) then (if 0 ≤ x5 then (if x5 < (x1.length : Int) then ((f92 k ((at' x0 x5).f0) ((at' x0 x5).f1) ((at' x0 x5).f2) ((at' x0 x5).f3) ((at' x1 x5).f0) ((at' x1 x5).f1) ((at' x1 x5).f2) ((at' x1 x5).f3)).bind fun t1 => (if t1 = true then (f51.l4 k x0 x1 (IntKind.i64.wrap (x5 + 1))) else some false)) else none) else none) else some true)
def f51 (k : Nat) (a0_0 : List S73) (a1_0 : List S73) : Option (Bool) := (if (a0_0.length : Int) = (a1_0.length : Int) then (f51.l4 k a0_0 a1_0 0) else some false)
def f16 (k : Nat) (a0_0 : List S80) (a0_1 : List S80) (a0_2 : List S73) (a1_0 : List S80) (a1_1 : List S80) (a1_2 : List S73) : Option (Bool) := ((f50 k a0_0 a1_0).bind fun t1 => (if t1 = true then ((f50 k a0_1 a1_1).bind fun t2 => (if t2 = true then ((f51 k a0_2 a1_2).bind fun t3 => (if t3 = true then some true else some false)) else some false)) else some false))
def f105.l4 : Nat → Int → ByteArray → Option (ByteArray)
  | 0, _, _ => none
  | k + 1, x0, x3 => (if 0 < x0 then (if 1 + x3.size ≤ 9223372036854775807 then (f105.l4 k (IntKind.i64.wrap (x0.tdiv 10)) ((strOf ([(IntKind.u8.wrap (IntKind.i64.wrap (48 + (x0.tmod 10))))] : List Int)) ++ x3)) else none) else (if 1 + x3.size ≤ 9223372036854775807 then some ((⟨#[109]⟩ : ByteArray) ++ x3) else none))
def f105 (k : Nat) (a0_0 : Int) : Option (ByteArray) := (if a0_0 ≤ 0 then some (⟨#[109, 48]⟩ : ByteArray) else (f105.l4 k a0_0 (⟨#[]⟩ : ByteArray)))
def f68.l2 : Nat → (List S80) → Int → Int → Option (Int × (List S80))
  | 0, _, _, _ => none
  | k + 1, q0, x1, x5 => (if x5 < ((q0.length : Nat) : Int) then ((f105 k x1).bind fun t1 => (if 0 ≤ x5 then ((f105 k (IntKind.i64.wrap (x1 + 1))).bind fun t2 => (f68.l2 k (q0.set x5.toNat (⟨t1, t2⟩ : S80)) (IntKind.i64.wrap ((IntKind.i64.wrap (x1 + 1)) + 1)) (IntKind.i64.wrap (x5 + 1)))) else none)) else some (x1, q0))
def f68 (k : Nat) (a1_0 : Int) (o0 : List S80) : Option (Int × (List S80)) := (f68.l2 k o0 a1_0 0)
def f69.l2 : Nat → (List S73) → Int → Int → Option (Int × (List S73))
  | 0, _, _, _ => none
  | k + 1, q0, x1, x5 => (if x5 < ((q0.length : Nat) : Int) then (if 0 ≤ x5 then ((f105 k (IntKind.i64.wrap (x1 + 1))).bind fun t1 => ((f105 k (IntKind.i64.wrap ((IntKind.i64.wrap (x1 + 1)) + 1))).bind fun t2 => ((f105 k (IntKind.i64.wrap ((IntKind.i64.wrap ((IntKind.i64.wrap (x1 + 1)) + 1)) + 1))).bind fun t3 => (f69.l2 k (q0.set x5.toNat (⟨x1, t1, t2, t3⟩ : S73)) (IntKind.i64.wrap ((IntKind.i64.wrap ((IntKind.i64.wrap ((IntKind.i64.wrap (x1 + 1)) + 1)) + 1)) + 1)) (IntKind.i64.wrap (x5 + 1)))))) else none) else some (x1, q0))
def f69 (k : Nat) (a1_0 : Int) (o0 : List S73) : Option (Int × (List S73)) := (f69.l2 k o0 a1_0 0)
def f29 (k : Nat) (a1_0 : Int) (o0 : List S80) (o1 : List S80) (o2 : List S73) : Option (Int × (List S80) × (List S80) × (List S73)) := ((f68 k a1_0 o0).bind fun t1 => ((f68 k t1.1 o1).bind fun t2 => ((f69 k t2.1 o2).bind fun t3 => some (t3.1, t1.2, t2.2, t3.2))))
def f70.l2 : Nat → (List S80) → Int → Int → Option (Int)
  | 0, _, _, _ => none
  | k + 1, x0, x1, x5 => (if x5 < (x0.length : Int) then (if 0 ≤ x5 then ((f105 k x1).bind fun t1 => (if strEq ((at' x0 x5).f0) t1 = true then ((f105 k (IntKind.i64.wrap (x1 + 1))).bind fun t2 => (if strEq ((at' x0 x5).f1) t2 = true then (f70.l2 k x0 (IntKind.i64.wrap ((IntKind.i64.wrap (x1 + 1)) + 1)) (IntKind.i64.wrap (x5 + 1))) else some (-1))) else some (-1))) else none) else some x1)
def f70 (k : Nat) (a0_0 : List S80) (a1_0 : Int) : Option (Int) := (f70.l2 k a0_0 a1_0 0)
def f71.l2 : Nat → (List S73) → Int → Int → Option (Int)
  | 0, _, _, _ => none
  | k + 1, x0, x1, x5 => (if x5 < (x0.length : Int) then (if 0 ≤ x5 then (if (at' x0 x5).f0 = x1 then ((f105 k (IntKind.i64.wrap (x1 + 1))).bind fun t1 => (if strEq ((at' x0 x5).f1) t1 = true then ((f105 k (IntKind.i64.wrap ((IntKind.i64.wrap (x1 + 1)) + 1))).bind fun t2 => (if strEq ((at' x0 x5).f2) t2 = true then ((f105 k (IntKind.i64.wrap ((IntKind.i64.wrap ((IntKind.i64.wrap (x1 + 1)) + 1)) + 1))).bind fun t3 => (if strEq ((at' x0 x5).f3) t3 = true then (f71.l2 k x0 (IntKind.i64.wrap ((IntKind.i64.wrap ((IntKind.i64.wrap ((IntKind.i64.wrap (x1 + 1)) + 1)) + 1)) + 1)) (IntKind.i64.wrap (x5 + 1))) else some (-1))) else some (-1))) else some (-1))) else some (-1)) else none) else some x1)
def f71 (k : Nat) (a0_0 : List S73) (a1_0 : Int) : Option (Int) := (f71.l2 k a0_0 a1_0 0)
def f30 (k : Nat) (a0_0 : List S80) (a0_1 : List S80) (a0_2 : List S73) (a1_0 : Int) : Option (Int) := ((f70 k a0_0 a1_0).bind fun t1 => (if t1 < 0 then some (-1) else ((f70 k a0_1 t1).bind fun t2 => (if t2 < 0 then some (-1) else ((f71 k a0_2 t2).bind fun t3 => (if t3 < 0 then some (-1) else some t3))))))
def f136 (k : Nat) (a0_0 : ByteArray) : Option (Int) := (if 0 < (a0_0.size : Int) then (if 1 < (a0_0.size : Int) then (if 2 < (a0_0.size : Int) then (if 3 < (a0_0.size : Int) then some (orI .u32 (orI .u32 (orI .u32 (IntKind.u32.wrap (byteAt a0_0 0)) (shlI .u32 (IntKind.u32.wrap (byteAt a0_0 1)) 8)) (shlI .u32 (IntKind.u32.wrap (byteAt a0_0 2)) 16)) (shlI .u32 (IntKind.u32.wrap (byteAt a0_0 3)) 24)) else none) else none) else none) else none)
mutual
def f131.l3 : Nat → ByteArray → Int → Int → Option (Int)
  | 0, _, _, _ => none
  | k + 1, x0, x3, x4 => (if x4 < (x0.size : Int) then (if 0 ≤ x4 then (f131.l7 k x0 (xorI .u32 x3 (IntKind.u32.wrap (byteAt x0 x4))) x4 0) else none) else some (xorI .u32 (notI .u32) x3))
def f131.l7 : Nat → ByteArray → Int → Int → Int → Option (Int)
  | 0, _, _, _, _ => none
  | k + 1, x0, x3, x4, x5 => (if x5 < 8 then (if (andI .u32 x3 1) = 1 then (f131.l7 k x0 (xorI .u32 (shrI .u32 x3 1) 3988292384) x4 (IntKind.i64.wrap (x5 + 1))) else (f131.l7 k x0 (shrI .u32 x3 1) x4 (IntKind.i64.wrap (x5 + 1)))) else (f131.l3 k x0 x3 (IntKind.i64.wrap (x4 + 1))))
end
def f131 (k : Nat) (a0_0 : ByteArray) : Option (Int) := (f131.l3 k a0_0 4294967295 0)
def f124 (k : Nat) (a0_0 : ByteArray) : Option (Int × ByteArray × Int × Int) := (if 0 < (a0_0.size : Int) then ((f58 k (IntKind.i64.wrap (byteAt a0_0 0)) 1 100).bind fun t1 => (if t1 = true then (if (a0_0.size : Int) < 5 then some (0, (⟨#[]⟩ : ByteArray), 0, 1) else (if 5 ≤ ((a0_0.size : Nat) : Int) then ((f136 k (a0_0.extract 1 5)).bind fun t2 => (if 20000 < t2 then some (0, (⟨#[]⟩ : ByteArray), 0, 3) else (if (a0_0.size : Int) < (IntKind.i64.wrap (9 + (IntKind.i64.wrap t2))) then some (0, (⟨#[]⟩ : ByteArray), 0, 1) else (if 0 ≤ (IntKind.i64.wrap (9 + (IntKind.i64.wrap t2))) then (if (IntKind.i64.wrap (9 + (IntKind.i64.wrap t2))) ≤ ((a0_0.size : Nat) : Int) then (if 0 ≤ (IntKind.i64.wrap ((IntKind.i64.wrap (9 + (IntKind.i64.wrap t2))) - 4)) then (if (IntKind.i64.wrap ((IntKind.i64.wrap (9 + (IntKind.i64.wrap t2))) - 4)) ≤ max (IntKind.i64.wrap (9 + (IntKind.i64.wrap t2))) 0 then ((f136 k (a0_0.extract ((IntKind.i64.wrap ((IntKind.i64.wrap (9 + (IntKind.i64.wrap t2))) - 4)).toNat) ((IntKind.i64.wrap (9 + (IntKind.i64.wrap t2))).toNat))).bind fun t3 => (if (IntKind.i64.wrap ((IntKind.i64.wrap (9 + (IntKind.i64.wrap t2))) - 4)) ≤ ((a0_0.size : Nat) : Int) then ((f131 k (a0_0.extract 0 ((IntKind.i64.wrap ((IntKind.i64.wrap (9 + (IntKind.i64.wrap t2))) - 4)).toNat))).bind fun t4 => (if t3 = t4 then (if 5 ≤ max (IntKind.i64.wrap ((IntKind.i64.wrap (9 + (IntKind.i64.wrap t2))) - 4)) 0 then some ((IntKind.i64.wrap (byteAt a0_0 0)), (a0_0.extract 5 ((IntKind.i64.wrap ((IntKind.i64.wrap (9 + (IntKind.i64.wrap t2))) - 4)).toNat)), (IntKind.i64.wrap (9 + (IntKind.i64.wrap t2))), 0) else none) else some (0, (⟨#[]⟩ : ByteArray), 0, 4))) else none)) else none) else none) else none) else none)))) else none)) else some (0, (⟨#[]⟩ : ByteArray), 0, 2))) else none)
def f106.l3 : Nat → (List S104) → ByteArray → Int → Option (Int × Int × (List S104))
  | 0, _, _, _ => none
  | k + 1, q0, x0, x6 => (if x6 < (x0.size : Int) then (if ((q0.length : Nat) : Int) = 2000 then some (x6, 5, q0) else (if 0 ≤ x6 then (if x6 ≤ ((x0.size : Nat) : Int) then ((f124 k (x0.extract x6.toNat x0.size)).bind fun t1 => (if t1.2.2.2 = 0 then (if (q0.length + 1) * 24 ≤ 70368744177664 then (if q0.length + 1 ≤ 70368744177664 then (f106.l3 k (q0 ++ ([(⟨t1.1, t1.2.1⟩ : S104)] : List S104)) x0 (IntKind.i64.wrap (x6 + t1.2.2.1))) else none) else none) else some (x6, t1.2.2.2, q0))) else none) else none)) else some (x6, 0, q0))
def f106 (k : Nat) (a0_0 : ByteArray) : Option (Int × Int × (List S104)) := (f106.l3 k ([] : List S104) a0_0 0)
def f107.l4 : Nat → ByteArray → Int → Int → Int → Option (Int × ByteArray × Bool)
  | 0, _, _, _, _ => none
  | k + 1, x0, x5, x6, x7 => (if x7 < (x0.size : Int) then (if x7 < 6 then (if 0 ≤ x7 then (if (IntKind.i64.wrap (byteAt x0 x7)) < 128 then (if (IntKind.i64.wrap (byteAt x0 x7)) = 0 then (if 0 < x7 then some (0, (⟨#[]⟩ : ByteArray), false) else (if 1000000000000 < (IntKind.i64.wrap (x5 + (IntKind.i64.wrap (((IntKind.i64.wrap (byteAt x0 x7)).tmod 128) * x6)))) then some (0, (⟨#[]⟩ : ByteArray), false) else (if 0 ≤ (IntKind.i64.wrap (x7 + 1)) then (if (IntKind.i64.wrap (x7 + 1)) ≤ ((x0.size : Nat) : Int) then some ((IntKind.i64.wrap (x5 + (IntKind.i64.wrap (((IntKind.i64.wrap (byteAt x0 x7)).tmod 128) * x6)))), (x0.extract ((IntKind.i64.wrap (x7 + 1)).toNat) x0.size), true) else none) else none))) else (if 1000000000000 < (IntKind.i64.wrap (x5 + (IntKind.i64.wrap (((IntKind.i64.wrap (byteAt x0 x7)).tmod 128) * x6)))) then some (0, (⟨#[]⟩ : ByteArray), false) else (if 0 ≤ (IntKind.i64.wrap (x7 + 1)) then (if (IntKind.i64.wrap (x7 + 1)) ≤ ((x0.size : Nat) : Int) then some ((IntKind.i64.wrap (x5 + (IntKind.i64.wrap (((IntKind.i64.wrap (byteAt x0 x7)).tmod 128) * x6)))), (x0.extract ((IntKind.i64.wrap (x7 + 1)).toNat) x0.size), true) else none) else none))) else (f107.l4 k x0 (IntKind.i64.wrap (x5 + (IntKind.i64.wrap (((IntKind.i64.wrap (byteAt x0 x7)).tmod 128) * x6)))) (IntKind.i64.wrap (x6 * 128)) (IntKind.i64.wrap (x7 + 1)))) else none) else some (0, (⟨#[]⟩ : ByteArray), false)) else some (0, (⟨#[]⟩ : ByteArray), false))
def f107 (k : Nat) (a0_0 : ByteArray) : Option (Int × ByteArray × Bool) := (f107.l4 k a0_0 0 1 0)
def f137 (k : Nat) (a0_0 : ByteArray) : Option (ByteArray × ByteArray × Bool) := ((f107 k a0_0).bind fun t1 => (if t1.2.2 = true then (if 20000 < t1.1 then some ((⟨#[]⟩ : ByteArray), (⟨#[]⟩ : ByteArray), false) else (if (t1.2.1.size : Int) < t1.1 then some ((⟨#[]⟩ : ByteArray), (⟨#[]⟩ : ByteArray), false) else (if 0 ≤ t1.1 then (if t1.1 ≤ ((t1.2.1.size : Nat) : Int) then some ((t1.2.1.extract 0 t1.1.toNat), (t1.2.1.extract t1.1.toNat t1.2.1.size), true) else none) else none))) else some ((⟨#[]⟩ : ByteArray), (⟨#[]⟩ : ByteArray), false)))
def f138 (k : Nat) (a0_0 : Int) (a0_1 : Int) (a0_2 : ByteArray) : Option (Bool) := ((f58 k a0_0 1 1000000000000).bind fun t1 => (if t1 = true then ((f58 k a0_1 0 9).bind fun t2 => (if t2 = true then some (decide ((a0_2.size : Int) ≤ 4000)) else some false)) else some false))
def f125 (k : Nat) (a0_0 : Int) (a0_1 : ByteArray) : Option (Int × Int × ByteArray × Bool) := ((f107 k a0_1).bind fun t1 => ((f107 k t1.2.1).bind fun t2 => ((f137 k t2.2.1).bind fun t3 => (if a0_0 = 2 then (if t1.2.2 = true then (if t2.2.2 = true then (if t3.2.2 = true then (if strEq t3.2.1 (⟨#[]⟩ : ByteArray) = true then ((f138 k t1.1 t2.1 t3.1).bind fun t4 => some (t1.1, t2.1, t3.1, t4)) else some (t1.1, t2.1, t3.1, false)) else some (t1.1, t2.1, t3.1, false)) else some (t1.1, t2.1, t3.1, false)) else some (t1.1, t2.1, t3.1, false)) else some (t1.1, t2.1, t3.1, false)))))
def f114.l4 : Nat → (List Int) → Int → Option (ByteArray)
  | 0, _, _ => none
  | k + 1, q0, x0 => (if 128 ≤ x0 then (if (q0.length + 1) * 1 ≤ 70368744177664 then (if q0.length + 1 ≤ 70368744177664 then (f114.l4 k (q0 ++ ([(IntKind.u8.wrap (IntKind.i64.wrap ((x0.tmod 128) + 128)))] : List Int)) (IntKind.i64.wrap (x0.tdiv 128))) else none) else none) else (if (q0.length + 1) * 1 ≤ 70368744177664 then (if q0.length + 1 ≤ 70368744177664 then some (strOf (q0 ++ ([(IntKind.u8.wrap x0)] : List Int))) else none) else none))
def f114 (k : Nat) (a0_0 : Int) : Option (ByteArray) := ((f58 k a0_0 0 1000000000000).bind fun t1 => (if t1 = true then (f114.l4 k ([] : List Int) a0_0) else some (⟨#[]⟩ : ByteArray)))
def f139 (k : Nat) (a0_0 : ByteArray) : Option (ByteArray) := (if 20000 < (a0_0.size : Int) then some (⟨#[]⟩ : ByteArray) else ((f114 k (a0_0.size : Int)).bind fun t1 => (if t1.size + a0_0.size ≤ 9223372036854775807 then some (t1 ++ a0_0) else none)))
def f130 (k : Nat) (a0_0 : Int) : Option (ByteArray) := some (strOf ([(IntKind.u8.wrap a0_0), (IntKind.u8.wrap (shrI .u32 a0_0 8)), (IntKind.u8.wrap (shrI .u32 a0_0 16)), (IntKind.u8.wrap (shrI .u32 a0_0 24))] : List Int))
def f113 (k : Nat) (a0_0 : Int) (a0_1 : ByteArray) : Option (ByteArray) := ((f58 k a0_0 1 100).bind fun t1 => (if t1 = true then (if 20000 < (a0_1.size : Int) then some (⟨#[]⟩ : ByteArray) else ((f130 k (IntKind.u32.wrap (a0_1.size : Int))).bind fun t2 => (if 1 + t2.size ≤ 9223372036854775807 then (if 1 + t2.size + a0_1.size ≤ 9223372036854775807 then ((f131 k (((strOf ([(IntKind.u8.wrap a0_0)] : List Int)) ++ t2) ++ a0_1)).bind fun t3 => ((f130 k t3).bind fun t4 => (if 1 + t2.size + a0_1.size + t4.size ≤ 9223372036854775807 then some ((((strOf ([(IntKind.u8.wrap a0_0)] : List Int)) ++ t2) ++ a0_1) ++ t4) else none))) else none) else none))) else some (⟨#[]⟩ : ByteArray)))
def f126 (k : Nat) (a0_0 : Int) (a0_1 : Int) (a0_2 : ByteArray) : Option (ByteArray) := ((f138 k a0_0 a0_1 a0_2).bind fun t1 => (if t1 = true then ((f114 k a0_0).bind fun t2 => ((f114 k a0_1).bind fun t3 => (if t2.size + t3.size ≤ 9223372036854775807 then ((f139 k a0_2).bind fun t4 => (if t2.size + t3.size + t4.size ≤ 9223372036854775807 then ((f113 k 2 ((t2 ++ t3) ++ t4)).bind fun t5 => some t5) else none)) else none))) else some (⟨#[]⟩ : ByteArray)))
def f108.l5 : Nat → (List S136) → (List S104) → Int → Int → Int → Option (Int × (List S136))
  | 0, _, _, _, _, _ => none
  | k + 1, q0, q1, x1, x7, x11 => (if x11 < ((q1.length : Nat) : Int) then (if x11 < 500 then (if 0 ≤ x11 then ((f125 k ((at' q1 x11).f0) ((at' q1 x11).f1)).bind fun t2 => (if t2.2.2.2 = true then (if x1 < t2.1 then some (x7, q0) else (if 0 < x11 then (if 0 ≤ (IntKind.i64.wrap (x11 - 1)) then (if (IntKind.i64.wrap (x11 - 1)) < ((q0.length : Nat) : Int) then (if t2.1 < (at' q0 (IntKind.i64.wrap (x11 - 1))).f0 then some (x7, q0) else (if (q0.length + 1) * 32 ≤ 70368744177664 then (if q0.length + 1 ≤ 70368744177664 then ((f126 k t2.1 t2.2.1 t2.2.2.1).bind fun t3 => (f108.l5 k (q0 ++ ([(⟨t2.1, t2.2.1, t2.2.2.1⟩ : S136)] : List S136)) q1 x1 (IntKind.i64.wrap (x7 + (t3.size : Int))) (IntKind.i64.wrap (x11 + 1)))) else none) else none)) else none) else none) else (if (q0.length + 1) * 32 ≤ 70368744177664 then (if q0.length + 1 ≤ 70368744177664 then ((f126 k t2.1 t2.2.1 t2.2.2.1).bind fun t4 => (f108.l5 k (q0 ++ ([(⟨t2.1, t2.2.1, t2.2.2.1⟩ : S136)] : List S136)) q1 x1 (IntKind.i64.wrap (x7 + (t4.size : Int))) (IntKind.i64.wrap (x11 + 1)))) else none) else none))) else some (x7, q0))) else none) else some (x7, q0)) else some (x7, q0))
def f108 (k : Nat) (a0_0 : ByteArray) (a1_0 : Int) : Option (Int × (List S136)) := ((f106 k a0_0).bind fun t1 => (f108.l5 k ([] : List S136) t1.2.2 a1_0 0 0))
def f72 (k : Nat) (a0_0 : List S80) (a0_1 : List S80) (a0_2 : List S73) : Option (Int × Int × Int × Bool × (List S136)) := ((f52 k a0_0 (⟨#[118, 111, 116, 101]⟩ : ByteArray)).bind fun t1 => (if 0 ≤ t1 then (if t1 < (a0_0.length : Int) then ((f106 k ((at' a0_0 t1).f1)).bind fun t2 => (if t2.2.1 = 0 then (if ((t2.2.2.length : Nat) : Int) = 1 then (if 0 < t2.2.2.length then ((f107 k ((at' t2.2.2 0).f1)).bind fun t3 => ((f107 k t3.2.1).bind fun t4 => (if (at' t2.2.2 0).f0 = 1 then (if t3.2.2 = true then (if t4.2.2 = true then (if strEq t4.2.1 (⟨#[]⟩ : ByteArray) = true then ((f52 k a0_0 (⟨#[108, 111, 103]⟩ : ByteArray)).bind fun t5 => (if 0 ≤ t5 then (if t5 < (a0_0.length : Int) then ((f108 k ((at' a0_0 t5).f1) t3.1).bind fun t6 => some (t3.1, t4.1, t6.1, true, t6.2)) else none) else some (t3.1, t4.1, 0, true, ([] : List S136)))) else some (0, 0, 0, false, ([] : List S136))) else some (0, 0, 0, false, ([] : List S136))) else some (0, 0, 0, false, ([] : List S136))) else some (0, 0, 0, false, ([] : List S136))))) else none) else some (0, 0, 0, false, ([] : List S136))) else some (0, 0, 0, false, ([] : List S136)))) else none) else ((f52 k a0_0 (⟨#[108, 111, 103]⟩ : ByteArray)).bind fun t7 => (if 0 ≤ t7 then (if t7 < (a0_0.length : Int) then ((f108 k ((at' a0_0 t7).f1) 0).bind fun t8 => some (0, 0, t8.1, true, t8.2)) else none) else some (0, 0, 0, true, ([] : List S136))))))
def f127 (k : Nat) (a1_0 : List Int) : Option (Int) := (if 3 < a1_0.length then (if 0 < a1_0.length then (if 1 < a1_0.length then (if 2 < a1_0.length then some (orI .u32 (orI .u32 (orI .u32 (IntKind.u32.wrap (at' a1_0 0)) (shlI .u32 (IntKind.u32.wrap (at' a1_0 1)) 8)) (shlI .u32 (IntKind.u32.wrap (at' a1_0 2)) 16)) (shlI .u32 (IntKind.u32.wrap (at' a1_0 3)) 24)) else none) else none) else none) else none)
mutual
def f116.l3 : Nat → ByteArray → Int → Int → Int → Option (Int)
  | 0, _, _, _, _ => none
  | k + 1, x0, x3, x7, x8 => (if x8 < x7 then (if 0 ≤ x8 then (if x8 < (x0.size : Int) then (f116.l7 k x0 (xorI .u32 x3 (IntKind.u32.wrap (byteAt x0 x8))) x7 x8 0) else none) else none) else some (xorI .u32 (notI .u32) x3))
def f116.l7 : Nat → ByteArray → Int → Int → Int → Int → Option (Int)
  | 0, _, _, _, _, _ => none
  | k + 1, x0, x3, x7, x8, x17 => (if x17 < 8 then (if (andI .u32 x3 1) = 1 then (f116.l7 k x0 (xorI .u32 (shrI .u32 x3 1) 3988292384) x7 x8 (IntKind.i64.wrap (x17 + 1))) else (f116.l7 k x0 (shrI .u32 x3 1) x7 x8 (IntKind.i64.wrap (x17 + 1)))) else (f116.l3 k x0 x3 x7 (IntKind.i64.wrap (x8 + 1))))
end
def f116 (k : Nat) (a0_0 : ByteArray) : Option (Int) := (f116.l3 k a0_0 4294967295 (a0_0.size : Int) 0)
def f109.l3 : Nat → (List S104) → ByteArray → Int → Option (Int × Int × (List S104))
  | 0, _, _, _ => none
  | k + 1, q0, x0, x6 => (if 0 ≤ x6 then (if x6 ≤ ((x0.size : Nat) : Int) then (if (x0.extract x6.toNat x0.size).size ≤ 70368744177664 then (if (((bytesL (x0.extract x6.toNat x0.size)).length : Nat) : Int) = 0 then some (x6, 0, q0) else (if ((q0.length : Nat) : Int) = 2000 then some (x6, 5, q0) else (if 0 < (bytesL (x0.extract x6.toNat x0.size)).length then (if (at' (bytesL (x0.extract x6.toNat x0.size)) 0) < 1 then some (x6, 2, q0) else (if 100 < (at' (bytesL (x0.extract x6.toNat x0.size)) 0) then some (x6, 2, q0) else (if (((bytesL (x0.extract x6.toNat x0.size)).length : Nat) : Int) < 5 then some (x6, 1, q0) else (if 1 ≤ (((bytesL (x0.extract x6.toNat x0.size)).length : Nat) : Int) then (if 1 + ((bytesL (x0.extract x6.toNat x0.size)).length - 1) ≤ (bytesL (x0.extract x6.toNat x0.size)).length then ((f127 k (((bytesL (x0.extract x6.toNat x0.size)).drop 1).take ((bytesL (x0.extract x6.toNat x0.size)).length - 1))).bind fun t1 => (if 20000 < t1 then some (x6, 3, q0) else (if (((bytesL (x0.extract x6.toNat x0.size)).length : Nat) : Int) < (IntKind.i64.wrap ((IntKind.i64.wrap (5 + (IntKind.i64.wrap t1))) + 4)) then some (x6, 1, q0) else (if 0 ≤ (IntKind.i64.wrap (5 + (IntKind.i64.wrap t1))) then (if (IntKind.i64.wrap (5 + (IntKind.i64.wrap t1))) ≤ (((bytesL (x0.extract x6.toNat x0.size)).length : Nat) : Int) then (if (IntKind.i64.wrap (5 + (IntKind.i64.wrap t1))).toNat + ((bytesL (x0.extract x6.toNat x0.size)).length - (IntKind.i64.wrap (5 + (IntKind.i64.wrap t1))).toNat) ≤ (bytesL (x0.extract x6.toNat x0.size)).length then ((f127 k (((bytesL (x0.extract x6.toNat x0.size)).drop ((IntKind.i64.wrap (5 + (IntKind.i64.wrap t1))).toNat)).take ((bytesL (x0.extract x6.toNat x0.size)).length - (IntKind.i64.wrap (5 + (IntKind.i64.wrap t1))).toNat))).bind fun t2 => ((f116 k (strOf ((bytesL (x0.extract x6.toNat x0.size)).take ((IntKind.i64.wrap (5 + (IntKind.i64.wrap t1))).toNat)))).bind fun t3 => (if t2 = t3 then (if 5 ≤ (((strOf ((bytesL (x0.extract x6.toNat x0.size)).take ((IntKind.i64.wrap (5 + (IntKind.i64.wrap t1))).toNat))).size : Nat) : Int) then (if (q0.length + 1) * 24 ≤ 70368744177664 then (if q0.length + 1 ≤ 70368744177664 then (f109.l3 k (q0 ++ ([(⟨(IntKind.i64.wrap (at' (bytesL (x0.extract x6.toNat x0.size)) 0)), ((strOf ((bytesL (x0.extract x6.toNat x0.size)).take ((IntKind.i64.wrap (5 + (IntKind.i64.wrap t1))).toNat))).extract 5 ((strOf ((bytesL (x0.extract x6.toNat x0.size)).take ((IntKind.i64.wrap (5 + (IntKind.i64.wrap t1))).toNat))).size))⟩ : S104)] : List S104)) x0 (IntKind.i64.wrap (x6 + (IntKind.i64.wrap ((IntKind.i64.wrap (5 + (IntKind.i64.wrap t1))) + 4))))) else none) else none) else none) else some (x6, 4, q0)))) else none) else none) else none)))) else none) else none)))) else none))) else none) else none) else none)
def f109 (k : Nat) (a0_0 : ByteArray) : Option (Int × Int × (List S104)) := (f109.l3 k ([] : List S104) a0_0 0)
def f78 (k : Nat) (a0_0 : Int) : Option (Bool) := ((f60 k a0_0 0 1000000000000).bind fun t1 => some t1)
def f110.l3 : Nat → ByteArray → Int → Int → Option (Int × ByteArray × Bool)
  | 0, _, _, _ => none
  | k + 1, x0, x5, x6 => (if x6 < (x0.size : Int) then (if x6 < 6 then (if 0 ≤ x6 then (if 0 ≤ (IntKind.i64.wrap (7 * x6)) then (if 128 ≤ (IntKind.i64.wrap (byteAt x0 x6)) then (f110.l3 k x0 (orI .i64 x5 (shlI .i64 ((IntKind.i64.wrap (byteAt x0 x6)).tmod 128) (IntKind.i64.wrap (7 * x6)))) (IntKind.i64.wrap (x6 + 1))) else (if (IntKind.i64.wrap (byteAt x0 x6)) = 0 then (if 0 < x6 then some (0, (⟨#[]⟩ : ByteArray), false) else ((f78 k (orI .i64 x5 (shlI .i64 ((IntKind.i64.wrap (byteAt x0 x6)).tmod 128) (IntKind.i64.wrap (7 * x6))))).bind fun t1 => (if t1 = true then (if 0 ≤ (IntKind.i64.wrap (x6 + 1)) then (if (IntKind.i64.wrap (x6 + 1)) ≤ ((x0.size : Nat) : Int) then some ((orI .i64 x5 (shlI .i64 ((IntKind.i64.wrap (byteAt x0 x6)).tmod 128) (IntKind.i64.wrap (7 * x6)))), (x0.extract ((IntKind.i64.wrap (x6 + 1)).toNat) x0.size), true) else none) else none) else some (0, (⟨#[]⟩ : ByteArray), false)))) else ((f78 k (orI .i64 x5 (shlI .i64 ((IntKind.i64.wrap (byteAt x0 x6)).tmod 128) (IntKind.i64.wrap (7 * x6))))).bind fun t2 => (if t2 = true then (if 0 ≤ (IntKind.i64.wrap (x6 + 1)) then (if (IntKind.i64.wrap (x6 + 1)) ≤ ((x0.size : Nat) : Int) then some ((orI .i64 x5 (shlI .i64 ((IntKind.i64.wrap (byteAt x0 x6)).tmod 128) (IntKind.i64.wrap (7 * x6)))), (x0.extract ((IntKind.i64.wrap (x6 + 1)).toNat) x0.size), true) else none) else none) else some (0, (⟨#[]⟩ : ByteArray), false))))) else none) else none) else some (0, (⟨#[]⟩ : ByteArray), false)) else some (0, (⟨#[]⟩ : ByteArray), false))
def f110 (k : Nat) (a0_0 : ByteArray) : Option (Int × ByteArray × Bool) := (f110.l3 k a0_0 0 0)
def f128 (k : Nat) (a0_0 : ByteArray) : Option (ByteArray × ByteArray × Bool) := ((f110 k a0_0).bind fun t1 => (if t1.2.2 = true then (if 20000 < t1.1 then some ((⟨#[]⟩ : ByteArray), (⟨#[]⟩ : ByteArray), false) else (if (t1.2.1.size : Int) < t1.1 then some ((⟨#[]⟩ : ByteArray), (⟨#[]⟩ : ByteArray), false) else (if 0 ≤ t1.1 then (if t1.1 ≤ ((t1.2.1.size : Nat) : Int) then some ((t1.2.1.extract 0 t1.1.toNat), (t1.2.1.extract t1.1.toNat t1.2.1.size), true) else none) else none))) else some ((⟨#[]⟩ : ByteArray), (⟨#[]⟩ : ByteArray), false)))
def f129 (k : Nat) (a0_0 : Int) (a0_1 : Int) (a0_2 : ByteArray) : Option (Bool) := ((f60 k a0_0 1 1000000000000).bind fun t1 => (if t1 = true then ((f60 k a0_1 0 9).bind fun t2 => (if t2 = true then some (decide ((a0_2.size : Int) ≤ 4000)) else some false)) else some false))
def f111 (k : Nat) (a0_0 : Int) (a0_1 : ByteArray) : Option (Int × Int × ByteArray × Bool) := ((f110 k a0_1).bind fun t1 => ((f110 k t1.2.1).bind fun t2 => ((f128 k t2.2.1).bind fun t3 => (if a0_0 = 2 then (if t1.2.2 = true then (if t2.2.2 = true then (if t3.2.2 = true then (if strEq t3.2.1 (⟨#[]⟩ : ByteArray) = true then ((f129 k t1.1 t2.1 t3.1).bind fun t4 => (if t4 = true then some (t1.1, t2.1, t3.1, true) else some (0, 0, (⟨#[]⟩ : ByteArray), false))) else some (0, 0, (⟨#[]⟩ : ByteArray), false)) else some (0, 0, (⟨#[]⟩ : ByteArray), false)) else some (0, 0, (⟨#[]⟩ : ByteArray), false)) else some (0, 0, (⟨#[]⟩ : ByteArray), false)) else some (0, 0, (⟨#[]⟩ : ByteArray), false)))))
mutual
def f73.l20 : Nat → (List S104) → Int → Int → Int → Int → Int → Int → Int → Option (Int × Int × Bool × (List S136))
  | 0, _, _, _, _, _, _, _, _ => none
  | k + 1, q2, x18, x106, x107, b0_0, b0_1, b1_0, b1_1 => (if x107 < x106 then (if 0 ≤ x107 then (if x107 < ((q2.length : Nat) : Int) then ((f111 k ((at' q2 x107).f0) ((at' q2 x107).f1)).bind fun t8 => (if t8.2.2.2 = true then (if t8.1 < x18 then some (b1_0, b1_1, true, ([] : List S136)) else (if b1_0 < t8.1 then some (b1_0, b1_1, true, ([] : List S136)) else (if 1 * 32 ≤ 70368744177664 then (f73.l20v1 k q2 ([(⟨t8.1, t8.2.1, t8.2.2.1⟩ : S136)] : List S136) t8.1 x106 (IntKind.i64.wrap (x107 + 1)) b0_0 b0_1 b1_0 b1_1) else none))) else some (b1_0, b1_1, true, ([] : List S136)))) else none) else none) else some (b1_0, b1_1, true, ([] : List S136)))
def f73.l20v1 : Nat → (List S104) → (List S136) → Int → Int → Int → Int → Int → Int → Int → Option (Int × Int × Bool × (List S136))
  | 0, _, _, _, _, _, _, _, _, _ => none
  | k + 1, q2, q3, x18, x106, x107, b0_0, b0_1, b1_0, b1_1 => (if x107 < x106 then (if 0 ≤ x107 then (if x107 < ((q2.length : Nat) : Int) then ((f111 k ((at' q2 x107).f0) ((at' q2 x107).f1)).bind fun t9 => (if t9.2.2.2 = true then (if t9.1 < x18 then some (b1_0, b1_1, true, q3) else (if b1_0 < t9.1 then some (b1_0, b1_1, true, q3) else (if ((q3.length : Nat) : Int) = 500 then some (b1_0, b1_1, true, q3) else (if (q3.length + 1) * 32 ≤ 70368744177664 then (if q3.length + 1 ≤ 70368744177664 then (f73.l20v1 k q2 (q3 ++ ([(⟨t9.1, t9.2.1, t9.2.2.1⟩ : S136)] : List S136)) t9.1 x106 (IntKind.i64.wrap (x107 + 1)) b0_0 b0_1 b1_0 b1_1) else none) else none)))) else some (b1_0, b1_1, true, q3))) else none) else none) else some (b1_0, b1_1, true, q3))
end
def f73 (k : Nat) (a0_0 : List S80) (a0_1 : List S80) (a0_2 : List S73) : Option (Int × Int × Bool × (List S136)) := ((f49 k a0_0 a0_1 a0_2).bind fun t1 => (if t1 = true then ((f53 k a0_0 (⟨#[118, 111, 116, 101]⟩ : ByteArray)).bind fun t2 => (if 0 ≤ t2 then (if t2 < (a0_0.length : Int) then ((f109 k ((at' a0_0 t2).f1)).bind fun t3 => (if t3.2.1 = 0 then (if ((t3.2.2.length : Nat) : Int) = 1 then (if 0 < t3.2.2.length then (if (at' t3.2.2 0).f0 = 1 then ((f110 k ((at' t3.2.2 0).f1)).bind fun t4 => ((f110 k t4.2.1).bind fun t5 => (if t4.2.2 = true then (if t5.2.2 = true then (if strEq t5.2.1 (⟨#[]⟩ : ByteArray) = true then ((f53 k a0_0 (⟨#[108, 111, 103]⟩ : ByteArray)).bind fun t6 => (if 0 ≤ t6 then (if t6 < (a0_0.length : Int) then ((f109 k ((at' a0_0 t6).f1)).bind fun t7 => (f73.l20 k t7.2.2 0 ((t7.2.2.length : Nat) : Int) 0 0 0 t4.1 t5.1)) else none) else some (t4.1, t5.1, true, ([] : List S136)))) else some (0, 0, false, ([] : List S136))) else some (0, 0, false, ([] : List S136))) else some (0, 0, false, ([] : List S136))))) else some (0, 0, false, ([] : List S136))) else none) else some (0, 0, false, ([] : List S136))) else some (0, 0, false, ([] : List S136)))) else none) else ((f53 k a0_0 (⟨#[108, 111, 103]⟩ : ByteArray)).bind fun t10 => (if 0 ≤ t10 then (if t10 < (a0_0.length : Int) then ((f109 k ((at' a0_0 t10).f1)).bind fun t11 => (f73.l20 k t11.2.2 0 ((t11.2.2.length : Nat) : Int) 0 0 0 0 0)) else none) else some (0, 0, true, ([] : List S136)))))) else some (0, 0, false, ([] : List S136))))
def f77 (k : Nat) (a0_0 : Int) (a1_0 : Int) : Option (ByteArray) := ((f114 k a0_0).bind fun t1 => ((f114 k a1_0).bind fun t2 => (if t1.size + t2.size ≤ 9223372036854775807 then ((f113 k 1 (t1 ++ t2)).bind fun t3 => some t3) else none)))
def f39 (k : Nat) (a0_0 : List S80) (a0_1 : List S80) (a0_2 : List S73) (a1_0 : Int) (a2_0 : Int) : Option (Int × (List S80) × (List S80) × (List S73)) := ((f13 k a0_0 a0_1 a0_2).bind fun t1 => (if t1 = true then ((f72 k a0_0 a0_1 a0_2).bind fun t2 => (if t2.2.2.2.1 = true then ((f58 k a1_0 t2.1 1000000000000).bind fun t3 => (if t3 = true then ((f58 k a2_0 0 1000000000000).bind fun t4 => (if t4 = true then (if a1_0 = t2.1 then (if t2.2.1 = 0 then ((f77 k a1_0 a2_0).bind fun t5 => ((f26 k a0_0 a0_1 a0_2 (⟨#[118, 111, 116, 101]⟩ : ByteArray) t5).bind fun t6 => (if t6.1 = 0 then ((f28 k t6.2.1 t6.2.2.1 t6.2.2.2).bind fun t7 => some (0, t7.1, t7.2.1, t7.2.2)) else some (t6.1, t6.2.1, t6.2.2.1, t6.2.2.2)))) else (if a2_0 = t2.2.1 then ((f77 k a1_0 a2_0).bind fun t8 => ((f26 k a0_0 a0_1 a0_2 (⟨#[118, 111, 116, 101]⟩ : ByteArray) t8).bind fun t9 => (if t9.1 = 0 then ((f28 k t9.2.1 t9.2.2.1 t9.2.2.2).bind fun t10 => some (0, t10.1, t10.2.1, t10.2.2)) else some (t9.1, t9.2.1, t9.2.2.1, t9.2.2.2)))) else ((f66 k a0_0 a0_1 a0_2).bind fun t11 => some (10, t11.1, t11.2.1, t11.2.2)))) else ((f77 k a1_0 a2_0).bind fun t12 => ((f26 k a0_0 a0_1 a0_2 (⟨#[118, 111, 116, 101]⟩ : ByteArray) t12).bind fun t13 => (if t13.1 = 0 then ((f28 k t13.2.1 t13.2.2.1 t13.2.2.2).bind fun t14 => some (0, t14.1, t14.2.1, t14.2.2)) else some (t13.1, t13.2.1, t13.2.2.1, t13.2.2.2))))) else ((f66 k a0_0 a0_1 a0_2).bind fun t15 => some (10, t15.1, t15.2.1, t15.2.2)))) else ((f66 k a0_0 a0_1 a0_2).bind fun t16 => some (10, t16.1, t16.2.1, t16.2.2)))) else ((f66 k a0_0 a0_1 a0_2).bind fun t17 => some (10, t17.1, t17.2.1, t17.2.2)))) else some (1, ([] : List S80), ([] : List S80), ([] : List S73))))
def f81.l2 : Nat → (List Int) → Int → Option (ByteArray)
  | 0, _, _ => none
  | k + 1, q0, x0 => (if 128 ≤ x0 then (if (q0.length + 1) * 1 ≤ 70368744177664 then (if q0.length + 1 ≤ 70368744177664 then (f81.l2 k (q0 ++ ([(IntKind.u8.wrap (IntKind.i64.wrap ((x0.tmod 128) + 128)))] : List Int)) (IntKind.i64.wrap (x0.tdiv 128))) else none) else none) else (if (q0.length + 1) * 1 ≤ 70368744177664 then (if q0.length + 1 ≤ 70368744177664 then some (strOf (q0 ++ ([(IntKind.u8.wrap x0)] : List Int))) else none) else none))
def f81 (k : Nat) (a0_0 : Int) : Option (ByteArray) := (f81.l2 k ([] : List Int) a0_0)
def f115 (k : Nat) (a2_0 : Int) (o0 : List Int) : Option ((List Int)) := (if (o0.length + 4) * 1 ≤ 70368744177664 then (if o0.length + 4 ≤ 70368744177664 then some (o0 ++ ([(IntKind.u8.wrap a2_0), (IntKind.u8.wrap (shrI .u32 a2_0 8)), (IntKind.u8.wrap (shrI .u32 a2_0 16)), (IntKind.u8.wrap (shrI .u32 a2_0 24))] : List Int)) else none) else none)
def f80 (k : Nat) (a0_0 : Int) (a0_1 : ByteArray) : Option (ByteArray) := ((f60 k a0_0 1 100).bind fun t1 => (if t1 = true then (if 20000 < (a0_1.size : Int) then some (⟨#[]⟩ : ByteArray) else ((f115 k (IntKind.u32.wrap (a0_1.size : Int)) ([(IntKind.u8.wrap a0_0)] : List Int)).bind fun t2 => (if (t2.length + (bytesL a0_1).length) * 1 ≤ 70368744177664 then (if t2.length + (bytesL a0_1).length ≤ 70368744177664 then ((f116 k (strOf (t2 ++ (bytesL a0_1)))).bind fun t3 => ((f115 k t3 (t2 ++ (bytesL a0_1))).bind fun t4 => some (strOf t4))) else none) else none))) else some (⟨#[]⟩ : ByteArray)))
def f40 (k : Nat) (a0_0 : List S80) (a0_1 : List S80) (a0_2 : List S73) (a1_0 : Int) (a2_0 : Int) : Option (Int × (List S80) × (List S80) × (List S73)) := ((f49 k a0_0 a0_1 a0_2).bind fun t1 => (if t1 = true then ((f73 k a0_0 a0_1 a0_2).bind fun t2 => (if t2.2.2.1 = true then ((f78 k a1_0).bind fun t3 => (if t3 = true then ((f78 k a2_0).bind fun t4 => (if t4 = true then (if a1_0 < t2.1 then ((f79 k a0_0 a0_1 a0_2).bind fun t5 => some (10, t5.1, t5.2.1, t5.2.2)) else (if t2.1 = a1_0 then (if t2.2.1 = 0 then ((f81 k a1_0).bind fun t6 => ((f81 k a2_0).bind fun t7 => (if t6.size + t7.size ≤ 9223372036854775807 then ((f80 k 1 (t6 ++ t7)).bind fun t8 => ((f67 k a0_0 a0_1 a0_2 (⟨#[118, 111, 116, 101]⟩ : ByteArray) t8).bind fun t9 => (if t9.1 = 0 then ((f24 k t9.2.1 t9.2.2.1 t9.2.2.2).bind fun t10 => some (0, t10.1, t10.2.1, t10.2.2)) else ((f79 k a0_0 a0_1 a0_2).bind fun t11 => some (t9.1, t11.1, t11.2.1, t11.2.2))))) else none))) else (if t2.2.1 = a2_0 then ((f81 k a1_0).bind fun t12 => ((f81 k a2_0).bind fun t13 => (if t12.size + t13.size ≤ 9223372036854775807 then ((f80 k 1 (t12 ++ t13)).bind fun t14 => ((f67 k a0_0 a0_1 a0_2 (⟨#[118, 111, 116, 101]⟩ : ByteArray) t14).bind fun t15 => (if t15.1 = 0 then ((f24 k t15.2.1 t15.2.2.1 t15.2.2.2).bind fun t16 => some (0, t16.1, t16.2.1, t16.2.2)) else ((f79 k a0_0 a0_1 a0_2).bind fun t17 => some (t15.1, t17.1, t17.2.1, t17.2.2))))) else none))) else ((f79 k a0_0 a0_1 a0_2).bind fun t18 => some (10, t18.1, t18.2.1, t18.2.2)))) else ((f81 k a1_0).bind fun t19 => ((f81 k a2_0).bind fun t20 => (if t19.size + t20.size ≤ 9223372036854775807 then ((f80 k 1 (t19 ++ t20)).bind fun t21 => ((f67 k a0_0 a0_1 a0_2 (⟨#[118, 111, 116, 101]⟩ : ByteArray) t21).bind fun t22 => (if t22.1 = 0 then ((f24 k t22.2.1 t22.2.2.1 t22.2.2.2).bind fun t23 => some (0, t23.1, t23.2.1, t23.2.2)) else ((f79 k a0_0 a0_1 a0_2).bind fun t24 => some (t22.1, t24.1, t24.2.1, t24.2.2))))) else none))))) else ((f79 k a0_0 a0_1 a0_2).bind fun t25 => some (10, t25.1, t25.2.1, t25.2.2)))) else ((f79 k a0_0 a0_1 a0_2).bind fun t26 => some (10, t26.1, t26.2.1, t26.2.2)))) else ((f79 k a0_0 a0_1 a0_2).bind fun t27 => some (10, t27.1, t27.2.1, t27.2.2)))) else some (1, ([] : List S80), ([] : List S80), ([] : List S73))))
def f11 (k : Nat) (a0_0 : List S106) (a0_1 : List S106) (a0_2 : List S108) (a1_0 : Int) (a2_0 : Int) : Option (Bool) := ((f12 k a0_0 a0_1 a0_2 1048576).bind fun t1 => (if t1 < 0 then some true else ((f14 k a0_0 a0_1 a0_2).bind fun t2 => ((f39 k t2.1 t2.2.1 t2.2.2 a1_0 a2_0).bind fun t3 => ((f40 k t2.1 t2.2.1 t2.2.2 a1_0 a2_0).bind fun t4 => ((f16 k t4.2.1 t4.2.2.1 t4.2.2.2 t3.2.1 t3.2.2.1 t3.2.2.2).bind fun t5 => (if t5 = true then (if t4.1 = t3.1 then ((f16 k t2.1 t2.2.1 t2.2.2 t2.1 t2.2.1 t2.2.2).bind fun t6 => (if t6 = true then ((f29 k 1 t2.1 t2.2.1 t2.2.2).bind fun t7 => (if t7.1 < 0 then some false else ((f29 k 1 t4.2.1 t4.2.2.1 t4.2.2.2).bind fun t8 => (if t4.2.1.length ≤ t8.2.1.length then (if t4.2.2.1.length ≤ t8.2.2.1.length then (if t4.2.2.2.length ≤ t8.2.2.2.length then ((f30 k (t8.2.1.take t4.2.1.length) (t8.2.2.1.take t4.2.2.1.length) (t8.2.2.2.take t4.2.2.2.length) 1).bind fun t9 => (if t9 < 0 then some false else (if t9 = t8.1 then some true else some false))) else none) else none) else none)))) else some false)) else some false) else some false)))))))
end Go.Proofs.Ytfjoamlgbegpgaa.P
namespace Go.Proofs.Ytfjoamlgbegpgaa.P
open Go Go.Proofs.Ytfjoamlgbegpgaa.PM Go.Proofs
theorem rdF_nat (l : List S80) (i : Nat) (h : i < l.length) : at' l (i : Int) = l[i] := at_nat l i h
theorem rdO_nat (l : List S73) (i : Nat) (h : i < l.length) : at' l (i : Int) = l[i] := at_nat l i h
theorem wr {n : Int} (h1 : -9223372036854775808 ≤ n) (h2 : n ≤ 9223372036854775807) : IntKind.i64.wrap n = n := wrap_i64 h1 h2
theorem bless_lt : ∀ (x y : List UInt8), Op.bytesLess x y = decide (x < y)
  | [], [] => by simp [Op.bytesLess]
  | [], _ :: _ => by simp [Op.bytesLess]
  | _ :: _, [] => by simp [Op.bytesLess]
  | a :: x, b :: y => by
    rw [Op.bytesLess, bless_lt x y]
    rw [Bool.eq_iff_iff]
    simp [List.cons_lt_cons_iff]
theorem bless_irrefl (x : List UInt8) : Op.bytesLess x x = false := by
  rw [bless_lt]
  exact decide_eq_false (List.lt_irrefl x)
theorem bless_trans {x y z : List UInt8} (h : Op.bytesLess x y = true) (k : Op.bytesLess y z = true) : Op.bytesLess x z = true := by
  rw [bless_lt, decide_eq_true_eq] at *
  exact List.lt_trans h k
theorem bless_asymm {x y : List UInt8} (h : Op.bytesLess x y = true) : Op.bytesLess y x = false := by
  rw [bless_lt, decide_eq_true_eq] at h
  rw [bless_lt]
  exact decide_eq_false (List.lt_asymm h)
theorem bless_tri (x y : List UInt8) : Op.bytesLess x y = true ∨ x = y ∨ Op.bytesLess y x = true := by
  rw [bless_lt, bless_lt, decide_eq_true_eq, decide_eq_true_eq]
  by_cases h : x < y
  · exact .inl h
  · rcases List.le_iff_lt_or_eq.1 (List.not_lt.1 h) with h | h
    · exact .inr (.inr h)
    · exact .inr (.inl h.symm)
theorem cmp_neg (a b : List UInt8) : Lib.compareBytes a b < 0 ↔ Op.bytesLess a b = true := by
  induction a generalizing b with
  | nil => cases b <;> simp [Lib.compareBytes, Op.bytesLess]
  | cons x a ih =>
    cases b with
    | nil => simp [Lib.compareBytes, Op.bytesLess]
    | cons y b =>
      have := ih b
      rw [Op.bytesLess, Lib.compareBytes]
      by_cases h1 : x < y
      · simp [h1]
      · by_cases h2 : x = y
        · subst h2
          simpa [h1] using this
        · have h3 : y < x := by
            rw [UInt8.lt_iff_toNat_lt] at h1 ⊢
            have : x.toNat ≠ y.toNat := fun h => h2 (UInt8.toNat_inj.1 h)
            omega
          simp [h1, h2, h3]
theorem cmp_zero (a b : List UInt8) : Lib.compareBytes a b = 0 ↔ a = b := by
  induction a generalizing b with
  | nil => cases b <;> simp [Lib.compareBytes]
  | cons x a ih =>
    cases b with
    | nil => simp [Lib.compareBytes]
    | cons y b =>
      have := ih b
      rw [Lib.compareBytes]
      by_cases h1 : x < y
      · have : x ≠ y := fun h => by subst h; exact absurd h1 (by rw [UInt8.lt_iff_toNat_lt]; omega)
        simp [h1, this]
      · by_cases h3 : y < x
        · have : x ≠ y := fun h => by subst h; exact absurd h3 (by rw [UInt8.lt_iff_toNat_lt]; omega)
          simp [h1, h3, this]
        · have h2 : x = y := by
            rw [UInt8.lt_iff_toNat_lt] at h1 h3
            exact UInt8.toNat_inj.1 (by omega)
          subst h2
          simp [h1, this]
theorem bs_toList (s : ByteArray) : s.toList = s.data.toList := ByteArray.toList_eq s
theorem bs_inj {a b : ByteArray} : a.toList = b.toList ↔ a = b := by
  constructor
  · intro h
    rw [bs_toList, bs_toList] at h
    exact ByteArray.ext (Array.toList_inj.1 h)
  · rintro rfl
    rfl
def idxP {α : Type} (p : α → Bool) (xs : List α) : Int := match xs.findIdx? p with
  | some i => (i : Int)
  | none => -1
theorem getD_mem {α : Type} (z : α) (xs : List α) (i : Int) (h0 : 0 ≤ i) (h1 : i < xs.length) : xs.getD i.toNat z ∈ xs := by
  have h : i.toNat < xs.length := by omega
  rw [List.getD_eq_getElem?_getD, List.getElem?_eq_getElem h]
  exact List.getElem_mem h
theorem idxG_hit {α : Type} (z : α) (p : α → Bool) (xs : List α) (i : Int) (h0 : 0 ≤ i) (h1 : i < xs.length) (hp : p (xs.getD i.toNat z) = true) (hn : ∀ j : Nat, j < i.toNat → p (xs.getD j z) = false) : idxP p xs = i := by
  have h : i.toNat < xs.length := by omega
  have e : xs.findIdx? p = some i.toNat := by
    rw [List.findIdx?_eq_some_iff_getElem]
    refine ⟨h, ?_, ?_⟩
    · rw [List.getD_eq_getElem?_getD, List.getElem?_eq_getElem h] at hp
      exact hp
    · intro j hj
      have := hn j hj
      rw [List.getD_eq_getElem?_getD, List.getElem?_eq_getElem (by omega)] at this
      simp at this ⊢
      exact this
  unfold idxP
  rw [e]
  show ((i.toNat : Nat) : Int) = i
  omega
theorem idxG_miss {α : Type} (z : α) (p : α → Bool) (xs : List α) (i : Int) (h1 : (xs.length : Int) ≤ i) (hn : ∀ j : Nat, j < i.toNat → p (xs.getD j z) = false) : idxP p xs = -1 := by
  have e : xs.findIdx? p = none := by
    rw [List.findIdx?_eq_none_iff]
    intro x hx
    obtain ⟨j, hj, rfl⟩ := List.getElem_of_mem hx
    have := hn j (by omega)
    rw [List.getD_eq_getElem?_getD, List.getElem?_eq_getElem hj] at this
    exact this
  unfold idxP
  rw [e]
def cntLt {α : Type} (cf : α → Int) (xs : List α) : Nat := xs.countP (fun x => decide (cf x < 0))
def hitAt {α : Type} (z : α) (cf : α → Int) (xs : List α) : Bool := decide (cntLt cf xs < xs.length) && decide (cf (xs.getD (cntLt cf xs) z) = 0)
theorem countP_bound {α : Type} (p : α → Bool) (z : α) (l : List α) (i : Nat) (hi : i ≤ l.length) (h1 : ∀ t, t < i → p (l.getD t z) = true) (h2 : ∀ t, i ≤ t → t < l.length → p (l.getD t z) = false) : l.countP p = i := by
  conv => lhs; rw [← List.take_append_drop i l]
  rw [List.countP_append]
  have e1 : (l.take i).countP p = i := by
    rw [List.countP_eq_length.2]
    · rw [List.length_take]; omega
    · intro a ha
      obtain ⟨t, ht, rfl⟩ := List.getElem_of_mem ha
      rw [List.length_take] at ht
      have := h1 t (by omega)
      rw [List.getD_eq_getElem?_getD, List.getElem?_eq_getElem (by omega)] at this
      rw [List.getElem_take]
      exact this
  have e2 : (l.drop i).countP p = 0 := by
    rw [List.countP_eq_zero]
    intro a ha
    obtain ⟨t, ht, rfl⟩ := List.getElem_of_mem ha
    rw [List.length_drop] at ht
    have := h2 (i + t) (by omega) (by omega)
    rw [List.getD_eq_getElem?_getD, List.getElem?_eq_getElem (by omega)] at this
    rw [List.getElem_drop]
    simpa using this
  omega
def nameIs (n : ByteArray) (x : S80) : Bool := x.f0.toList == n.toList
def nameCmp (n : ByteArray) (x : S80) : Int := Lib.compareBytes x.f0.data.toList n.data.toList
def risesF (l : List S80) : Prop := l.Pairwise (fun a b => Op.bytesLess a.f0.toList b.f0.toList = true)
instance (l : List S80) : Decidable (risesF l) := by unfold risesF; infer_instance
def putF (l : List S80) (n d : ByteArray) : List S80 :=
  if hitAt (default : S80) (nameCmp n) l = true then l.set (cntLt (nameCmp n) l) ⟨n, d⟩ else l.take (cntLt (nameCmp n) l) ++ (⟨n, d⟩ :: l.drop (cntLt (nameCmp n) l))
theorem risesF_mono {l : List S80} (h : risesF l) (n : ByteArray) (a b : Nat) (hab : a ≤ b) (hb : b < l.length) (hlt : nameCmp n (l.getD b (default : S80)) < 0) : nameCmp n (l.getD a (default : S80)) < 0 := by
  by_cases he : a = b
  · rw [he]; exact hlt
  · have ha : a < l.length := by omega
    have hp := List.pairwise_iff_getElem.1 h a b ha hb (by omega)
    unfold nameCmp at hlt ⊢
    rw [cmp_neg] at hlt ⊢
    rw [List.getD_eq_getElem?_getD, List.getElem?_eq_getElem hb] at hlt
    rw [List.getD_eq_getElem?_getD, List.getElem?_eq_getElem ha]
    rw [bs_toList, bs_toList] at hp
    exact bless_trans hp hlt
theorem cntLt_le {α : Type} (cf : α → Int) (l : List α) : cntLt cf l ≤ l.length := List.countP_le_length
def onF (l : List S80) (k : Int) (n t d : ByteArray) : List S80 × Bool :=
  if k = 1 then (putF l n (if 0 ≤ idxP (nameIs n) l then (at' l (idxP (nameIs n) l)).f1 ++ d else d), true)
  else if 0 ≤ idxP (nameIs n) l then
    if k = 3 then (l.take (idxP (nameIs n) l).toNat ++ l.drop ((idxP (nameIs n) l).toNat + 1), true)
    else (putF (l.take (idxP (nameIs n) l).toNat ++ l.drop ((idxP (nameIs n) l).toNat + 1)) t (at' l (idxP (nameIs n) l)).f1, true)
  else (l, false)
theorem idxP_lt {α : Type} (p : α → Bool) (l : List α) : idxP p l < (l.length : Int) := by
  unfold idxP
  cases h : l.findIdx? p with
  | none => simp <;> omega
  | some i =>
    rw [List.findIdx?_eq_some_iff_getElem] at h
    obtain ⟨hi, _⟩ := h
    simpa using hi
theorem idxP_ge {α : Type} (p : α → Bool) (l : List α) : -1 ≤ idxP p l := by
  unfold idxP
  cases h : l.findIdx? p with
  | none => simp
  | some i => simp <;> omega
theorem idxP_at {α : Type} (p : α → Bool) (z : α) (l : List α) (h : 0 ≤ idxP p l) : p (l.getD (idxP p l).toNat z) = true := by
  unfold idxP at h ⊢
  cases hf : l.findIdx? p with
  | none => rw [hf] at h; simp at h
  | some i =>
    rw [List.findIdx?_eq_some_iff_getElem] at hf
    obtain ⟨hi, hp, _⟩ := hf
    simp only [Int.toNat_natCast]
    rw [List.getD_eq_getElem?_getD, List.getElem?_eq_getElem hi]
    exact hp
theorem risesF_cut {l : List S80} (h : risesF l) (i : Nat) : risesF (l.take i ++ l.drop (i + 1)) := by
  refine List.Pairwise.sublist ?_ h
  conv => rhs; rw [← List.take_append_drop i l]
  refine List.Sublist.append (List.Sublist.refl _) ?_
  rw [← List.drop_drop]
  exact List.drop_sublist _ _
def nameB (n : ByteArray) : Bool := decide (1 ≤ n.size) && decide (n.size ≤ 100)
def upB : Option ByteArray → ByteArray → Bool
  | none, _ => true
  | some q, n => Op.bytesLess q.toList n.toList
def namesB (p : Option ByteArray) : List S80 → Bool
  | [] => true
  | x :: r => nameB x.f0 && (upB p x.f0 && namesB (some x.f0) r)
def sumF (l : List S80) : Nat := (l.map (fun x => x.f1.size)).sum
def filesB (l : List S80) : Bool := namesB none l && (decide (sumF l ≤ 200000) && decide (l.length ≤ 60))
def smallF (l : List S80) : Prop := ∀ x ∈ l, x.f1.size ≤ 1099511627776
def prevF (l : List S80) (i : Nat) : Option ByteArray := if i = 0 then none else some (at' l ((i - 1 : Nat) : Int)).f0
theorem prevF_succ (l : List S80) (i : Nat) (h : i < l.length) : prevF l (i + 1) = some l[i].f0 := by
  unfold prevF
  rw [if_neg (by omega), Nat.add_sub_cancel, rdF_nat l i h]
theorem namesB_step (l : List S80) (i : Nat) (h : i < l.length) : namesB (prevF l i) (l.drop i) = (nameB l[i].f0 && ((if i = 0 then true else Op.bytesLess (at' l ((i - 1 : Nat) : Int)).f0.toList l[i].f0.toList) && namesB (prevF l (i + 1)) (l.drop (i + 1)))) := by
  rw [List.drop_eq_getElem_cons h, namesB, prevF_succ l i h]
  unfold prevF
  by_cases hi : i = 0
  · rw [if_pos hi, if_pos hi]
    rfl
  · rw [if_neg hi, if_neg hi]
    rfl
theorem sumF_step (l : List S80) (i : Nat) (h : i < l.length) : sumF (l.drop i) = l[i].f1.size + sumF (l.drop (i + 1)) := by
  rw [List.drop_eq_getElem_cons h]
  unfold sumF
  rw [List.map_cons, List.sum_cons]
theorem sumF_end (l : List S80) (i : Nat) (h : l.length ≤ i) : sumF (l.drop i) = 0 := by
  rw [List.drop_of_length_le h]
  rfl
theorem namesB_end (l : List S80) (i : Nat) (h : l.length ≤ i) : namesB (prevF l i) (l.drop i) = true := by
  rw [List.drop_of_length_le h]
  rfl
theorem namesB_rise : ∀ (l : List S80) (p : Option ByteArray), namesB p l = true → risesF l ∧ ∀ q, p = some q → ∀ x ∈ l, Op.bytesLess q.toList x.f0.toList = true
  | [], p, _ => ⟨List.Pairwise.nil, fun _ _ x hx => by cases hx⟩
  | x :: r, p, h => by
    rw [namesB, Bool.and_eq_true, Bool.and_eq_true] at h
    obtain ⟨_, h1, h2⟩ := h
    obtain ⟨i1, i2⟩ := namesB_rise r _ h2
    refine ⟨List.Pairwise.cons (fun y hy => i2 _ rfl y hy) i1, ?_⟩
    rintro q rfl y hy
    rcases List.mem_cons.1 hy with rfl | hy
    · exact h1
    · exact bless_trans h1 (i2 _ rfl y hy)
theorem mem_sumF (l : List S80) (x : S80) (hx : x ∈ l) : x.f1.size ≤ sumF l := by
  induction l with
  | nil => cases hx
  | cons y r ih =>
    unfold sumF at ih ⊢
    rw [List.map_cons, List.sum_cons]
    rcases List.mem_cons.1 hx with rfl | hx
    · omega
    · have := ih hx
      omega
theorem filesB_said {l : List S80} (h : filesB l = true) : risesF l ∧ l.length ≤ 60 ∧ ∀ x ∈ l, x.f1.size ≤ 200000 := by
  unfold filesB at h
  rw [Bool.and_eq_true, Bool.and_eq_true, decide_eq_true_eq, decide_eq_true_eq] at h
  exact ⟨(namesB_rise l none h.1).1, h.2.2, fun x hx => by have := mem_sumF l x hx; omega⟩
def eqF (a b : S80) : Bool := (a.f0.toList == b.f0.toList) && (a.f1.toList == b.f1.toList)
def sameF : List S80 → List S80 → Bool
  | [], [] => true
  | a :: l, b :: m => eqF a b && sameF l m
  | _, _ => false
theorem sameF_len : ∀ (l m : List S80), l.length ≠ m.length → sameF l m = false
  | [], [], h => absurd rfl h
  | [], _ :: _, _ => rfl
  | _ :: _, [], _ => rfl
  | a :: l, b :: m, h => by rw [sameF, sameF_len l m (by simpa using h), Bool.and_false]
theorem sameF_step (l m : List S80) (i : Nat) (h : i < l.length) (h' : i < m.length) : sameF (l.drop i) (m.drop i) = (eqF l[i] m[i] && sameF (l.drop (i + 1)) (m.drop (i + 1))) := by
  rw [List.drop_eq_getElem_cons h, List.drop_eq_getElem_cons h', sameF]
def emptyB (s : ByteArray) : Bool := s.toList == ([] : List UInt8)
def formB (k : Int) (n t d : ByteArray) : Bool :=
  if k = 1 then nameB n && emptyB t else if k = 2 then nameB n && (nameB t && emptyB d) else if k = 3 then nameB n && (emptyB t && emptyB d) else false
def putS (n d : ByteArray) : Bool → List S80 → List S80
  | done, [] => if done then [] else [⟨n, d⟩]
  | done, x :: r => (if !done && !(Op.bytesLess x.f0.toList n.toList) then [⟨n, d⟩] else []) ++ ((if nameIs n x then [] else [x]) ++ putS n d (done || !(Op.bytesLess x.f0.toList n.toList)) r)
def runB (live : List S80) : List S80 → List S73 → Bool
  | now, [] => sameF now live
  | now, op :: r => formB op.f0 op.f1 op.f2 op.f3 && ((onF now op.f0 op.f1 op.f2 op.f3).2 && (filesB (onF now op.f0 op.f1 op.f2 op.f3).1 && runB live (onF now op.f0 op.f1 op.f2 op.f3).1 r))
def diskB (live safe : List S80) (ops : List S73) : Bool := filesB live && (filesB safe && (decide (ops.length ≤ 200) && runB live safe ops))
theorem onF_small {now : List S80} (hn : ∀ x ∈ now, x.f1.size ≤ 200000) (k : Int) (n t d : ByteArray) (hd : d.size ≤ 1099511627776) : (onF now k n t d).2 = true → ∀ x ∈ (onF now k n t d).1, x.f1.size ≤ 1099512000000 := by
  have hput : ∀ (l : List S80) (m e : ByteArray), (∀ x ∈ l, x.f1.size ≤ 200000) → e.size ≤ 1099512000000 → ∀ x ∈ putF l m e, x.f1.size ≤ 1099512000000 := by
    intro l m e hl he x hx
    unfold putF at hx
    split at hx
    · rcases List.mem_or_eq_of_mem_set hx with hx | rfl
      · have := hl x hx; omega
      · exact he
    · rcases List.mem_append.1 hx with hx | hx
      · have := hl x (List.mem_of_mem_take hx); omega
      · rcases List.mem_cons.1 hx with rfl | hx
        · exact he
        · have := hl x (List.mem_of_mem_drop hx); omega
  have hcut : ∀ x ∈ now.take (idxP (nameIs n) now).toNat ++ now.drop ((idxP (nameIs n) now).toNat + 1), x.f1.size ≤ 200000 := by
    intro x hx
    rcases List.mem_append.1 hx with hx | hx
    · exact hn x (List.mem_of_mem_take hx)
    · exact hn x (List.mem_of_mem_drop hx)
  have hat : 0 ≤ idxP (nameIs n) now → (at' now (idxP (nameIs n) now)).f1.size ≤ 200000 := fun h => hn _ (getD_mem (default : S80) now _ h (idxP_lt _ _))
  unfold onF
  split
  · intro _
    refine hput now n _ hn ?_
    split
    · rw [ByteArray.size_append]
      have := hat (by assumption)
      omega
    · omega
  · split
    · split
      · intro _ x hx
        have := hcut x hx
        omega
      · intro _
        refine hput _ t _ hcut ?_
        have := hat (by assumption)
        omega
    · intro h
      cases h
theorem putS_true (n d : ByteArray) : ∀ l : List S80, putS n d true l = l.filter (fun x => !nameIs n x)
  | [] => rfl
  | x :: r => by
    rw [putS, List.filter_cons, Bool.true_or, putS_true n d r]
    cases nameIs n x <;> simp
theorem nameIs_iff (n : ByteArray) (x : S80) : nameIs n x = true ↔ x.f0 = n := by
  unfold nameIs
  rw [beq_iff_eq, bs_inj]
theorem nameCmp_neg (n : ByteArray) (x : S80) : nameCmp n x < 0 ↔ Op.bytesLess x.f0.toList n.toList = true := by
  unfold nameCmp
  rw [cmp_neg, bs_toList, bs_toList]
theorem nameCmp_zero (n : ByteArray) (x : S80) : nameCmp n x = 0 ↔ x.f0 = n := by
  unfold nameCmp
  rw [cmp_zero, ← bs_toList, ← bs_toList, bs_inj]
theorem cntLt_none {l : List S80} (n : ByteArray) (h : ∀ y ∈ l, Op.bytesLess y.f0.toList n.toList = false) : cntLt (nameCmp n) l = 0 := by
  unfold cntLt
  rw [List.countP_eq_zero]
  intro y hy
  have := h y hy
  simp only [decide_eq_true_eq, nameCmp_neg, this]
  simp
theorem filter_above {l : List S80} (n : ByteArray) (h : ∀ y ∈ l, Op.bytesLess n.toList y.f0.toList = true) : l.filter (fun x => !nameIs n x) = l := by
  rw [List.filter_eq_self]
  intro y hy
  have := h y hy
  rw [Bool.not_eq_true', Bool.eq_false_iff]
  intro he
  rw [nameIs_iff] at he
  rw [he, bless_irrefl] at this
  cases this
theorem putS_putF (n d : ByteArray) : ∀ l : List S80, risesF l → putS n d false l = putF l n d
  | [], _ => by
    unfold putF cntLt hitAt
    simp [putS]
  | x :: r, h => by
    have hr : risesF r := (List.pairwise_cons.1 h).2
    have hx := (List.pairwise_cons.1 h).1
    rw [putS]
    cases hl : Op.bytesLess x.f0.toList n.toList with
    | true =>
      have hni : nameIs n x = false := by
        rw [Bool.eq_false_iff]
        intro he
        rw [nameIs_iff] at he
        rw [he, bless_irrefl] at hl
        cases hl
      have hc : cntLt (nameCmp n) (x :: r) = cntLt (nameCmp n) r + 1 := by
        unfold cntLt
        exact List.countP_cons_of_pos (p := fun y => decide (nameCmp n y < 0)) (decide_eq_true ((nameCmp_neg n x).2 hl))
      have hh : hitAt (default : S80) (nameCmp n) (x :: r) = hitAt (default : S80) (nameCmp n) r := by
        unfold hitAt
        rw [hc, List.getD_cons_succ, List.length_cons]
        congr 1
        exact decide_eq_decide.2 (by omega)
      rw [hni, show (false || !true) = false from rfl, putS_putF n d r hr]
      unfold putF
      rw [hh, hc]
      cases hitAt (default : S80) (nameCmp n) r <;> simp
    | false =>
      have hnone : ∀ y ∈ r, Op.bytesLess y.f0.toList n.toList = false := by
        intro y hy
        rw [Bool.eq_false_iff]
        intro hlt
        have := bless_trans (hx y hy) hlt
        rw [hl] at this
        cases this
      have hc : cntLt (nameCmp n) (x :: r) = 0 := cntLt_none n (fun y hy => by
        rcases List.mem_cons.1 hy with rfl | hy
        · exact hl
        · exact hnone y hy)
      have hh : hitAt (default : S80) (nameCmp n) (x :: r) = nameIs n x := by
        unfold hitAt
        rw [hc, List.getD_cons_zero, decide_eq_true (by simp), Bool.true_and, Bool.eq_iff_iff, decide_eq_true_eq, nameCmp_zero, nameIs_iff]
      have hab : ∀ y ∈ r, Op.bytesLess n.toList y.f0.toList = true := by
        intro y hy
        rcases bless_tri x.f0.toList n.toList with h1 | h1 | h1
        · rw [hl] at h1; cases h1
        · rw [← h1]; exact hx y hy
        · exact bless_trans h1 (hx y hy)
      have hput : putS n d true r = r := by rw [putS_true, filter_above n hab]
      unfold putF
      rw [hh, hc]
      simp only [Bool.not_false, Bool.false_or, Bool.true_and, if_true, hput]
      cases nameIs n x <;> simp
theorem cut_filter (n : ByteArray) (l : List S80) (h : risesF l) (h0 : 0 ≤ idxP (nameIs n) l) : l.filter (fun x => !nameIs n x) = l.take (idxP (nameIs n) l).toNat ++ l.drop ((idxP (nameIs n) l).toNat + 1) := by
  have hlt : (idxP (nameIs n) l).toNat < l.length := by
    have := idxP_lt (nameIs n) l
    omega
  have hat := idxP_at (nameIs n) (default : S80) l h0
  generalize (idxP (nameIs n) l).toNat = i at *
  rw [List.getD_eq_getElem?_getD, List.getElem?_eq_getElem hlt] at hat
  change nameIs n l[i] = true at hat
  rw [nameIs_iff] at hat
  have e : l = l.take i ++ (l[i] :: l.drop (i + 1)) := by rw [← List.drop_eq_getElem_cons hlt, List.take_append_drop]
  have hp : risesF (l.take i ++ (l[i] :: l.drop (i + 1))) := by rw [← e]; exact h
  obtain ⟨_, p2, p3⟩ := List.pairwise_append.1 hp
  have q := (List.pairwise_cons.1 p2).1
  conv => lhs; rw [e]
  rw [List.filter_append, List.filter_cons, show nameIs n l[i] = true from (nameIs_iff n _).2 hat]
  have e1 : (l.take i).filter (fun x => !nameIs n x) = l.take i := by
    rw [List.filter_eq_self]
    intro y hy
    have := p3 y hy l[i] List.mem_cons_self
    rw [Bool.not_eq_true', Bool.eq_false_iff]
    intro he
    rw [nameIs_iff] at he
    rw [he, hat, bless_irrefl] at this
    cases this
  have e2 : (l.drop (i + 1)).filter (fun x => !nameIs n x) = l.drop (i + 1) := filter_above n (fun y hy => by rw [← hat]; exact q y hy)
  rw [e1]
  simp only [Bool.not_true]
  rw [if_neg (by simp), e2]
def doS (l : List S80) (k : Int) (n t d : ByteArray) : List S80 × Bool :=
  if k = 1 then (putF l n (if 0 ≤ idxP (nameIs n) l then (at' l (idxP (nameIs n) l)).f1 ++ d else d), true)
  else if 0 ≤ idxP (nameIs n) l then
    if k = 2 then (putF (l.take (idxP (nameIs n) l).toNat ++ l.drop ((idxP (nameIs n) l).toNat + 1)) t (at' l (idxP (nameIs n) l)).f1, true)
    else (l.take (idxP (nameIs n) l).toNat ++ l.drop ((idxP (nameIs n) l).toNat + 1), true)
  else (l, false)
theorem doS_onF (l : List S80) (k : Int) (n t d : ByteArray) (h : formB k n t d = true) : doS l k n t d = onF l k n t d := by
  have hk : k = 1 ∨ k = 2 ∨ k = 3 := by
    unfold formB at h
    by_cases h1 : k = 1
    · exact .inl h1
    · by_cases h2 : k = 2
      · exact .inr (.inl h2)
      · by_cases h3 : k = 3
        · exact .inr (.inr h3)
        · rw [if_neg h1, if_neg h2, if_neg h3] at h
          cases h
  unfold doS onF
  rcases hk with rfl | rfl | rfl <;> simp
theorem doS_ok (l : List S80) (k : Int) (n t d : ByteArray) : (doS l k n t d).2 = (onF l k n t d).2 := by
  unfold doS onF
  by_cases h1 : k = 1
  · simp [h1]
  · by_cases h : 0 ≤ idxP (nameIs n) l
    · by_cases h2 : k = 2 <;> by_cases h3 : k = 3 <;> simp [h1, h, h2, h3]
    · simp [h1, h]
theorem doS_small {now : List S80} (hn : ∀ x ∈ now, x.f1.size ≤ 200000) (k : Int) (n t d : ByteArray) (hf : formB k n t d = true) (hd : d.size ≤ 1099511627776) (ho : (doS now k n t d).2 = true) : ∀ x ∈ (doS now k n t d).1, x.f1.size ≤ 1099512000000 := by
  rw [doS_onF now k n t d hf] at ho ⊢
  exact onF_small hn k n t d hd ho
end Go.Proofs.Ytfjoamlgbegpgaa.P
namespace Go.Proofs.Ytfjoamlgbegpgaa.P
open Go Go.Proofs.Ytfjoamlgbegpgaa.PM Go.Proofs
theorem strLt_eq (a b : ByteArray) : strLt a b = Op.bytesLess a.toList b.toList := rfl
theorem isFileName_ev (n : ByteArray) : Ev (fun k => f101 k n) (nameB n) := by
  unfold f101 nameB
  refine Ev.ite (fun h => Ev.ret' ?_) (fun h => Ev.ret' ?_)
  · rw [decide_eq_true (by omega : 1 ≤ n.size), Bool.true_and]
    exact decide_eq_decide.2 (by omega)
  · rw [decide_eq_false (by omega : ¬ 1 ≤ n.size), Bool.false_and]
theorem l4Name_ev (n : ByteArray) : Ev (fun k => f84 k n) (nameB n) := isFileName_ev n
theorem areFiles_loop (l : List S80) (hs : ∀ x ∈ l, x.f1.size ≤ 1099512000000) (hl : l.length ≤ 4611686018427387904) (d : Nat) : ∀ (i b : Nat), l.length - i = d → i ≤ l.length → b ≤ 200000 →
    Ev (fun k => f62.l3 k l (b : Int) l (l.length : Int) (i : Int)) (namesB (prevF l i) (l.drop i) && (decide (b + sumF (l.drop i) ≤ 200000) && decide (l.length ≤ 60))) := by
  induction d with
  | zero =>
    intro i b hd hi hb
    refine Ev.step (fun k => by rw [f62.l3]) (Ev.neg (by omega) (Ev.ret' ?_))
    rw [namesB_end l i (by omega), sumF_end l i (by omega), Bool.true_and, Nat.add_zero, decide_eq_true hb, Bool.true_and]
    exact decide_eq_decide.2 (by omega)
  | succ d ih =>
    intro i b hd hi hb
    have hlt : i < l.length := by omega
    have hsz := hs _ (List.getElem_mem hlt)
    refine Ev.step (fun k => by rw [f62.l3]) (Ev.pos (by omega) (Ev.pos (by omega) (Ev.pos (by omega) ?_)))
    rw [namesB_step l i hlt, sumF_step l i hlt, rdF_nat l i hlt]
    refine Ev.bind (isFileName_ev _) ?_
    cases hn : nameB l[i].f0 with
    | false => exact Ev.neg (by simp) (Ev.ret' (by simp))
    | true =>
      refine Ev.pos rfl ?_
      rw [wr (n := (b : Int) + (l[i].f1.size : Int)) (by omega) (by omega)]
      by_cases hbig : 200000 < (b : Int) + (l[i].f1.size : Int)
      · refine Ev.pos hbig (Ev.ret' ?_)
        rw [decide_eq_false (by omega : ¬ b + (l[i].f1.size + sumF (l.drop (i + 1))) ≤ 200000)]
        simp
      · refine Ev.neg hbig ?_
        have hih := ih (i + 1) (b + l[i].f1.size) (by omega) (by omega) (by omega)
        rw [show ((b + l[i].f1.size : Nat) : Int) = (b : Int) + (l[i].f1.size : Int) by omega, Nat.add_assoc] at hih
        rw [show ((i + 1 : Nat) : Int) = IntKind.i64.wrap ((i : Int) + 1) by rw [wr (by omega) (by omega)]; omega] at hih
        by_cases h0 : (0 : Int) < (i : Int)
        · refine Ev.pos h0 ?_
          have e1 : IntKind.i64.wrap ((i : Int) - 1) = ((i - 1 : Nat) : Int) := by rw [wr (by omega) (by omega)]; omega
          rw [e1, if_neg (by omega)]
          refine Ev.pos (by omega) (Ev.pos (by omega) ?_)
          rw [strLt_eq]
          cases hc : Op.bytesLess (at' l ((i - 1 : Nat) : Int)).f0.toList l[i].f0.toList with
          | true => exact Ev.pos rfl (Ev.eq hih (by simp))
          | false => exact Ev.neg (by simp) (Ev.ret' (by simp))
        · refine Ev.neg h0 ?_
          rw [if_pos (by omega)]
          exact Ev.eq hih (by simp)
theorem areFiles_ev (l : List S80) (hs : ∀ x ∈ l, x.f1.size ≤ 1099512000000) (hl : l.length ≤ 4611686018427387904) : Ev (fun k => f62 k l) (filesB l) := by
  have := areFiles_loop l hs hl _ 0 0 rfl (Nat.zero_le _) (by omega)
  rw [Nat.zero_add] at this
  exact this
theorem l4Files_loop (l : List S80) (hs : ∀ x ∈ l, x.f1.size ≤ 1099512000000) (hl : l.length ≤ 60) (d : Nat) : ∀ (i b : Nat), l.length - i = d → i ≤ l.length → b ≤ i * 1099512000000 →
    Ev (fun k => f43.l5 k l (b : Int) (i : Int)) (namesB (prevF l i) (l.drop i) && decide (b + sumF (l.drop i) ≤ 200000)) := by
  induction d with
  | zero =>
    intro i b hd hi hb
    refine Ev.step (fun k => by rw [f43.l5]) (Ev.neg (by omega) (Ev.ret' ?_))
    rw [namesB_end l i (by omega), sumF_end l i (by omega), Bool.true_and, Nat.add_zero]
    exact decide_eq_decide.2 (by omega)
  | succ d ih =>
    intro i b hd hi hb
    have hlt : i < l.length := by omega
    have hsz := hs _ (List.getElem_mem hlt)
    refine Ev.step (fun k => by rw [f43.l5]) (Ev.pos (by omega) (Ev.pos (by omega) ?_))
    rw [namesB_step l i hlt, sumF_step l i hlt, rdF_nat l i hlt]
    refine Ev.bind (l4Name_ev _) ?_
    cases hn : nameB l[i].f0 with
    | false => exact Ev.neg (by simp) (Ev.ret' (by simp))
    | true =>
      refine Ev.pos rfl ?_
      rw [wr (n := (b : Int) + (l[i].f1.size : Int)) (by omega) (by omega)]
      have hih := ih (i + 1) (b + l[i].f1.size) (by omega) (by omega) (by omega)
      rw [show ((b + l[i].f1.size : Nat) : Int) = (b : Int) + (l[i].f1.size : Int) by omega, Nat.add_assoc] at hih
      rw [show ((i + 1 : Nat) : Int) = IntKind.i64.wrap ((i : Int) + 1) by rw [wr (by omega) (by omega)]; omega] at hih
      by_cases h0 : (0 : Int) < (i : Int)
      · refine Ev.pos h0 ?_
        have e1 : IntKind.i64.wrap ((i : Int) - 1) = ((i - 1 : Nat) : Int) := by rw [wr (by omega) (by omega)]; omega
        rw [e1, if_neg (by omega)]
        refine Ev.pos (by omega) (Ev.pos (by omega) ?_)
        have hor : (strLt l[i].f0 (at' l ((i - 1 : Nat) : Int)).f0 || strEq l[i].f0 (at' l ((i - 1 : Nat) : Int)).f0) = !(Op.bytesLess (at' l ((i - 1 : Nat) : Int)).f0.toList l[i].f0.toList) := by
          generalize (at' l ((i - 1 : Nat) : Int)).f0 = p
          generalize l[i].f0 = q
          rw [strLt_eq]
          rcases bless_tri p.toList q.toList with h | h | h
          · rw [h, bless_asymm h]
            have : strEq q p = false := by
              rw [Bool.eq_false_iff]; intro e
              rw [(strEq_iff _ _).1 e, bless_irrefl] at h; cases h
            rw [this]; rfl
          · rw [bs_inj] at h; subst h
            rw [bless_irrefl, strEq_self]; rfl
          · rw [h, bless_asymm h]; rfl
        rw [hor]
        cases hc : Op.bytesLess (at' l ((i - 1 : Nat) : Int)).f0.toList l[i].f0.toList with
        | true => exact Ev.neg (by simp) (Ev.eq hih (by simp))
        | false => exact Ev.pos rfl (Ev.ret' (by simp))
      · refine Ev.neg h0 ?_
        rw [if_pos (by omega)]
        exact Ev.eq hih (by simp)
theorem l4Files_ev (l : List S80) (hs : ∀ x ∈ l, x.f1.size ≤ 1099512000000) : Ev (fun k => f43 k l) (filesB l) := by
  unfold f43 filesB
  by_cases h : 60 < (l.length : Int)
  · refine Ev.pos h (Ev.ret' ?_)
    rw [decide_eq_false (by omega : ¬ l.length ≤ 60)]
    simp
  · refine Ev.neg h ?_
    have := l4Files_loop l hs (by omega) _ 0 0 rfl (Nat.zero_le _) (by omega)
    rw [Nat.zero_add] at this
    exact Ev.eq this (by rw [decide_eq_true (by omega : l.length ≤ 60), Bool.and_true]; rfl)
theorem eqF_eq (a b : S80) : (strEq a.f0 b.f0 && strEq a.f1 b.f1) = eqF a b := rfl
theorem equal_loop (l m : List S80) (hm : l.length = m.length) (hl : l.length ≤ 4611686018427387904) (d : Nat) : ∀ i : Nat, l.length - i = d → i ≤ l.length → Ev (fun k => f90.l4 k l m (l.length : Int) (i : Int)) (sameF (l.drop i) (m.drop i)) := by
  induction d with
  | zero =>
    intro i hd hi
    refine Ev.step (fun k => by rw [f90.l4]) (Ev.neg (by omega) (Ev.ret' ?_))
    rw [List.drop_of_length_le (by omega), List.drop_of_length_le (by omega), sameF]
  | succ d ih =>
    intro i hd hi
    have h1 : i < l.length := by omega
    have h2 : i < m.length := by omega
    refine Ev.step (fun k => by rw [f90.l4]) (Ev.pos (by omega) (Ev.pos (by omega) (Ev.pos (by omega) (Ev.pos (by omega) ?_))))
    have hn := ih (i + 1) (by omega) (by omega)
    rw [show ((i + 1 : Nat) : Int) = IntKind.i64.wrap ((i : Int) + 1) by rw [wr (by omega) (by omega)]; omega] at hn
    rw [rdF_nat l i h1, rdF_nat m i h2, eqF_eq, sameF_step l m i h1 h2]
    cases he : eqF l[i] m[i] with
    | false => exact Ev.neg (by simp) (Ev.ret' (by simp))
    | true => exact Ev.pos rfl (Ev.eq hn (by simp))
theorem equal_ev (l m : List S80) (hl : l.length ≤ 4611686018427387904) : Ev (fun k => f90 k l m) (sameF l m) := by
  unfold f90
  by_cases h : l.length = m.length
  · exact Ev.pos (by omega) (equal_loop l m h hl _ 0 rfl (Nat.zero_le _))
  · exact Ev.neg (by omega) (Ev.ret' (sameF_len l m h).symm)
theorem l4Same_loop (l m : List S80) (hm : l.length = m.length) (hl : l.length ≤ 4611686018427387904) (d : Nat) : ∀ i : Nat, l.length - i = d → i ≤ l.length → Ev (fun k => f46.l4 k l m (i : Int)) (sameF (l.drop i) (m.drop i)) := by
  induction d with
  | zero =>
    intro i hd hi
    refine Ev.step (fun k => by rw [f46.l4]) (Ev.neg (by omega) (Ev.ret' ?_))
    rw [List.drop_of_length_le (by omega), List.drop_of_length_le (by omega), sameF]
  | succ d ih =>
    intro i hd hi
    have h1 : i < l.length := by omega
    have h2 : i < m.length := by omega
    refine Ev.step (fun k => by rw [f46.l4]) (Ev.pos (by omega) (Ev.pos (by omega) (Ev.pos (by omega) ?_)))
    have hn := ih (i + 1) (by omega) (by omega)
    rw [show ((i + 1 : Nat) : Int) = IntKind.i64.wrap ((i : Int) + 1) by rw [wr (by omega) (by omega)]; omega] at hn
    rw [rdF_nat l i h1, rdF_nat m i h2, eqF_eq, sameF_step l m i h1 h2]
    cases he : eqF l[i] m[i] with
    | false => exact Ev.neg (by simp) (Ev.ret' (by simp))
    | true => exact Ev.pos rfl (Ev.eq hn (by simp))
theorem l4Same_ev (l m : List S80) (hl : l.length ≤ 4611686018427387904) : Ev (fun k => f46 k l m) (sameF l m) := by
  unfold f46
  by_cases h : l.length = m.length
  · exact Ev.pos (by omega) (l4Same_loop l m h hl _ 0 rfl (Nat.zero_le _))
  · exact Ev.neg (by omega) (Ev.ret' (sameF_len l m h).symm)
theorem empty_eq (s : ByteArray) : strEq s (⟨#[]⟩ : ByteArray) = emptyB s := by
  unfold strEq emptyB
  rw [show (⟨#[]⟩ : ByteArray).toList = [] by rw [ByteArray.toList_eq]]
theorem isFormed_ev (k : Int) (n t d : ByteArray) : Ev (fun q => f89 q k n t d) (formB k n t d) := by
  unfold f89 formB
  simp only [empty_eq]
  by_cases h1 : k = 1
  · rw [if_pos h1]
    refine Ev.pos h1 (Ev.bind (isFileName_ev _) ?_)
    cases nameB n
    · exact Ev.neg (by simp) (Ev.ret' rfl)
    · exact Ev.pos rfl (Ev.ret' (by simp))
  rw [if_neg h1]
  by_cases h2 : k = 2
  · rw [if_pos h2]
    refine Ev.neg h1 (Ev.pos h2 (Ev.bind (isFileName_ev _) ?_))
    cases nameB n
    · exact Ev.neg (by simp) (Ev.ret' rfl)
    · refine Ev.pos rfl (Ev.bind (isFileName_ev _) ?_)
      cases nameB t
      · exact Ev.neg (by simp) (Ev.ret' (by simp))
      · exact Ev.pos rfl (Ev.ret' (by simp))
  rw [if_neg h2]
  by_cases h3 : k = 3
  · rw [if_pos h3]
    refine Ev.neg h1 (Ev.neg h2 (Ev.pos h3 (Ev.bind (isFileName_ev _) ?_)))
    cases nameB n
    · exact Ev.neg (by simp) (Ev.ret' rfl)
    · refine Ev.pos rfl ?_
      cases emptyB t
      · exact Ev.neg (by simp) (Ev.ret' (by simp))
      · exact Ev.pos rfl (Ev.ret' (by simp))
  · rw [if_neg h3]
    exact Ev.neg h1 (Ev.neg h2 (Ev.neg h3 (Ev.ret _)))
theorem l4Form_ev (k : Int) (n t d : ByteArray) : Ev (fun q => f45 q k n t d) (formB k n t d) := by
  unfold f45
  simp only [empty_eq]
  have hin : Ev (fun q => f58 q k 1 3) (decide (1 ≤ k) && decide (k ≤ 3)) := by
    unfold f58
    refine Ev.ite (fun h => Ev.ret' ?_) (fun h => Ev.ret' ?_)
    · rw [decide_eq_true h]; rfl
    · rw [decide_eq_false h]; rfl
  refine Ev.bind hin ?_
  by_cases hk : 1 ≤ k ∧ k ≤ 3
  · rw [decide_eq_true hk.1, decide_eq_true hk.2]
    refine Ev.pos rfl (Ev.bind (l4Name_ev _) ?_)
    unfold formB
    have h123 : k = 1 ∨ k = 2 ∨ k = 3 := by omega
    rcases h123 with rfl | rfl | rfl
    · cases nameB n
      · exact Ev.neg (by simp) (Ev.ret' (by simp))
      · refine Ev.pos rfl (Ev.neg (by omega) ?_)
        cases emptyB t
        · exact Ev.neg (by simp) (Ev.ret' (by simp))
        · exact Ev.pos rfl (Ev.pos rfl (Ev.ret' (by simp)))
    · cases nameB n
      · exact Ev.neg (by simp) (Ev.ret' (by simp))
      · refine Ev.pos rfl (Ev.pos rfl (Ev.bind (l4Name_ev _) ?_))
        cases nameB t
        · exact Ev.neg (by simp) (Ev.ret' (by simp))
        · exact Ev.pos rfl (Ev.ret' (by simp))
    · cases nameB n
      · exact Ev.neg (by simp) (Ev.ret' (by simp))
      · refine Ev.pos rfl (Ev.neg (by omega) ?_)
        cases emptyB t
        · exact Ev.neg (by simp) (Ev.ret' (by simp))
        · exact Ev.pos rfl (Ev.neg (by omega) (Ev.ret' (by simp)))
  · have hf : (decide (1 ≤ k) && decide (k ≤ 3)) = false := by
      rw [Bool.and_eq_false_iff, decide_eq_false_iff_not, decide_eq_false_iff_not]
      omega
    rw [hf]
    refine Ev.neg (by simp) (Ev.ret' ?_)
    unfold formB
    rw [if_neg (by omega), if_neg (by omega), if_neg (by omega)]
theorem l4At_loop (l : List S80) (n : ByteArray) (hl : l.length ≤ 4611686018427387904) (d : Nat) : ∀ i : Nat, l.length - i = d → i ≤ l.length → (∀ j : Nat, j < i → nameIs n (l.getD j default) = false) →
    Ev (fun k => f52.l2 k l n (i : Int)) (idxP (nameIs n) l) := by
  induction d with
  | zero =>
    intro i hd hi hn
    refine Ev.step (fun k => by rw [f52.l2]) (Ev.neg (by omega) (Ev.ret' ?_))
    rw [idxG_miss default (nameIs n) l (i : Int) (by omega) (fun j hj => hn j (by omega))]
  | succ d ih =>
    intro i hd hi hn
    have h1 : i < l.length := by omega
    refine Ev.step (fun k => by rw [f52.l2]) (Ev.pos (by omega) (Ev.pos (by omega) ?_))
    have e : at' l (i : Int) = l.getD i default := by unfold at'; rw [Int.toNat_natCast]
    have hs : strEq (at' l (i : Int)).f0 n = nameIs n (l.getD i default) := by rw [e]; rfl
    rw [hs]
    cases hc : nameIs n (l.getD i default) with
    | true =>
      refine Ev.pos rfl (Ev.ret' ?_)
      rw [idxG_hit default (nameIs n) l (i : Int) (by omega) (by omega) (by rw [Int.toNat_natCast]; exact hc) (fun j hj => hn j (by omega))]
    | false =>
      refine Ev.neg (by simp) ?_
      rw [show IntKind.i64.wrap ((i : Int) + 1) = ((i + 1 : Nat) : Int) by rw [wr (by omega) (by omega)]; omega]
      refine ih (i + 1) (by omega) (by omega) (fun j hj => ?_)
      by_cases hji : j = i
      · rw [hji]; exact hc
      · exact hn j (by omega)
theorem l4At_ev (l : List S80) (n : ByteArray) (hl : l.length ≤ 4611686018427387904) : Ev (fun k => f52 k l n) (idxP (nameIs n) l) :=
  l4At_loop l n hl _ 0 rfl (Nat.zero_le _) (fun j hj => absurd hj (Nat.not_lt_zero j))
theorem fileOf_loop (l : List S80) (n : ByteArray) (hl : l.length ≤ 4611686018427387904) (d : Nat) : ∀ i : Nat, l.length - i = d → i ≤ l.length → (∀ j : Nat, j < i → nameIs n (l.getD j default) = false) →
    Ev (fun k => f93.l2 k l (l.length : Int) (i : Int) n) (idxP (nameIs n) l, n) := by
  induction d with
  | zero =>
    intro i hd hi hn
    refine Ev.step (fun k => by rw [f93.l2]) (Ev.neg (by omega) (Ev.ret' ?_))
    rw [idxG_miss default (nameIs n) l (i : Int) (by omega) (fun j hj => hn j (by omega))]
  | succ d ih =>
    intro i hd hi hn
    have h1 : i < l.length := by omega
    refine Ev.step (fun k => by rw [f93.l2]) (Ev.pos (by omega) (Ev.pos (by omega) (Ev.pos (by omega) ?_)))
    have e : at' l (i : Int) = l.getD i default := by unfold at'; rw [Int.toNat_natCast]
    have hs : strEq (at' l (i : Int)).f0 n = nameIs n (l.getD i default) := by rw [e]; rfl
    refine Ev.bind (a := nameIs n (l.getD i default)) (by unfold f94; exact Ev.ret' hs) ?_
    cases hc : nameIs n (l.getD i default) with
    | true =>
      refine Ev.pos rfl (Ev.ret' ?_)
      rw [idxG_hit default (nameIs n) l (i : Int) (by omega) (by omega) (by rw [Int.toNat_natCast]; exact hc) (fun j hj => hn j (by omega))]
    | false =>
      refine Ev.neg (by simp) ?_
      rw [show IntKind.i64.wrap ((i : Int) + 1) = ((i + 1 : Nat) : Int) by rw [wr (by omega) (by omega)]; omega]
      refine ih (i + 1) (by omega) (by omega) (fun j hj => ?_)
      by_cases hji : j = i
      · rw [hji]; exact hc
      · exact hn j (by omega)
theorem fileOf_ev (l : List S80) (n : ByteArray) (hl : l.length ≤ 4611686018427387904) : Ev (fun k => f53 k l n) (idxP (nameIs n) l) := by
  unfold f53 f93
  exact Ev.bind (fileOf_loop l n hl _ 0 rfl (Nat.zero_le _) (fun j hj => absurd hj (Nat.not_lt_zero j))) (Ev.ret _)
theorem l4Cut_loop (l : List S80) (n : ByteArray) (hl : l.length ≤ 1073741824) (d : Nat) : ∀ (i : Nat) (out : List S80), l.length - i = d → i ≤ l.length → out.length ≤ i →
    Ev (fun k => f86.l3 k out l n (i : Int)) (out ++ (l.drop i).filter (fun x => !nameIs n x)) := by
  induction d with
  | zero =>
    intro i out hd hi ho
    refine Ev.step (fun k => by rw [f86.l3]) (Ev.neg (by omega) (Ev.ret' ?_))
    rw [List.drop_of_length_le (by omega)]
    simp
  | succ d ih =>
    intro i out hd hi ho
    have h1 : i < l.length := by omega
    refine Ev.step (fun k => by rw [f86.l3]) (Ev.pos (by omega) (Ev.pos (by omega) ?_))
    rw [rdF_nat l i h1, List.drop_eq_getElem_cons h1, List.filter_cons, show IntKind.i64.wrap ((i : Int) + 1) = ((i + 1 : Nat) : Int) by rw [wr (by omega) (by omega)]; omega]
    have hs : strEq l[i].f0 n = nameIs n l[i] := rfl
    rw [hs]
    cases hc : nameIs n l[i] with
    | true => exact Ev.pos rfl (ih (i + 1) out (by omega) (by omega) (by omega))
    | false =>
      refine Ev.neg (by simp) (Ev.pos (by omega) (Ev.pos (by omega) ?_))
      exact Ev.eq (ih (i + 1) (out ++ [l[i]]) (by omega) (by omega) (by simp; omega)) (by simp)
theorem l4Cut_ev (l : List S80) (n : ByteArray) (hl : l.length ≤ 1073741824) : Ev (fun k => f86 k l n) (l.filter (fun x => !nameIs n x)) :=
  l4Cut_loop l n hl _ 0 [] rfl (Nat.zero_le _) (Nat.le_refl _)
theorem l4Put_loop (l : List S80) (n dd : ByteArray) (hl : l.length ≤ 1073741824) (d : Nat) : ∀ (i : Nat) (out : List S80) (done : Bool), l.length - i = d → i ≤ l.length → out.length ≤ 2 * i →
    Ev (fun k => f85.l4 k out l n dd done (i : Int)) (out ++ putS n dd done (l.drop i)) := by
  induction d with
  | zero =>
    intro i out done hd hi ho
    refine Ev.step (fun k => by rw [f85.l4]) (Ev.neg (by omega) ?_)
    rw [List.drop_of_length_le (by omega), putS]
    cases done with
    | true => exact Ev.pos rfl (Ev.ret' (by simp))
    | false => exact Ev.neg (by simp) (Ev.pos (by omega) (Ev.pos (by omega) (Ev.ret' (by simp))))
  | succ d ih =>
    intro i out done hd hi ho
    have h1 : i < l.length := by omega
    refine Ev.step (fun k => by rw [f85.l4]) (Ev.pos (by omega) ?_)
    rw [rdF_nat l i h1, List.drop_eq_getElem_cons h1, putS, show IntKind.i64.wrap ((i : Int) + 1) = ((i + 1 : Nat) : Int) by rw [wr (by omega) (by omega)]; omega]
    have hs : strEq l[i].f0 n = nameIs n l[i] := rfl
    rw [hs, strLt_eq]
    cases done with
    | true =>
      refine Ev.pos rfl (Ev.pos (by omega) ?_)
      cases hc : nameIs n l[i] with
      | true => exact Ev.pos rfl (Ev.eq (ih (i + 1) out true (by omega) (by omega) (by omega)) (by simp))
      | false => exact Ev.neg (by simp) (Ev.pos (by omega) (Ev.pos (by omega) (Ev.eq (ih (i + 1) (out ++ [l[i]]) true (by omega) (by omega) (by simp; omega)) (by simp))))
    | false =>
      refine Ev.neg (by simp) (Ev.pos (by omega) ?_)
      cases hb : Op.bytesLess l[i].f0.toList n.toList with
      | true =>
        refine Ev.pos rfl ?_
        cases hc : nameIs n l[i] with
        | true => exact Ev.pos rfl (Ev.eq (ih (i + 1) out false (by omega) (by omega) (by omega)) (by simp))
        | false => exact Ev.neg (by simp) (Ev.pos (by omega) (Ev.pos (by omega) (Ev.eq (ih (i + 1) (out ++ [l[i]]) false (by omega) (by omega) (by simp; omega)) (by simp))))
      | false =>
        refine Ev.neg (by simp) (Ev.pos (by omega) (Ev.pos (by omega) ?_))
        cases hc : nameIs n l[i] with
        | true => exact Ev.pos rfl (Ev.eq (ih (i + 1) (out ++ [⟨n, dd⟩]) true (by omega) (by omega) (by simp; omega)) (by simp))
        | false => exact Ev.neg (by simp) (Ev.pos (by omega) (Ev.pos (by omega) (Ev.eq (ih (i + 1) (out ++ [⟨n, dd⟩] ++ [l[i]]) true (by omega) (by omega) (by simp; omega)) (by simp))))
theorem l4Put_ev (l : List S80) (n d : ByteArray) (hl : l.length ≤ 1073741824) : Ev (fun k => f85 k l n d) (putS n d false l) :=
  l4Put_loop l n d hl _ 0 [] false rfl (Nat.zero_le _) (Nat.le_refl _)
end Go.Proofs.Ytfjoamlgbegpgaa.P
namespace Go.Proofs.Ytfjoamlgbegpgaa.P
open Go Go.Proofs.Ytfjoamlgbegpgaa.PM Go.Proofs
theorem mid_eq (s : Nat) (h : s ≤ 4611686018427387904) : IntKind.i64.wrap (shrI .u64 (IntKind.u64.wrap (IntKind.i64.wrap (s : Int))) 1) = ((s / 2 : Nat) : Int) := by
  rw [wr (n := (s : Int)) (by omega) (by omega)]
  have hu : IntKind.u64.wrap (s : Int) = (s : Int) := IntWalk.u64_in _ ⟨by omega, by omega⟩
  rw [hu]
  have : shrI .u64 (s : Int) 1 = ((s / 2 : Nat) : Int) := by
    unfold shrI
    show Int.fdiv (s : Int) (2 ^ (min (1 : Int).toNat 64)) = _
    rw [show (2 : Int) ^ (min (1 : Int).toNat 64) = 2 from rfl, Int.fdiv_eq_ediv_of_nonneg _ (by omega)]
    omega
  rw [this, wr (by omega) (by omega)]
theorem cmp_ev (x : S80) (n : ByteArray) : Ev (fun k => f119 k x.f0 x.f1 n) (nameCmp n x) := by
  unfold f119 f120 f132
  exact Ev.bind (Ev.bind (Ev.ret _) (Ev.ret _)) (Ev.ret' rfl)
theorem at_getD (l : List S80) (i : Nat) : at' l (i : Int) = l.getD i default := by unfold at'; rw [Int.toNat_natCast]
theorem bs_loop (l : List S80) (n : ByteArray) (hr : risesF l) (hl : l.length ≤ 1073741824) (d : Nat) : ∀ lo hi : Nat, hi - lo ≤ d → lo ≤ hi → hi ≤ l.length → (∀ t, t < lo → nameCmp n (l.getD t default) < 0) → (∀ t, hi ≤ t → t < l.length → 0 ≤ nameCmp n (l.getD t default)) →
    Ev (fun k => f118.l3 k l n (l.length : Int) (lo : Int) (hi : Int)) ((cntLt (nameCmp n) l : Nat), hitAt default (nameCmp n) l) := by
  have fin : ∀ lo hi : Nat, lo = hi → hi ≤ l.length → (∀ t, t < lo → nameCmp n (l.getD t default) < 0) → (∀ t, hi ≤ t → t < l.length → 0 ≤ nameCmp n (l.getD t default)) →
      Ev (fun k => f118.l3 k l n (l.length : Int) (lo : Int) (hi : Int)) ((cntLt (nameCmp n) l : Nat), hitAt default (nameCmp n) l) := by
    rintro lo hi rfl hh h1 h2
    have hc : cntLt (nameCmp n) l = lo := countP_bound _ default l lo hh (fun t ht => decide_eq_true (h1 t ht)) (fun t h3 h4 => decide_eq_false (by have := h2 t h3 h4; omega))
    refine Ev.step (fun k => by rw [f118.l3]) (Ev.neg (by omega) ?_)
    unfold hitAt
    rw [hc]
    by_cases hlt : lo < l.length
    · refine Ev.pos (by omega) (Ev.pos (by omega) (Ev.pos (by omega) (Ev.bind (cmp_ev _ n) (Ev.ret' ?_))))
      rw [decide_eq_true hlt, Bool.true_and, at_getD]
    · refine Ev.neg (by omega) (Ev.ret' ?_)
      rw [decide_eq_false hlt, Bool.false_and]
  induction d with
  | zero => intro lo hi hd h1 h2 h3 h4; exact fin lo hi (by omega) h2 h3 h4
  | succ d ih =>
    intro lo hi hd h1 h2 h3 h4
    by_cases he : lo = hi
    · exact fin lo hi he h2 h3 h4
    · refine Ev.step (fun k => by rw [f118.l3]) (Ev.pos (by omega) ?_)
      have hm := mid_eq (lo + hi) (by omega)
      rw [show ((lo + hi : Nat) : Int) = (lo : Int) + (hi : Int) by omega] at hm
      rw [hm]
      generalize hmd : (lo + hi) / 2 = m
      have hm1 : lo ≤ m := by omega
      have hm2 : m < hi := by omega
      refine Ev.pos (by omega) (Ev.pos (by omega) (Ev.bind (cmp_ev _ n) ?_))
      rw [at_getD]
      by_cases hx : nameCmp n (l.getD m default) < 0
      · refine Ev.pos hx ?_
        rw [show IntKind.i64.wrap ((m : Int) + 1) = ((m + 1 : Nat) : Int) by rw [wr (by omega) (by omega)]; omega]
        exact ih (m + 1) hi (by omega) (by omega) h2 (fun t ht => risesF_mono hr n t m (by omega) (by omega) hx) h4
      · refine Ev.neg hx (ih lo m (by omega) hm1 (by omega) h3 (fun t h5 h6 => ?_))
        refine Int.not_lt.1 fun h => hx ?_
        exact risesF_mono hr n m t h5 h6 h
theorem bs_ev (l : List S80) (n : ByteArray) (hr : risesF l) (hl : l.length ≤ 1073741824) : Ev (fun k => f118 k l n) ((cntLt (nameCmp n) l : Nat), hitAt default (nameCmp n) l) := by
  unfold f118
  exact bs_loop l n hr hl _ 0 l.length (Nat.le_refl _) (Nat.zero_le _) (Nat.le_refl _) (fun t ht => absurd ht (Nat.not_lt_zero t)) (fun t h1 h2 => by omega)
theorem copyFiles_ev (l : List S80) (hl : l.length ≤ 1073741824) : Ev (fun k => f59 k l) l := by
  unfold f59
  exact Ev.pos (by omega) (Ev.pos (by omega) (Ev.ret _))
theorem withFile_ev (l : List S80) (n d : ByteArray) (hr : risesF l) (hl : l.length ≤ 1073741824) : Ev (fun k => f99 k l n d) (putF l n d) := by
  unfold f99
  refine Ev.bind (copyFiles_ev l hl) (Ev.bind (bs_ev l n hr hl) ?_)
  have hc : cntLt (nameCmp n) l ≤ l.length := cntLt_le _ _
  unfold putF
  cases hh : hitAt default (nameCmp n) l with
  | true =>
    have hlt : cntLt (nameCmp n) l < l.length := by
      unfold hitAt at hh
      rw [Bool.and_eq_true, decide_eq_true_eq] at hh
      exact hh.1
    exact Ev.pos rfl (Ev.pos (by show (0 : Int) ≤ ((cntLt (nameCmp n) l : Nat) : Int); omega) (Ev.pos (by show ((cntLt (nameCmp n) l : Nat) : Int) < _; omega) (Ev.ret' (by simp))))
  | false =>
    refine Ev.neg (by simp) (Ev.bind (a := l.take (cntLt (nameCmp n) l) ++ (⟨n, d⟩ :: l.drop (cntLt (nameCmp n) l))) ?_ (Ev.ret' (by simp)))
    unfold f121
    exact Ev.pos ⟨by show (0 : Int) ≤ ((cntLt (nameCmp n) l : Nat) : Int); omega, by show ((cntLt (nameCmp n) l : Nat) : Int) ≤ _; omega, rfl, by omega, by omega⟩ (Ev.ret' (by simp))
theorem cut_ev (l : List S80) (i : Int) (h0 : 0 ≤ i) (h1 : i < l.length) (hl : l.length ≤ 1073741824) : Ev (fun k => f100 k i (IntKind.i64.wrap (i + 1)) l) (l.take i.toNat ++ l.drop (i.toNat + 1)) := by
  unfold f100
  rw [wr (n := i + 1) (by omega) (by omega)]
  exact Ev.pos ⟨h0, rfl, by omega⟩ (Ev.ret _)
def onS (l : List S80) (k : Int) (n t d : ByteArray) : List S80 ⊕ List S80 := if (onF l k n t d).2 = true then .inl (onF l k n t d).1 else .inr l
theorem empty_app (d : ByteArray) : (⟨#[]⟩ : ByteArray) ++ d = d := by
  apply ByteArray.ext
  simp [ByteArray.data_append]
theorem at_name (l : List S80) (n : ByteArray) (h : 0 ≤ idxP (nameIs n) l) : (at' l (idxP (nameIs n) l)).f0 = n := by
  have := idxP_at (nameIs n) (default : S80) l h
  rw [nameIs_iff] at this
  exact this
theorem on_ev (l : List S80) (k : Int) (n t d : ByteArray) (hr : risesF l) (hl : l.length ≤ 1073741823) (hs : ∀ x ∈ l, x.f1.size ≤ 1099512000000) (hd : d.size ≤ 1099511627776) : Ev (fun q => f61 q k n t d l) (onS l k n t d) := by
  unfold f61
  refine Ev.bind (fileOf_ev l n (by omega)) ?_
  have hlt := idxP_lt (nameIs n) l
  have hge := idxP_ge (nameIs n) l
  unfold onS onF
  by_cases h1 : k = 1
  · refine Ev.pos h1 ?_
    rw [if_pos h1, if_pos rfl]
    by_cases h0 : 0 ≤ idxP (nameIs n) l
    · have hsz := hs _ (getD_mem default l _ h0 hlt)
      change (at' l (idxP (nameIs n) l)).f1.size ≤ _ at hsz
      rw [if_pos h0]
      refine Ev.pos h0 (Ev.pos hlt (Ev.pos (by omega) ?_))
      rw [at_name l n h0]
      exact Ev.bind (withFile_ev l n _ hr (by omega)) (Ev.ret _)
    · rw [if_neg h0]
      refine Ev.neg h0 (Ev.pos (by omega) ?_)
      rw [empty_app]
      exact Ev.bind (withFile_ev l n _ hr (by omega)) (Ev.ret _)
  · refine Ev.neg h1 ?_
    rw [if_neg h1]
    by_cases h0 : 0 ≤ idxP (nameIs n) l
    · rw [if_pos h0]
      refine Ev.neg (by omega) (Ev.bind (copyFiles_ev l (by omega)) (Ev.bind (cut_ev l _ h0 hlt (by omega)) ?_))
      by_cases h3 : k = 3
      · rw [if_pos h3]
        exact Ev.pos h3 (Ev.ret' (by simp))
      · rw [if_neg h3]
        refine Ev.neg h3 (Ev.pos h0 (Ev.pos hlt (Ev.bind (withFile_ev _ t _ (risesF_cut hr _) ?_) (Ev.ret' (by simp)))))
        rw [List.length_append, List.length_take, List.length_drop]; omega
    · rw [if_neg h0]
      exact Ev.pos (by omega) (Ev.ret' (by simp))
theorem putF_len (l : List S80) (n d : ByteArray) : (putF l n d).length ≤ l.length + 1 := by
  unfold putF
  split
  · rw [List.length_set]; omega
  · have := cntLt_le (nameCmp n) l
    rw [List.length_append, List.length_take, List.length_cons, List.length_drop]; omega
theorem onF_len (l : List S80) (k : Int) (n t d : ByteArray) : (onF l k n t d).1.length ≤ l.length + 1 := by
  have hc : (l.take (idxP (nameIs n) l).toNat ++ l.drop ((idxP (nameIs n) l).toNat + 1)).length ≤ l.length := by
    rw [List.length_append, List.length_take, List.length_drop]; omega
  unfold onF
  split
  · exact putF_len _ _ _
  · split
    · split
      · exact Nat.le_succ_of_le hc
      · exact Nat.le_trans (putF_len _ _ _) (by omega)
    · exact Nat.le_succ _
theorem isDisk_loop (live safe : List S80) (ops : List S73) (ho : ∀ x ∈ ops, x.f3.size ≤ 1099511627776) (hl : ops.length ≤ 200) (d : Nat) : ∀ (i : Nat) (now : List S80), ops.length - i = d → i ≤ ops.length → filesB now = true →
    Ev (fun k => f49.l5 k now ops (ops.length : Int) (i : Int) live safe ops) (runB live now (ops.drop i)) := by
  induction d with
  | zero =>
    intro i now hd hi hf
    obtain ⟨_, h60, _⟩ := filesB_said hf
    refine Ev.step (fun k => by rw [f49.l5]) (Ev.neg (by omega) (Ev.bind (equal_ev now live (by omega)) (Ev.ret' ?_)))
    rw [List.drop_of_length_le (by omega), runB]
  | succ d ih =>
    intro i now hd hi hf
    obtain ⟨hris, h60, hsz⟩ := filesB_said hf
    have h1 : i < ops.length := by omega
    refine Ev.step (fun k => by rw [f49.l5]) (Ev.pos (by omega) (Ev.pos (by omega) (Ev.pos (by omega) ?_)))
    rw [rdO_nat ops i h1, List.drop_eq_getElem_cons h1, runB]
    have hop := ho _ (List.getElem_mem h1)
    generalize ops[i] = op at *
    refine Ev.bind (isFormed_ev _ _ _ _) ?_
    cases hfm : formB op.f0 op.f1 op.f2 op.f3 with
    | false => exact Ev.neg (by simp) (Ev.ret' (by simp))
    | true =>
      refine Ev.pos rfl (Ev.bind (on_ev now op.f0 op.f1 op.f2 op.f3 hris (by omega) (fun x hx => by have := hsz x hx; omega) hop) ?_)
      unfold onS
      cases hok : (onF now op.f0 op.f1 op.f2 op.f3).2 with
      | false => exact Ev.ret' (by simp)
      | true =>
        rw [if_pos rfl]
        have hsm := onF_small hsz op.f0 op.f1 op.f2 op.f3 hop hok
        have hln : (onF now op.f0 op.f1 op.f2 op.f3).1.length ≤ 4611686018427387904 := by
          have := onF_len now op.f0 op.f1 op.f2 op.f3
          omega
        refine Ev.bind (areFiles_ev _ hsm hln) ?_
        cases hfn : filesB (onF now op.f0 op.f1 op.f2 op.f3).1 with
        | false => exact Ev.neg (by simp) (Ev.ret' (by simp))
        | true =>
          refine Ev.pos rfl ?_
          rw [show IntKind.i64.wrap ((i : Int) + 1) = ((i + 1 : Nat) : Int) by rw [wr (by omega) (by omega)]; omega]
          exact Ev.eq (ih (i + 1) _ (by omega) (by omega) hfn) (by simp)
theorem isDisk_ev (live safe : List S80) (ops : List S73) (h0 : smallF live) (h1 : smallF safe) (ho : ∀ x ∈ ops, x.f3.size ≤ 1099511627776) (l0 : live.length ≤ 1048576) (l1 : safe.length ≤ 1048576) : Ev (fun k => f49 k live safe ops) (diskB live safe ops) := by
  unfold f49 diskB
  refine Ev.bind (areFiles_ev live (fun x hx => by have := h0 x hx; omega) (by omega)) ?_
  cases hf0 : filesB live with
  | false => exact Ev.neg (by simp) (Ev.ret' (by simp))
  | true =>
    refine Ev.pos rfl (Ev.bind (areFiles_ev safe (fun x hx => by have := h1 x hx; omega) (by omega)) ?_)
    cases hf1 : filesB safe with
    | false => exact Ev.neg (by simp) (Ev.ret' (by simp))
    | true =>
      refine Ev.pos rfl ?_
      by_cases hl : 200 < (ops.length : Int)
      · exact Ev.pos hl (Ev.ret' (by rw [decide_eq_false (by omega : ¬ ops.length ≤ 200)]; simp))
      · refine Ev.neg hl (Ev.eq (isDisk_loop live safe ops ho (by omega) _ 0 safe rfl (Nat.zero_le _) hf1) ?_)
        rw [decide_eq_true (by omega : ops.length ≤ 200)]; simp
theorem l4Do_ev (l : List S80) (k : Int) (n t d : ByteArray) (hr : risesF l) (hl : l.length ≤ 1073741823) (hs : ∀ x ∈ l, x.f1.size ≤ 1099512000000) (hd : d.size ≤ 1099511627776) : Ev (fun q => f44 q l k n t d) ((doS l k n t d).2, (doS l k n t d).1) := by
  unfold f44
  refine Ev.bind (l4At_ev l n (by omega)) ?_
  unfold doS
  have hlt := idxP_lt (nameIs n) l
  by_cases h1 : k = 1
  · rw [if_pos h1]
    refine Ev.pos h1 ?_
    by_cases h0 : 0 ≤ idxP (nameIs n) l
    · rw [if_pos h0]
      have hsz := hs _ (getD_mem default l _ h0 hlt)
      change (at' l (idxP (nameIs n) l)).f1.size ≤ _ at hsz
      refine Ev.pos h0 (Ev.pos hlt (Ev.pos (by omega) (Ev.bind (l4Put_ev l n _ (by omega)) (Ev.ret' ?_))))
      rw [putS_putF n _ l hr]
    · rw [if_neg h0]
      refine Ev.neg h0 (Ev.bind (l4Put_ev l n _ (by omega)) (Ev.ret' ?_))
      rw [putS_putF n _ l hr]
  · rw [if_neg h1]
    refine Ev.neg h1 ?_
    by_cases h0 : 0 ≤ idxP (nameIs n) l
    · rw [if_pos h0]
      refine Ev.neg (by omega) (Ev.bind (l4Cut_ev l n (by omega)) ?_)
      rw [cut_filter n l hr h0]
      by_cases h2 : k = 2
      · rw [if_pos h2]
        refine Ev.pos h2 (Ev.pos h0 (Ev.pos hlt (Ev.bind (l4Put_ev _ t _ ?_) (Ev.ret' ?_))))
        · rw [List.length_append, List.length_take, List.length_drop]; omega
        · rw [putS_putF t _ _ (risesF_cut hr _)]
      · rw [if_neg h2]
        exact Ev.neg h2 (Ev.ret _)
    · rw [if_neg h0]
      exact Ev.pos (by omega) (Ev.pos (by omega) (Ev.pos (by omega) (Ev.ret _)))
theorem DiskOk_loop (live safe : List S80) (ops : List S73) (ho : ∀ x ∈ ops, x.f3.size ≤ 1099511627776) (hl : ops.length ≤ 200) (d : Nat) : ∀ (i : Nat) (now : List S80), ops.length - i = d → i ≤ ops.length → filesB now = true →
    Ev (fun k => f13.l5 k now (i : Int) live safe ops) (runB live now (ops.drop i)) := by
  induction d with
  | zero =>
    intro i now hd hi hf
    obtain ⟨_, h60, _⟩ := filesB_said hf
    refine Ev.step (fun k => by rw [f13.l5]) (Ev.neg (by omega) (Ev.bind (l4Same_ev now live (by omega)) (Ev.ret' ?_)))
    rw [List.drop_of_length_le (by omega), runB]
  | succ d ih =>
    intro i now hd hi hf
    obtain ⟨hris, h60, hsz⟩ := filesB_said hf
    have h1 : i < ops.length := by omega
    refine Ev.step (fun k => by rw [f13.l5]) (Ev.pos (by omega) (Ev.pos (by omega) ?_))
    rw [rdO_nat ops i h1, List.drop_eq_getElem_cons h1, runB]
    have hop := ho _ (List.getElem_mem h1)
    generalize ops[i] = op at *
    refine Ev.bind (l4Do_ev now op.f0 op.f1 op.f2 op.f3 hris (by omega) (fun x hx => by have := hsz x hx; omega) hop) ?_
    cases hok : (onF now op.f0 op.f1 op.f2 op.f3).2 with
    | false =>
      rw [← doS_ok] at hok
      refine Ev.neg (by rw [hok]; simp) (Ev.ret' ?_)
      simp
    | true =>
      have hok' := hok
      rw [← doS_ok] at hok'
      refine Ev.pos hok' (Ev.bind (l4Form_ev _ _ _ _) ?_)
      cases hfm : formB op.f0 op.f1 op.f2 op.f3 with
      | false => exact Ev.neg (by simp) (Ev.ret' (by simp))
      | true =>
        refine Ev.pos rfl (Ev.bind (l4Files_ev _ (doS_small hsz _ _ _ _ hfm hop hok')) ?_)
        show Ev (fun n => if filesB (doS now op.f0 op.f1 op.f2 op.f3).1 = true then f13.l5 n (doS now op.f0 op.f1 op.f2 op.f3).1 (IntKind.i64.wrap ((i : Int) + 1)) live safe ops else some false) _
        rw [doS_onF now _ _ _ _ hfm]
        cases hfn : filesB (onF now op.f0 op.f1 op.f2 op.f3).1 with
        | false => exact Ev.neg (by simp) (Ev.ret' (by simp))
        | true =>
          refine Ev.pos rfl ?_
          rw [show IntKind.i64.wrap ((i : Int) + 1) = ((i + 1 : Nat) : Int) by rw [wr (by omega) (by omega)]; omega]
          exact Ev.eq (ih (i + 1) _ (by omega) (by omega) hfn) (by simp)
theorem DiskOk_ev (live safe : List S80) (ops : List S73) (h0 : smallF live) (h1 : smallF safe) (ho : ∀ x ∈ ops, x.f3.size ≤ 1099511627776) : Ev (fun k => f13 k live safe ops) (diskB live safe ops) := by
  unfold f13 diskB
  refine Ev.bind (l4Files_ev live (fun x hx => by have := h0 x hx; omega)) ?_
  cases hf0 : filesB live with
  | false => exact Ev.neg (by simp) (Ev.ret' (by simp))
  | true =>
    refine Ev.pos rfl (Ev.bind (l4Files_ev safe (fun x hx => by have := h1 x hx; omega)) ?_)
    cases hf1 : filesB safe with
    | false => exact Ev.neg (by simp) (Ev.ret' (by simp))
    | true =>
      refine Ev.pos rfl ?_
      by_cases hl : 200 < (ops.length : Int)
      · exact Ev.pos hl (Ev.ret' (by rw [decide_eq_false (by omega : ¬ ops.length ≤ 200)]; simp))
      · refine Ev.neg hl (Ev.eq (DiskOk_loop live safe ops ho (by omega) _ 0 safe rfl (Nat.zero_le _) hf1) ?_)
        rw [decide_eq_true (by omega : ops.length ≤ 200)]; simp
end Go.Proofs.Ytfjoamlgbegpgaa.P
namespace Go.Proofs.Ytfjoamlgbegpgaa.P
open Go Go.Proofs.Ytfjoamlgbegpgaa.PM Go.Proofs
theorem cut_point (P : Nat → Bool) : ∀ n : Nat, (∀ a b, a ≤ b → b < n → P b = true → P a = true) → ∃ i, i ≤ n ∧ (∀ t, t < i → P t = true) ∧ ∀ t, i ≤ t → t < n → P t = false
  | 0, _ => ⟨0, Nat.le_refl _, fun t ht => absurd ht (Nat.not_lt_zero t), fun t _ ht => absurd ht (Nat.not_lt_zero t)⟩
  | n + 1, h => by
    cases hp : P n with
    | true => exact ⟨n + 1, Nat.le_refl _, fun t ht => h t n (by omega) (by omega) hp, fun t h1 h2 => by omega⟩
    | false =>
      obtain ⟨i, h1, h2, h3⟩ := cut_point P n (fun a b h1 h2 h3 => h a b h1 (by omega) h3)
      refine ⟨i, by omega, h2, fun t h4 h5 => ?_⟩
      by_cases e : t = n
      · rw [e]; exact hp
      · exact h3 t h4 (by omega)
theorem risesF_put {l : List S80} (hr : risesF l) (n d : ByteArray) : risesF (putF l n d) := by
  obtain ⟨i, h1, h2, h3⟩ := cut_point (fun t => decide (nameCmp n (l.getD t default) < 0)) l.length (fun a b hab hb hp => decide_eq_true (risesF_mono hr n a b hab hb (of_decide_eq_true hp)))
  have hc : cntLt (nameCmp n) l = i := countP_bound _ default l i h1 (fun t ht => h2 t ht) (fun t h4 h5 => h3 t h4 h5)
  have hlow : ∀ t (ht : t < l.length), t < i → Op.bytesLess l[t].f0.toList n.toList = true := fun t ht hti => by
    have := of_decide_eq_true (h2 t hti)
    rw [nameCmp_neg, List.getD_eq_getElem?_getD, List.getElem?_eq_getElem ht] at this
    exact this
  have hnot : ∀ t (ht : t < l.length), i ≤ t → Op.bytesLess l[t].f0.toList n.toList = false := fun t ht hti => by
    have := of_decide_eq_false (h3 t hti ht)
    rw [nameCmp_neg, List.getD_eq_getElem?_getD, List.getElem?_eq_getElem ht] at this
    rw [Bool.eq_false_iff]
    exact this
  unfold putF
  rw [hc]
  cases hh : hitAt default (nameCmp n) l with
  | true =>
    rw [if_pos rfl]
    unfold hitAt at hh
    rw [hc, Bool.and_eq_true, decide_eq_true_eq, decide_eq_true_eq, nameCmp_zero] at hh
    obtain ⟨hi, hn⟩ := hh
    rw [List.getD_eq_getElem?_getD, List.getElem?_eq_getElem hi] at hn
    have hn' : l[i].f0 = n := hn
    have key : ∀ t (ht : t < (l.set i ⟨n, d⟩).length), ((l.set i ⟨n, d⟩)[t]).f0 = (l[t]'(by simpa using ht)).f0 := fun t ht => by
      rw [List.getElem_set]
      split
      · rename_i e; subst e; exact hn'.symm
      · rfl
    unfold risesF
    rw [List.pairwise_iff_getElem]
    intro a b ha hb hab
    rw [key a ha, key b hb]
    exact List.pairwise_iff_getElem.1 hr a b _ _ hab
  | false =>
    rw [if_neg (by simp)]
    have hup : ∀ y ∈ l.drop i, Op.bytesLess n.toList y.f0.toList = true := fun y hy => by
      obtain ⟨t, ht, rfl⟩ := List.getElem_of_mem hy
      rw [List.length_drop] at ht
      rw [List.getElem_drop]
      have hlt : i + t < l.length := by omega
      rcases bless_tri (l[i + t]'hlt).f0.toList n.toList with h | h | h
      · rw [hnot (i + t) hlt (by omega)] at h; cases h
      · exfalso
        rw [bs_inj] at h
        by_cases h0 : t = 0
        · subst h0
          have hi : i < l.length := by omega
          unfold hitAt at hh
          rw [hc, decide_eq_true hi, Bool.true_and, decide_eq_false_iff_not, nameCmp_zero, List.getD_eq_getElem?_getD, List.getElem?_eq_getElem hi] at hh
          exact hh h
        · have hp := List.pairwise_iff_getElem.1 hr i (i + t) (by omega) hlt (by omega)
          rw [h] at hp
          have := hnot i (by omega) (Nat.le_refl _)
          rw [hp] at this; cases this
      · exact h
    have hdn : ∀ x ∈ l.take i, Op.bytesLess x.f0.toList n.toList = true := fun x hx => by
      obtain ⟨t, ht, rfl⟩ := List.getElem_of_mem hx
      rw [List.length_take] at ht
      rw [List.getElem_take]
      exact hlow t (by omega) (by omega)
    unfold risesF
    rw [List.pairwise_append]
    refine ⟨List.Pairwise.sublist (List.take_sublist _ _) hr, List.pairwise_cons.2 ⟨hup, List.Pairwise.sublist (List.drop_sublist _ _) hr⟩, fun x hx y hy => ?_⟩
    rcases List.mem_cons.1 hy with rfl | hy
    · exact hdn x hx
    · exact bless_trans (hdn x hx) (hup y hy)
theorem risesF_on {l : List S80} (hr : risesF l) (k : Int) (n t d : ByteArray) : risesF (onF l k n t d).1 := by
  unfold onF
  split
  · exact risesF_put hr _ _
  · split
    · split
      · exact risesF_cut hr _
      · exact risesF_put (risesF_cut hr _) _ _
    · exact hr
theorem put_sizes {l : List S80} {B : Nat} (hs : ∀ x ∈ l, x.f1.size ≤ B) (n d : ByteArray) (hd : d.size ≤ B) : ∀ x ∈ putF l n d, x.f1.size ≤ B := by
  intro x hx
  unfold putF at hx
  split at hx
  · rcases List.mem_or_eq_of_mem_set hx with h | rfl
    · exact hs x h
    · exact hd
  · rcases List.mem_append.1 hx with h | h
    · exact hs x (List.mem_of_mem_take h)
    · rcases List.mem_cons.1 h with rfl | h
      · exact hd
      · exact hs x (List.mem_of_mem_drop h)
theorem on_sizes {l : List S80} {B D : Nat} (hs : ∀ x ∈ l, x.f1.size ≤ B) (k : Int) (n t d : ByteArray) (hd : d.size ≤ D) : ∀ x ∈ (onF l k n t d).1, x.f1.size ≤ B + D := by
  have hb : ∀ x ∈ l, x.f1.size ≤ B + D := fun x hx => by have := hs x hx; omega
  have hlt := idxP_lt (nameIs n) l
  have hat : 0 ≤ idxP (nameIs n) l → (at' l (idxP (nameIs n) l)).f1.size ≤ B := fun h => hs _ (getD_mem default l _ h hlt)
  have hcut : ∀ x ∈ l.take (idxP (nameIs n) l).toNat ++ l.drop ((idxP (nameIs n) l).toNat + 1), x.f1.size ≤ B + D := fun x hx => by
    rcases List.mem_append.1 hx with h | h
    · exact hb x (List.mem_of_mem_take h)
    · exact hb x (List.mem_of_mem_drop h)
  unfold onF
  split
  · refine put_sizes hb _ _ ?_
    split
    · rename_i h
      rw [ByteArray.size_append]
      have := hat h
      omega
    · omega
  · split
    · rename_i h
      split
      · exact hcut
      · exact put_sizes hcut _ _ (by have := hat h; omega)
    · exact hb
def keepB (keep : List Int) (m : Nat) (i : Nat) : Bool := (decide (0 ≤ at' keep (i : Int)) && decide (at' keep (i : Int) ≤ (m : Int) - 1)) && (decide (i = 0) || decide (at' keep ((i : Int) - 1) < at' keep (i : Int)))
def cutD (torn : Int) (last : Prop) [Decidable last] (d : ByteArray) : ByteArray := if last then d.extract 0 (minI torn (d.size : Int)).toNat else d
def stepK (ops : List S73) (keep : List Int) (torn : Int) (now : List S80) (i : Nat) : List S80 :=
  (onF now (at' ops (at' keep (i : Int))).f0 (at' ops (at' keep (i : Int))).f1 (at' ops (at' keep (i : Int))).f2 (cutD torn (i + 1 = keep.length) (at' ops (at' keep (i : Int))).f3)).1
structure InvK (now : List S80) (j : Nat) : Prop where
  r : risesF now
  n : now.length ≤ 60 + j
  s : ∀ x ∈ now, x.f1.size ≤ 200000 + j * 1048576
theorem cutD_size (torn : Int) (last : Prop) [Decidable last] (d : ByteArray) : (cutD torn last d).size ≤ d.size := by
  unfold cutD
  split
  · rw [ByteArray.size_extract]; omega
  · exact Nat.le_refl _
theorem InvK.step {ops : List S73} {keep : List Int} {torn : Int} {now : List S80} {i : Nat} (h : InvK now i) (hd : (at' ops (at' keep (i : Int))).f3.size ≤ 1048576) : InvK (stepK ops keep torn now i) (i + 1) := by
  unfold stepK
  refine ⟨risesF_on h.r _ _ _ _, ?_, ?_⟩
  · have := onF_len now (at' ops (at' keep (i : Int))).f0 (at' ops (at' keep (i : Int))).f1 (at' ops (at' keep (i : Int))).f2 (cutD torn (i + 1 = keep.length) (at' ops (at' keep (i : Int))).f3)
    have := h.n
    omega
  · intro x hx
    have := on_sizes h.s _ _ _ _ (Nat.le_trans (cutD_size torn (i + 1 = keep.length) (at' ops (at' keep (i : Int))).f3) hd) x hx
    omega
theorem diskB_said {live safe : List S80} {ops : List S73} (h : diskB live safe ops = true) : filesB safe = true ∧ ops.length ≤ 200 ∧ runB live safe ops = true := by
  unfold diskB at h
  simp only [Bool.and_eq_true, decide_eq_true_eq] at h
  exact h.2
end Go.Proofs.Ytfjoamlgbegpgaa.P
namespace Go.Proofs.Ytfjoamlgbegpgaa.P
open Go Go.Proofs.Ytfjoamlgbegpgaa.PM Go.Proofs
def to_File (x : S106) : S80 := ⟨x.f0, x.f1⟩
def to_DOp (x : S108) : S73 := ⟨x.f0, x.f1, x.f2, x.f3⟩
theorem szFile_ev (x y : ByteArray) (a : Int) (h0 : 0 ≤ a) (h1 : a ≤ 1048576) (hx : x.size ≤ maxLen) (hy : y.size ≤ maxLen) : ∃ r, Ev (fun k => f82 k x y a) r ∧ (r < 0 ∨ (0 ≤ r ∧ r ≤ a ∧ x.size ≤ 1048576 ∧ y.size ≤ 1048576)) := by
  unfold maxLen at hx hy
  unfold f82
  rw [wr (n := a - x.size) (by omega) (by omega)]
  by_cases h2 : a - x.size < 0
  · exact ⟨-1, Ev.pos h2 (Ev.ret _), .inl (by omega)⟩
  · rw [wr (n := a - x.size - y.size) (by omega) (by omega)]
    by_cases h3 : a - x.size - y.size < 0
    · exact ⟨-1, Ev.neg h2 (Ev.pos h3 (Ev.ret _)), .inl (by omega)⟩
    · exact ⟨_, Ev.neg h2 (Ev.neg h3 (Ev.ret _)), .inr ⟨by omega, by omega, by omega, by omega⟩⟩
theorem szDOp_ev (n : Int) (x y z : ByteArray) (a : Int) (h0 : 0 ≤ a) (h1 : a ≤ 1048576) (hx : x.size ≤ maxLen) (hy : y.size ≤ maxLen) (hz : z.size ≤ maxLen) : ∃ r, Ev (fun k => f83 k n x y z a) r ∧ (r < 0 ∨ (0 ≤ r ∧ r ≤ a ∧ x.size ≤ 1048576 ∧ y.size ≤ 1048576 ∧ z.size ≤ 1048576)) := by
  unfold maxLen at hx hy hz
  unfold f83
  rw [wr (n := a - x.size) (by omega) (by omega)]
  by_cases h2 : a - x.size < 0
  · exact ⟨-1, Ev.pos h2 (Ev.ret _), .inl (by omega)⟩
  · rw [wr (n := a - x.size - y.size) (by omega) (by omega)]
    by_cases h3 : a - x.size - y.size < 0
    · exact ⟨-1, Ev.neg h2 (Ev.pos h3 (Ev.ret _)), .inl (by omega)⟩
    · rw [wr (n := a - x.size - y.size - z.size) (by omega) (by omega)]
      by_cases h4 : a - x.size - y.size - z.size < 0
      · exact ⟨-1, Ev.neg h2 (Ev.neg h3 (Ev.pos h4 (Ev.ret _))), .inl (by omega)⟩
      · exact ⟨_, Ev.neg h2 (Ev.neg h3 (Ev.neg h4 (Ev.ret _))), .inr ⟨by omega, by omega, by omega, by omega, by omega⟩⟩
theorem szFileS_loop (l : List S106) (hl : l.length ≤ 1048576) (hs : ∀ x ∈ l, x.f0.size ≤ maxLen ∧ x.f1.size ≤ maxLen) (d : Nat) : ∀ (i : Nat) (a : Int), l.length - i = d → i ≤ l.length → 0 ≤ a → a ≤ 1048576 →
    ∃ r, Ev (fun k => f41.l5 k l a (i : Int)) r ∧ (r < 0 ∨ (0 ≤ r ∧ r ≤ a ∧ ∀ x ∈ l.drop i, x.f0.size ≤ 1048576 ∧ x.f1.size ≤ 1048576)) := by
  induction d with
  | zero =>
    intro i a hd hi h0 h1
    exact ⟨a, Ev.step (fun k => by rw [f41.l5]) (Ev.neg (by omega) (Ev.ret _)), .inr ⟨h0, by omega, fun x hx => by rw [List.drop_of_length_le (by omega)] at hx; cases hx⟩⟩
  | succ d ih =>
    intro i a hd hi h0 h1
    have hlt : i < l.length := by omega
    obtain ⟨s0, s1⟩ := hs _ (List.getElem_mem hlt)
    obtain ⟨r, hr, h⟩ := szFile_ev l[i].f0 l[i].f1 a h0 h1 s0 s1
    rw [← at_nat l i hlt] at hr
    rcases h with h | ⟨r0, r1, z0, z1⟩
    · exact ⟨-1, Ev.step (fun k => by rw [f41.l5]) (Ev.pos (by omega) (Ev.pos (by omega) (Ev.bind hr (Ev.pos h (Ev.ret _))))), .inl (by omega)⟩
    · obtain ⟨q, hq, h⟩ := ih (i + 1) r (by omega) (by omega) r0 (by omega)
      rw [show ((i + 1 : Nat) : Int) = IntKind.i64.wrap ((i : Int) + 1) by rw [wr (by omega) (by omega)]; omega] at hq
      have hq' : Ev (fun k => f41.l5 k l a (i : Int)) q := by
        refine Ev.step (fun k => by rw [f41.l5]) (Ev.pos (by omega) (Ev.pos (by omega) (Ev.bind hr ?_)))
        exact Ev.neg (by omega) hq
      refine ⟨q, hq', ?_⟩
      rcases h with h | ⟨q0, q1, z⟩
      · exact .inl h
      · refine .inr ⟨q0, by omega, fun x hx => ?_⟩
        rw [List.drop_eq_getElem_cons hlt] at hx
        rcases List.mem_cons.1 hx with rfl | hx
        · exact ⟨z0, z1⟩
        · exact z x hx
theorem szFileS_ev (l : List S106) (a : Int) (h0 : 0 ≤ a) (h1 : a ≤ 1048576) (hl : l.length ≤ maxLen) (hs : ∀ x ∈ l, x.f0.size ≤ maxLen ∧ x.f1.size ≤ maxLen) : ∃ r, Ev (fun k => f41 k l a) r ∧ (r < 0 ∨ (0 ≤ r ∧ r ≤ a ∧ l.length ≤ 1048576 ∧ ∀ x ∈ l, x.f0.size ≤ 1048576 ∧ x.f1.size ≤ 1048576)) := by
  unfold maxLen at hl
  unfold f41
  rw [wr (n := a - l.length) (by omega) (by omega)]
  by_cases h2 : a - l.length < 0
  · exact ⟨-1, Ev.pos h2 (Ev.ret _), .inl (by omega)⟩
  · obtain ⟨r, hr, h⟩ := szFileS_loop l (by omega) hs _ 0 (a - l.length) rfl (Nat.zero_le _) (by omega) (by omega)
    refine ⟨r, Ev.neg h2 hr, ?_⟩
    rcases h with h | ⟨r0, r1, z⟩
    · exact .inl h
    · exact .inr ⟨r0, by omega, by omega, z⟩
theorem szDOpS_loop (l : List S108) (hl : l.length ≤ 1048576) (hs : ∀ x ∈ l, x.f1.size ≤ maxLen ∧ x.f2.size ≤ maxLen ∧ x.f3.size ≤ maxLen) (d : Nat) : ∀ (i : Nat) (a : Int), l.length - i = d → i ≤ l.length → 0 ≤ a → a ≤ 1048576 →
    ∃ r, Ev (fun k => f42.l5 k l a (i : Int)) r ∧ (r < 0 ∨ (0 ≤ r ∧ r ≤ a ∧ ∀ x ∈ l.drop i, x.f1.size ≤ 1048576 ∧ x.f2.size ≤ 1048576 ∧ x.f3.size ≤ 1048576)) := by
  induction d with
  | zero =>
    intro i a hd hi h0 h1
    exact ⟨a, Ev.step (fun k => by rw [f42.l5]) (Ev.neg (by omega) (Ev.ret _)), .inr ⟨h0, by omega, fun x hx => by rw [List.drop_of_length_le (by omega)] at hx; cases hx⟩⟩
  | succ d ih =>
    intro i a hd hi h0 h1
    have hlt : i < l.length := by omega
    obtain ⟨s0, s1, s2⟩ := hs _ (List.getElem_mem hlt)
    obtain ⟨r, hr, h⟩ := szDOp_ev l[i].f0 l[i].f1 l[i].f2 l[i].f3 a h0 h1 s0 s1 s2
    rw [← at_nat l i hlt] at hr
    rcases h with h | ⟨r0, r1, z0, z1, z2⟩
    · exact ⟨-1, Ev.step (fun k => by rw [f42.l5]) (Ev.pos (by omega) (Ev.pos (by omega) (Ev.bind hr (Ev.pos h (Ev.ret _))))), .inl (by omega)⟩
    · obtain ⟨q, hq, h⟩ := ih (i + 1) r (by omega) (by omega) r0 (by omega)
      rw [show ((i + 1 : Nat) : Int) = IntKind.i64.wrap ((i : Int) + 1) by rw [wr (by omega) (by omega)]; omega] at hq
      have hq' : Ev (fun k => f42.l5 k l a (i : Int)) q := by
        refine Ev.step (fun k => by rw [f42.l5]) (Ev.pos (by omega) (Ev.pos (by omega) (Ev.bind hr ?_)))
        exact Ev.neg (by omega) hq
      refine ⟨q, hq', ?_⟩
      rcases h with h | ⟨q0, q1, z⟩
      · exact .inl h
      · refine .inr ⟨q0, by omega, fun x hx => ?_⟩
        rw [List.drop_eq_getElem_cons hlt] at hx
        rcases List.mem_cons.1 hx with rfl | hx
        · exact ⟨z0, z1, z2⟩
        · exact z x hx
theorem szDOpS_ev (l : List S108) (a : Int) (h0 : 0 ≤ a) (h1 : a ≤ 1048576) (hl : l.length ≤ maxLen) (hs : ∀ x ∈ l, x.f1.size ≤ maxLen ∧ x.f2.size ≤ maxLen ∧ x.f3.size ≤ maxLen) : ∃ r, Ev (fun k => f42 k l a) r ∧ (r < 0 ∨ (0 ≤ r ∧ r ≤ a ∧ l.length ≤ 1048576 ∧ ∀ x ∈ l, x.f1.size ≤ 1048576 ∧ x.f2.size ≤ 1048576 ∧ x.f3.size ≤ 1048576)) := by
  unfold maxLen at hl
  unfold f42
  rw [wr (n := a - l.length) (by omega) (by omega)]
  by_cases h2 : a - l.length < 0
  · exact ⟨-1, Ev.pos h2 (Ev.ret _), .inl (by omega)⟩
  · obtain ⟨r, hr, h⟩ := szDOpS_loop l (by omega) hs _ 0 (a - l.length) rfl (Nat.zero_le _) (by omega) (by omega)
    refine ⟨r, Ev.neg h2 hr, ?_⟩
    rcases h with h | ⟨r0, r1, z⟩
    · exact .inl h
    · exact .inr ⟨r0, by omega, by omega, z⟩
structure DiskSz (live safe : List S80) (ops : List S73) : Prop where
  n0 : live.length ≤ 1048576
  n1 : safe.length ≤ 1048576
  n2 : ops.length ≤ 1048576
  s0 : ∀ x ∈ live, x.f0.size ≤ 1048576 ∧ x.f1.size ≤ 1048576
  s1 : ∀ x ∈ safe, x.f0.size ≤ 1048576 ∧ x.f1.size ≤ 1048576
  s2 : ∀ x ∈ ops, x.f1.size ≤ 1048576 ∧ x.f2.size ≤ 1048576 ∧ x.f3.size ≤ 1048576
def okF (l : List S106) : Prop := l.length ≤ maxLen ∧ ∀ x ∈ l, x.f0.size ≤ maxLen ∧ x.f1.size ≤ maxLen
def okO (l : List S108) : Prop := l.length ≤ maxLen ∧ ∀ x ∈ l, x.f1.size ≤ maxLen ∧ x.f2.size ≤ maxLen ∧ x.f3.size ≤ maxLen
theorem szDisk_ev (l0 l1 : List S106) (l2 : List S108) (a : Int) (h0 : 0 ≤ a) (h1 : a ≤ 1048576) (o0 : okF l0) (o1 : okF l1) (o2 : okO l2) :
    ∃ r, Ev (fun k => f12 k l0 l1 l2 a) r ∧ (r < 0 ∨ (0 ≤ r ∧ r ≤ a ∧ DiskSz (l0.map to_File) (l1.map to_File) (l2.map to_DOp))) := by
  unfold f12
  obtain ⟨r, hr, h⟩ := szFileS_ev l0 a h0 h1 o0.1 o0.2
  rcases h with h | ⟨r0, r1, m0, z0⟩
  · exact ⟨-1, Ev.bind hr (Ev.pos h (Ev.ret _)), .inl (by omega)⟩
  obtain ⟨q, hq, h⟩ := szFileS_ev l1 r r0 (by omega) o1.1 o1.2
  rcases h with h | ⟨q0, q1, m1, z1⟩
  · exact ⟨-1, Ev.bind hr (Ev.neg (by omega) (Ev.bind hq (Ev.pos h (Ev.ret _)))), .inl (by omega)⟩
  obtain ⟨p, hp, h⟩ := szDOpS_ev l2 q q0 (by omega) o2.1 o2.2
  rcases h with h | ⟨p0, p1, m2, z2⟩
  · exact ⟨-1, Ev.bind hr (Ev.neg (by omega) (Ev.bind hq (Ev.neg (by omega) (Ev.bind hp (Ev.pos h (Ev.ret _)))))), .inl (by omega)⟩
  refine ⟨p, Ev.bind hr (Ev.neg (by omega) (Ev.bind hq (Ev.neg (by omega) (Ev.bind hp (Ev.neg (by omega) (Ev.ret _)))))), .inr ⟨p0, by omega, by simpa using m0, by simpa using m1, by simpa using m2, ?_, ?_, ?_⟩⟩
  · intro x hx
    obtain ⟨y, hy, rfl⟩ := List.mem_map.1 hx
    exact z0 y hy
  · intro x hx
    obtain ⟨y, hy, rfl⟩ := List.mem_map.1 hx
    exact z1 y hy
  · intro x hx
    obtain ⟨y, hy, rfl⟩ := List.mem_map.1 hx
    exact z2 y hy
theorem toFileS_loop (l : List S106) (z : S80) (hl : l.length ≤ 1048576) (d : Nat) : ∀ i : Nat, l.length - i = d → i ≤ l.length → Ev (fun k => f47.l3 k ((l.map to_File).take i ++ List.replicate ((l.map to_File).length - i) z) l (i : Int)) (l.map to_File) := by
  have hm : (l.map to_File).length = l.length := List.length_map ..
  induction d with
  | zero =>
    intro i hd hi
    exact Ev.step (fun k => by rw [f47.l3]) (Ev.neg (by omega) (Ev.ret' (fill_end z _ i (by omega))))
  | succ d ih =>
    intro i hd hi
    have hlt : i < l.length := by omega
    have hq := fill_length z (l.map to_File) i (by omega)
    refine Ev.step (fun k => by rw [f47.l3]) (Ev.pos (by omega) (Ev.pos (by omega) (Ev.bind (a := (l[i].f0, l[i].f1)) (by rw [at_nat l i hlt]; unfold f87; exact Ev.ret _) ?_)))
    refine Ev.pos (by rw [hq]; omega) ?_
    have hn := ih (i + 1) (by omega) (by omega)
    rw [wr (by omega) (by omega), Int.toNat_natCast]
    have e : (⟨l[i].f0, l[i].f1⟩ : S80) = (l.map to_File)[i]'(by omega) := by rw [List.getElem_map]; rfl
    rw [show ((l[i].f0, l[i].f1).1 : ByteArray) = l[i].f0 from rfl, show ((l[i].f0, l[i].f1).2 : ByteArray) = l[i].f1 from rfl, e, fillL_step z _ i (by omega)]
    rwa [show ((i + 1 : Nat) : Int) = (i : Int) + 1 by omega] at hn
theorem toFileS_ev (l : List S106) (hl : l.length ≤ 1048576) : Ev (fun k => f47 k l) (l.map to_File) := by
  unfold f47
  refine Ev.pos (by omega) (Ev.pos (by omega) (Ev.pos (by omega) (Ev.pos (by omega) ?_)))
  have := toFileS_loop l (⟨(⟨#[]⟩ : ByteArray), (⟨#[]⟩ : ByteArray)⟩ : S80) hl _ 0 rfl (Nat.zero_le _)
  simpa using this
theorem toDOpS_loop (l : List S108) (z : S73) (hl : l.length ≤ 1048576) (d : Nat) : ∀ i : Nat, l.length - i = d → i ≤ l.length → Ev (fun k => f48.l3 k ((l.map to_DOp).take i ++ List.replicate ((l.map to_DOp).length - i) z) l (i : Int)) (l.map to_DOp) := by
  have hm : (l.map to_DOp).length = l.length := List.length_map ..
  induction d with
  | zero =>
    intro i hd hi
    exact Ev.step (fun k => by rw [f48.l3]) (Ev.neg (by omega) (Ev.ret' (fill_end z _ i (by omega))))
  | succ d ih =>
    intro i hd hi
    have hlt : i < l.length := by omega
    have hq := fill_length z (l.map to_DOp) i (by omega)
    refine Ev.step (fun k => by rw [f48.l3]) (Ev.pos (by omega) (Ev.pos (by omega) (Ev.bind (a := (l[i].f0, l[i].f1, l[i].f2, l[i].f3)) (by rw [at_nat l i hlt]; unfold f88; exact Ev.ret _) ?_)))
    refine Ev.pos (by rw [hq]; omega) ?_
    have hn := ih (i + 1) (by omega) (by omega)
    rw [wr (by omega) (by omega), Int.toNat_natCast]
    have e : (⟨l[i].f0, l[i].f1, l[i].f2, l[i].f3⟩ : S73) = (l.map to_DOp)[i]'(by omega) := by rw [List.getElem_map]; rfl
    show Ev (fun n => f48.l3 n ((((l.map to_DOp).take i ++ List.replicate ((l.map to_DOp).length - i) z)).set i (⟨l[i].f0, l[i].f1, l[i].f2, l[i].f3⟩ : S73)) l ((i : Int) + 1)) _
    rw [e, fillL_step z _ i (by omega)]
    rwa [show ((i + 1 : Nat) : Int) = (i : Int) + 1 by omega] at hn
theorem toDOpS_ev (l : List S108) (hl : l.length ≤ 1048576) : Ev (fun k => f48 k l) (l.map to_DOp) := by
  unfold f48
  refine Ev.pos (by omega) (Ev.pos (by omega) (Ev.pos (by omega) (Ev.pos (by omega) ?_)))
  have := toDOpS_loop l (⟨0, (⟨#[]⟩ : ByteArray), (⟨#[]⟩ : ByteArray), (⟨#[]⟩ : ByteArray)⟩ : S73) hl _ 0 rfl (Nat.zero_le _)
  simpa using this
theorem toDisk_ev (l0 l1 : List S106) (l2 : List S108) (h : DiskSz (l0.map to_File) (l1.map to_File) (l2.map to_DOp)) : Ev (fun k => f14 k l0 l1 l2) (l0.map to_File, l1.map to_File, l2.map to_DOp) := by
  unfold f14
  have n0 := h.n0
  have n1 := h.n1
  have n2 := h.n2
  rw [List.length_map] at n0 n1 n2
  exact Ev.bind (toFileS_ev l0 n0) (Ev.bind (toFileS_ev l1 n1) (Ev.bind (toDOpS_ev l2 n2) (Ev.ret _)))
theorem eqFileS_loop (l : List S80) (hl : l.length ≤ 1073741824) (d : Nat) : ∀ i : Nat, l.length - i = d → i ≤ l.length → Ev (fun k => f50.l4 k l l (i : Int)) true := by
  induction d with
  | zero => intro i hd hi; exact Ev.step (fun k => by rw [f50.l4]) (Ev.neg (by omega) (Ev.ret _))
  | succ d ih =>
    intro i hd hi
    have hn := ih (i + 1) (by omega) (by omega)
    rw [show ((i + 1 : Nat) : Int) = IntKind.i64.wrap ((i : Int) + 1) by rw [wr (by omega) (by omega)]; omega] at hn
    exact Ev.step (fun k => by rw [f50.l4]) (Ev.pos (by omega) (Ev.pos (by omega) (Ev.pos (by omega) (Ev.bind (a := true) (by unfold f91; exact Ev.pos (strEq_self _) (Ev.pos (strEq_self _) (Ev.ret _))) (Ev.pos rfl hn)))))
theorem eqFileS_ev (l : List S80) (hl : l.length ≤ 1073741824) : Ev (fun k => f50 k l l) true := by
  unfold f50
  exact Ev.pos rfl (eqFileS_loop l hl _ 0 rfl (Nat.zero_le _))
theorem eqDOpS_loop (l : List S73) (hl : l.length ≤ 1073741824) (d : Nat) : ∀ i : Nat, l.length - i = d → i ≤ l.length → Ev (fun k => f51.l4 k l l (i : Int)) true := by
  induction d with
  | zero => intro i hd hi; exact Ev.step (fun k => by rw [f51.l4]) (Ev.neg (by omega) (Ev.ret _))
  | succ d ih =>
    intro i hd hi
    have hn := ih (i + 1) (by omega) (by omega)
    rw [show ((i + 1 : Nat) : Int) = IntKind.i64.wrap ((i : Int) + 1) by rw [wr (by omega) (by omega)]; omega] at hn
    exact Ev.step (fun k => by rw [f51.l4]) (Ev.pos (by omega) (Ev.pos (by omega) (Ev.pos (by omega) (Ev.bind (a := true) (by unfold f92; exact Ev.pos rfl (Ev.pos (strEq_self _) (Ev.pos (strEq_self _) (Ev.pos (strEq_self _) (Ev.ret _))))) (Ev.pos rfl hn)))))
theorem eqDOpS_ev (l : List S73) (hl : l.length ≤ 1073741824) : Ev (fun k => f51 k l l) true := by
  unfold f51
  exact Ev.pos rfl (eqDOpS_loop l hl _ 0 rfl (Nat.zero_le _))
theorem eqDisk_ev (a b : List S80) (c : List S73) (h0 : a.length ≤ 1073741824) (h1 : b.length ≤ 1073741824) (h2 : c.length ≤ 1073741824) : Ev (fun k => f16 k a b c a b c) true := by
  unfold f16
  exact Ev.bind (eqFileS_ev a h0) (Ev.pos rfl (Ev.bind (eqFileS_ev b h1) (Ev.pos rfl (Ev.bind (eqDOpS_ev c h2) (Ev.pos rfl (Ev.ret _))))))
theorem markText_loop (d : Nat) : ∀ (x : Int) (s : ByteArray), 0 ≤ x → x ≤ 9223372036854775807 → x < 10 ^ d → s.size + d ≤ 1000 → ∃ t, Ev (fun k => f105.l4 k x s) t := by
  induction d with
  | zero =>
    intro x s h0 hm h1 h2
    exact ⟨_, Ev.step (fun k => by rw [f105.l4]) (Ev.neg (by omega) (Ev.pos (by omega) (Ev.ret _)))⟩
  | succ d ih =>
    intro x s h0 hm h1 h2
    by_cases hx : 0 < x
    · have e : x.tdiv 10 = x / 10 := Int.tdiv_eq_ediv_of_nonneg h0
      have hb : x / 10 < 10 ^ d := by
        have : (10 : Int) ^ (d + 1) = 10 ^ d * 10 := Int.pow_succ 10 d
        omega
      have hw : IntKind.i64.wrap (x.tdiv 10) = x / 10 := by rw [e, wr (by omega) (by omega)]
      obtain ⟨t, ht⟩ := ih (x / 10) (strOf ([(IntKind.u8.wrap (IntKind.i64.wrap (48 + (x.tmod 10))))] : List Int) ++ s) (by omega) (by omega) hb (by rw [ByteArray.size_append, show (strOf ([(IntKind.u8.wrap (IntKind.i64.wrap (48 + (x.tmod 10))))] : List Int)).size = 1 from rfl]; omega)
      refine ⟨t, Ev.step (fun k => by rw [f105.l4]) (Ev.pos hx (Ev.pos (by omega) ?_))⟩
      rw [hw]
      exact ht
    · exact ⟨_, Ev.step (fun k => by rw [f105.l4]) (Ev.neg hx (Ev.pos (by omega) (Ev.ret _)))⟩
theorem markText_any (x : Int) (h0 : 0 ≤ x) (h1 : x ≤ 9223372036854775807) : ∃ t, Ev (fun k => f105 k x) t := by
  unfold f105
  by_cases h : x ≤ 0
  · exact ⟨_, Ev.pos h (Ev.ret _)⟩
  · obtain ⟨t, ht⟩ := markText_loop 19 x (⟨#[]⟩ : ByteArray) h0 h1 (by omega) (by decide)
    exact ⟨t, Ev.neg h ht⟩
noncomputable def mt (x : Int) : ByteArray := by
  classical
  exact if h : ∃ t, Ev (fun k => f105 k x) t then h.choose else default
theorem mt_ev (x : Int) (h0 : 0 ≤ x) (h1 : x ≤ 9223372036854775807) : Ev (fun k => f105 k x) (mt x) := by
  have h := markText_any x h0 h1
  unfold mt
  rw [dif_pos h]
  exact h.choose_spec
noncomputable def mkF (a : Int) : Nat → List S80
  | 0 => []
  | n + 1 => ⟨mt a, mt (a + 1)⟩ :: mkF (a + 2) n
noncomputable def mkO (a : Int) : Nat → List S73
  | 0 => []
  | n + 1 => ⟨a, mt (a + 1), mt (a + 2), mt (a + 3)⟩ :: mkO (a + 4) n
theorem mkF_len : ∀ (n : Nat) (a : Int), (mkF a n).length = n
  | 0, _ => rfl
  | n + 1, a => by rw [mkF, List.length_cons, mkF_len n]
theorem mkO_len : ∀ (n : Nat) (a : Int), (mkO a n).length = n
  | 0, _ => rfl
  | n + 1, a => by rw [mkO, List.length_cons, mkO_len n]
theorem set_mid {α : Type} (p : List α) (x y : α) (r : List α) : (p ++ x :: r).set p.length y = p ++ y :: r := by
  rw [List.set_append_right _ _ (Nat.le_refl _), Nat.sub_self, List.set_cons_zero]
theorem markF_loop : ∀ (r p : List S80) (a : Int), 0 ≤ a → a + 2 * r.length ≤ 4611686018427387904 → p.length + r.length ≤ 1073741824 → Ev (fun k => f68.l2 k (p ++ r) a (p.length : Int)) (a + 2 * r.length, p ++ mkF a r.length)
  | [], p, a, h0, h1, h2 => by
    refine Ev.step (fun k => by rw [f68.l2]) (Ev.neg (by simp) (Ev.ret' ?_))
    simp [mkF]
  | x :: r, p, a, h0, h1, h2 => by
    rw [List.length_cons] at h1 h2
    refine Ev.step (fun k => by rw [f68.l2]) (Ev.pos (by rw [List.length_append, List.length_cons]; omega) (Ev.bind (mt_ev a h0 (by omega)) ?_))
    refine Ev.pos (by omega) ?_
    rw [wr (n := a + 1) (by omega) (by omega), wr (n := a + 1 + 1) (by omega) (by omega), wr (n := (p.length : Int) + 1) (by omega) (by omega), Int.toNat_natCast, show a + 1 + 1 = a + 2 by omega]
    refine Ev.bind (mt_ev (a + 1) (by omega) (by omega)) ?_
    rw [set_mid]
    have ih := markF_loop r (p ++ [⟨mt a, mt (a + 1)⟩]) (a + 2) (by omega) (by omega) (by rw [List.length_append]; simp; omega)
    rw [List.append_assoc, List.singleton_append, List.length_append, List.length_singleton, show ((p.length + 1 : Nat) : Int) = (p.length : Int) + 1 by omega] at ih
    refine ih.eq ?_
    rw [List.length_cons, mkF, List.append_assoc]
    simp only [Prod.mk.injEq, List.singleton_append, and_true]
    omega
theorem markF_ev (l : List S80) (a : Int) (h0 : 0 ≤ a) (h1 : a + 2 * l.length ≤ 4611686018427387904) (h2 : l.length ≤ 1073741824) : Ev (fun k => f68 k a l) (a + 2 * l.length, mkF a l.length) := by
  unfold f68
  exact markF_loop l [] a h0 h1 (by simpa using h2)
theorem markO_loop : ∀ (r p : List S73) (a : Int), 0 ≤ a → a + 4 * r.length ≤ 4611686018427387904 → p.length + r.length ≤ 1073741824 → Ev (fun k => f69.l2 k (p ++ r) a (p.length : Int)) (a + 4 * r.length, p ++ mkO a r.length)
  | [], p, a, h0, h1, h2 => by
    refine Ev.step (fun k => by rw [f69.l2]) (Ev.neg (by simp) (Ev.ret' ?_))
    simp [mkO]
  | x :: r, p, a, h0, h1, h2 => by
    rw [List.length_cons] at h1 h2
    refine Ev.step (fun k => by rw [f69.l2]) (Ev.pos (by rw [List.length_append, List.length_cons]; omega) (Ev.pos (by omega) ?_))
    rw [wr (n := a + 1) (by omega) (by omega), wr (n := a + 1 + 1) (by omega) (by omega), wr (n := a + 1 + 1 + 1) (by omega) (by omega), wr (n := a + 1 + 1 + 1 + 1) (by omega) (by omega), wr (n := (p.length : Int) + 1) (by omega) (by omega), Int.toNat_natCast, show a + 1 + 1 + 1 + 1 = a + 4 by omega, show a + 1 + 1 + 1 = a + 3 by omega, show a + 1 + 1 = a + 2 by omega]
    refine Ev.bind (mt_ev (a + 1) (by omega) (by omega)) (Ev.bind (mt_ev (a + 2) (by omega) (by omega)) (Ev.bind (mt_ev (a + 3) (by omega) (by omega)) ?_))
    rw [set_mid]
    have ih := markO_loop r (p ++ [⟨a, mt (a + 1), mt (a + 2), mt (a + 3)⟩]) (a + 4) (by omega) (by omega) (by rw [List.length_append]; simp; omega)
    rw [List.append_assoc, List.singleton_append, List.length_append, List.length_singleton, show ((p.length + 1 : Nat) : Int) = (p.length : Int) + 1 by omega] at ih
    refine ih.eq ?_
    rw [List.length_cons, mkO, List.append_assoc]
    simp only [Prod.mk.injEq, List.singleton_append, and_true]
    omega
theorem markO_ev (l : List S73) (a : Int) (h0 : 0 ≤ a) (h1 : a + 4 * l.length ≤ 4611686018427387904) (h2 : l.length ≤ 1073741824) : Ev (fun k => f69 k a l) (a + 4 * l.length, mkO a l.length) := by
  unfold f69
  exact markO_loop l [] a h0 h1 (by simpa using h2)
theorem heldF_loop : ∀ (n : Nat) (p : List S80) (a : Int), 0 ≤ a → a + 2 * n ≤ 4611686018427387904 → p.length + n ≤ 1073741824 → Ev (fun k => f70.l2 k (p ++ mkF a n) a (p.length : Int)) (a + 2 * n)
  | 0, p, a, h0, h1, h2 => by
    refine Ev.step (fun k => by rw [f70.l2]) (Ev.neg (by simp [mkF]) (Ev.ret' ?_))
    simp
  | n + 1, p, a, h0, h1, h2 => by
    have hl : (p ++ mkF a (n + 1)).length = p.length + (n + 1) := by rw [List.length_append, mkF_len]
    have hat : at' (p ++ mkF a (n + 1)) (p.length : Int) = ⟨mt a, mt (a + 1)⟩ := by
      rw [at_nat _ _ (by omega), List.getElem_append_right (Nat.le_refl _)]
      simp [mkF]
    refine Ev.step (fun k => by rw [f70.l2]) (Ev.pos (by omega) (Ev.pos (by omega) ?_))
    rw [hat, wr (n := a + 1) (by omega) (by omega), wr (n := a + 1 + 1) (by omega) (by omega), wr (n := (p.length : Int) + 1) (by omega) (by omega), show a + 1 + 1 = a + 2 by omega]
    refine Ev.bind (mt_ev a h0 (by omega)) (Ev.pos (strEq_self _) (Ev.bind (mt_ev (a + 1) (by omega) (by omega)) (Ev.pos (strEq_self _) ?_)))
    have ih := heldF_loop n (p ++ [⟨mt a, mt (a + 1)⟩]) (a + 2) (by omega) (by omega) (by rw [List.length_append]; simp; omega)
    rw [List.append_assoc, List.singleton_append, List.length_append, List.length_singleton, show ((p.length + 1 : Nat) : Int) = (p.length : Int) + 1 by omega] at ih
    rw [mkF]
    exact ih.eq (by omega)
theorem heldF_ev (n : Nat) (a : Int) (h0 : 0 ≤ a) (h1 : a + 2 * n ≤ 4611686018427387904) (h2 : n ≤ 1073741824) : Ev (fun k => f70 k (mkF a n) a) (a + 2 * n) := by
  unfold f70
  exact heldF_loop n [] a h0 h1 (by simpa using h2)
theorem heldO_loop : ∀ (n : Nat) (p : List S73) (a : Int), 0 ≤ a → a + 4 * n ≤ 4611686018427387904 → p.length + n ≤ 1073741824 → Ev (fun k => f71.l2 k (p ++ mkO a n) a (p.length : Int)) (a + 4 * n)
  | 0, p, a, h0, h1, h2 => by
    refine Ev.step (fun k => by rw [f71.l2]) (Ev.neg (by simp [mkO]) (Ev.ret' ?_))
    simp
  | n + 1, p, a, h0, h1, h2 => by
    have hl : (p ++ mkO a (n + 1)).length = p.length + (n + 1) := by rw [List.length_append, mkO_len]
    have hat : at' (p ++ mkO a (n + 1)) (p.length : Int) = ⟨a, mt (a + 1), mt (a + 2), mt (a + 3)⟩ := by
      rw [at_nat _ _ (by omega), List.getElem_append_right (Nat.le_refl _)]
      simp [mkO]
    refine Ev.step (fun k => by rw [f71.l2]) (Ev.pos (by omega) (Ev.pos (by omega) ?_))
    rw [hat, wr (n := a + 1) (by omega) (by omega), wr (n := a + 1 + 1) (by omega) (by omega), wr (n := a + 1 + 1 + 1) (by omega) (by omega), wr (n := a + 1 + 1 + 1 + 1) (by omega) (by omega), wr (n := (p.length : Int) + 1) (by omega) (by omega), show a + 1 + 1 + 1 + 1 = a + 4 by omega, show a + 1 + 1 + 1 = a + 3 by omega, show a + 1 + 1 = a + 2 by omega]
    refine Ev.pos rfl (Ev.bind (mt_ev (a + 1) (by omega) (by omega)) (Ev.pos (strEq_self _) (Ev.bind (mt_ev (a + 2) (by omega) (by omega)) (Ev.pos (strEq_self _) (Ev.bind (mt_ev (a + 3) (by omega) (by omega)) (Ev.pos (strEq_self _) ?_))))))
    have ih := heldO_loop n (p ++ [⟨a, mt (a + 1), mt (a + 2), mt (a + 3)⟩]) (a + 4) (by omega) (by omega) (by rw [List.length_append]; simp; omega)
    rw [List.append_assoc, List.singleton_append, List.length_append, List.length_singleton, show ((p.length + 1 : Nat) : Int) = (p.length : Int) + 1 by omega] at ih
    rw [mkO]
    exact ih.eq (by omega)
theorem heldO_ev (n : Nat) (a : Int) (h0 : 0 ≤ a) (h1 : a + 4 * n ≤ 4611686018427387904) (h2 : n ≤ 1073741824) : Ev (fun k => f71 k (mkO a n) a) (a + 4 * n) := by
  unfold f71
  exact heldO_loop n [] a h0 h1 (by simpa using h2)
theorem markD_ev (a b : List S80) (c : List S73) (h0 : a.length ≤ 1073741824) (h1 : b.length ≤ 1073741824) (h2 : c.length ≤ 1073741824) :
    Ev (fun k => f29 k 1 a b c) (1 + 2 * a.length + 2 * b.length + 4 * c.length, mkF 1 a.length, mkF (1 + 2 * a.length) b.length, mkO (1 + 2 * a.length + 2 * b.length) c.length) := by
  unfold f29
  exact Ev.bind (markF_ev a 1 (by omega) (by omega) h0) (Ev.bind (markF_ev b _ (by omega) (by omega) h1) (Ev.bind (markO_ev c _ (by omega) (by omega) h2) (Ev.ret _)))
theorem heldD_ev (n m o : Nat) (h0 : n ≤ 1073741824) (h1 : m ≤ 1073741824) (h2 : o ≤ 1073741824) :
    Ev (fun k => f30 k (mkF 1 n) (mkF (1 + 2 * n) m) (mkO (1 + 2 * n + 2 * m) o) 1) (1 + 2 * (n : Int) + 2 * m + 4 * o) := by
  unfold f30
  exact Ev.bind (heldF_ev n 1 (by omega) (by omega) h0) (Ev.neg (by omega) (Ev.bind (heldF_ev m _ (by omega) (by omega) h1) (Ev.neg (by omega) (Ev.bind (heldO_ev o _ (by omega) (by omega) h2) (Ev.neg (by omega) (Ev.ret _))))))
end Go.Proofs.Ytfjoamlgbegpgaa.P
namespace Go.Proofs.Ytfjoamlgbegpgaa.P
open Go Go.Proofs.Ytfjoamlgbegpgaa.PM Go.Proofs
structure Inv (live safe : List S80) (ops : List S73) : Prop where
  l : filesB live = true
  s : filesB safe = true
  n : ops.length ≤ 200
  o : ∀ x ∈ ops, x.f3.size ≤ 1048576
theorem small_of {l : List S80} (h : filesB l = true) : smallF l := fun x hx => by have := (filesB_said h).2.2 x hx; omega
theorem Inv.mt : Inv [] [] [] := ⟨by decide, by decide, by decide, fun x hx => by cases hx⟩
theorem copyD_ev {live safe : List S80} {ops : List S73} (h : Inv live safe ops) : Ev (fun k => f66 k live safe ops) (live, safe, ops) := by
  have a := (filesB_said h.l).2.1
  have b := (filesB_said h.s).2.1
  have c := h.n
  unfold f66
  exact Ev.pos (by omega) (Ev.pos (by omega) (Ev.pos (by omega) (Ev.pos (by omega) (Ev.pos (by omega) (Ev.pos (by omega) (Ev.ret _))))))
structure Sm (live safe : List S80) (ops : List S73) : Prop where
  ln : live.length ≤ 61
  ls : smallF live
  sn : safe.length ≤ 61
  ss : smallF safe
  n : ops.length ≤ 200
  o : ∀ x ∈ ops, x.f3.size ≤ 1048576
theorem strOf_size (l : List Int) : (strOf l).size = l.length := by
  show (l.map _).toArray.size = _
  rw [List.size_toArray, List.length_map]
end Go.Proofs.Ytfjoamlgbegpgaa.P
namespace Go.Proofs.Ytfjoamlgbegpgaa.P
open Go Go.Proofs.Ytfjoamlgbegpgaa.PM Go.Proofs
end Go.Proofs.Ytfjoamlgbegpgaa.P
namespace Go.Proofs.Ytfjoamlgbegpgaa.P
open Go Go.Proofs.Ytfjoamlgbegpgaa.PM Go.Proofs
abbrev AR := Int × List S80 × List S80 × List S73
def actR (live safe : List S80) (ops : List S73) (k : Int) (n t d : ByteArray) : AR :=
  if formB k n t d = true then
    if (onF live k n t d).2 = true then
      if ops.length = 200 then (4, live, safe, ops) else if filesB (onF live k n t d).1 = true then (0, (onF live k n t d).1, safe, ops ++ [⟨k, n, t, d⟩]) else (4, live, safe, ops)
    else (3, live, safe, ops)
  else (2, live, safe, ops)
theorem actR_inv {live safe : List S80} {ops : List S73} (h : Inv live safe ops) (k : Int) (n t d : ByteArray) (hd : d.size ≤ 1048576) : Inv (actR live safe ops k n t d).2.1 (actR live safe ops k n t d).2.2.1 (actR live safe ops k n t d).2.2.2 := by
  have hn := h.n
  unfold actR
  split
  · split
    · split
      · exact h
      · split
        · rename_i hf
          refine ⟨hf, h.s, ?_, ?_⟩
          · show (ops ++ [(⟨k, n, t, d⟩ : S73)]).length ≤ 200
            rw [List.length_append, List.length_singleton]
            omega
          · intro x hx
            rcases List.mem_append.1 hx with hx | hx
            · exact h.o x hx
            · rw [List.mem_singleton.1 hx]; exact hd
        · exact h
    · exact h
  · exact h
theorem spec_act {live safe : List S80} {ops : List S73} (h : Inv live safe ops) (k : Int) (n t d : ByteArray) (hd : d.size ≤ 1048576) : Ev (fun q => f65 q live safe ops k n t d) (actR live safe ops k n t d) := by
  obtain ⟨hr, h60, hsz⟩ := filesB_said h.l
  have hn := h.n
  unfold f65 actR
  refine Ev.bind (l4Form_ev k n t d) ?_
  cases hf : formB k n t d with
  | false => exact Ev.neg (by simp) (Ev.bind (copyD_ev h) (Ev.ret' (by simp)))
  | true =>
    have hdo := l4Do_ev live k n t d hr (by omega) (fun x hx => by have := hsz x hx; omega) (by omega)
    rw [doS_onF live k n t d hf] at hdo
    refine Ev.pos rfl (Ev.bind hdo ?_)
    rw [if_pos rfl]
    cases hok : (onF live k n t d).2 with
    | false => exact Ev.neg (by simp) (Ev.bind (copyD_ev h) (Ev.ret' (by simp)))
    | true =>
      rw [if_pos rfl]
      refine Ev.pos rfl ?_
      by_cases h2 : ops.length = 200
      · rw [if_pos h2]
        exact Ev.pos (by omega) (Ev.bind (copyD_ev h) (Ev.ret _))
      · rw [if_neg h2]
        refine Ev.neg (by omega) (Ev.bind (l4Files_ev _ (onF_small hsz k n t d (by omega) hok)) ?_)
        cases hfn : filesB (onF live k n t d).1 with
        | false => exact Ev.neg (by simp) (Ev.bind (copyD_ev h) (Ev.ret' (by simp)))
        | true => exact Ev.pos rfl (Ev.bind (copyD_ev h) (Ev.pos (by show (ops.length + 1) * 56 ≤ _; omega) (Ev.pos (by show ops.length + 1 ≤ _; omega) (Ev.ret' (by simp)))))
theorem icopy_ev {live safe : List S80} {ops : List S73} (h : Inv live safe ops) : Ev (fun k => f79 k live safe ops) (live, safe, ops) := by
  have a := (filesB_said h.l).2.1
  have b := (filesB_said h.s).2.1
  have c := h.n
  unfold f79
  exact Ev.bind (copyFiles_ev live (by omega)) (Ev.bind (copyFiles_ev safe (by omega)) (Ev.pos (by omega) (Ev.pos (by omega) (Ev.ret _))))
theorem impl_act {live safe : List S80} {ops : List S73} (h : Inv live safe ops) (k : Int) (n t d : ByteArray) (hd : d.size ≤ 1048576) : Ev (fun q => f104 q live safe ops k n t d) (actR live safe ops k n t d) := by
  obtain ⟨hr, h60, hsz⟩ := filesB_said h.l
  have hn := h.n
  unfold f104 actR
  refine Ev.bind (isFormed_ev k n t d) ?_
  cases hf : formB k n t d with
  | false => exact Ev.neg (by simp) (Ev.bind (icopy_ev h) (Ev.ret' (by simp)))
  | true =>
    have hdo := on_ev live k n t d hr (by omega) (fun x hx => by have := hsz x hx; omega) (by omega)
    refine Ev.pos rfl (Ev.bind hdo ?_)
    rw [if_pos rfl]
    unfold onS
    cases hok : (onF live k n t d).2 with
    | false => exact Ev.bind (icopy_ev h) (Ev.ret' (by simp))
    | true =>
      have hln := onF_len live k n t d
      rw [if_pos rfl, if_pos rfl]
      by_cases h2 : ops.length = 200
      · rw [if_pos h2]
        exact Ev.pos (by omega) (Ev.bind (icopy_ev h) (Ev.ret _))
      · rw [if_neg h2]
        refine Ev.neg (by omega) (Ev.bind (areFiles_ev _ (onF_small hsz k n t d (by omega) hok) (by omega)) ?_)
        cases hfn : filesB (onF live k n t d).1 with
        | false => exact Ev.neg (by simp) (Ev.bind (icopy_ev h) (Ev.ret' (by simp)))
        | true => exact Ev.pos rfl (Ev.bind (icopy_ev h) (Ev.bind (copyFiles_ev _ (by omega)) (Ev.pos (by show (ops.length + 1) * 56 ≤ _; omega) (Ev.pos (by show ops.length + 1 ≤ _; omega) (Ev.ret' (by simp))))))
def stepsR (o : AR) : List S73 → AR → AR
  | [], now => (0, now.2)
  | op :: r, now =>
    if (actR now.2.1 now.2.2.1 now.2.2.2 op.f0 op.f1 op.f2 op.f3).1 = 0 then stepsR o r (actR now.2.1 now.2.2.1 now.2.2.2 op.f0 op.f1 op.f2 op.f3) else ((actR now.2.1 now.2.2.1 now.2.2.2 op.f0 op.f1 op.f2 op.f3).1, o.2)
def fresh (n : ByteArray) : ByteArray := n ++ (⟨#[46, 110, 101, 119]⟩ : ByteArray)
def opA (n d : ByteArray) : S73 := ⟨1, fresh n, ⟨#[]⟩, d⟩
def opB (n : ByteArray) : S73 := ⟨2, fresh n, n, ⟨#[]⟩⟩
def opC (n : ByteArray) : S73 := ⟨3, fresh n, ⟨#[]⟩, ⟨#[]⟩⟩
def opsR (live : List S80) (n d : ByteArray) : List S73 := if 0 ≤ idxP (nameIs (fresh n)) live then [opC n, opA n d, opB n] else [opA n d, opB n]
def replaceR (live safe : List S80) (ops : List S73) (n d : ByteArray) : AR :=
  if diskB live safe ops = true then stepsR (0, live, safe, ops) (opsR live n d) (0, live, safe, ops) else (1, [], [], [])
theorem Sm.inv {live safe : List S80} {ops : List S73} (hs : Sm live safe ops) (h : diskB live safe ops = true) : Inv live safe ops := by
  unfold diskB at h
  simp only [Bool.and_eq_true] at h
  exact ⟨h.1, h.2.1, hs.n, hs.o⟩
theorem two_ev {b0 b1 : List S80} {b2 : List S73} (h0 : Inv b0 b1 b2) {live safe : List S80} {ops : List S73} (h : Inv live safe ops) (c : Int) (n d : ByteArray) (hd : d.size ≤ 1048576) :
    Ev (fun k => ((f65 k live safe ops 1 (n ++ (⟨#[46, 110, 101, 119]⟩ : ByteArray)) (⟨#[]⟩ : ByteArray) d).bind fun t10 => (if t10.1 = 0 then ((f65 k t10.2.1 t10.2.2.1 t10.2.2.2 2 (n ++ (⟨#[46, 110, 101, 119]⟩ : ByteArray)) n (⟨#[]⟩ : ByteArray)).bind fun t11 => (if t11.1 = 0 then ((f66 k t11.2.1 t11.2.2.1 t11.2.2.2).bind fun t12 => some ((0 : Int), t12.1, t12.2.1, t12.2.2)) else ((f66 k b0 b1 b2).bind fun t13 => some (t11.1, t13.1, t13.2.1, t13.2.2)))) else ((f66 k b0 b1 b2).bind fun t14 => some (t10.1, t14.1, t14.2.1, t14.2.2))))) (stepsR (0, b0, b1, b2) [opA n d, opB n] (c, live, safe, ops)) := by
  have a1 := spec_act h 1 (fresh n) ⟨#[]⟩ d hd
  have i1 := actR_inv h 1 (fresh n) ⟨#[]⟩ d hd
  refine Ev.bind a1 ?_
  rw [stepsR]
  show Ev _ (if (actR live safe ops 1 (fresh n) ⟨#[]⟩ d).1 = 0 then stepsR (0, b0, b1, b2) [opB n] (actR live safe ops 1 (fresh n) ⟨#[]⟩ d) else ((actR live safe ops 1 (fresh n) ⟨#[]⟩ d).1, b0, b1, b2))
  generalize actR live safe ops 1 (fresh n) ⟨#[]⟩ d = x at *
  by_cases hx : x.1 = 0
  · rw [if_pos hx, stepsR]
    have a2 := spec_act i1 2 (fresh n) n ⟨#[]⟩ (Nat.zero_le _)
    have i2 := actR_inv i1 2 (fresh n) n ⟨#[]⟩ (Nat.zero_le _)
    refine Ev.pos hx (Ev.bind a2 ?_)
    show Ev _ (if (actR x.2.1 x.2.2.1 x.2.2.2 2 (fresh n) n ⟨#[]⟩).1 = 0 then stepsR (0, b0, b1, b2) [] (actR x.2.1 x.2.2.1 x.2.2.2 2 (fresh n) n ⟨#[]⟩) else ((actR x.2.1 x.2.2.1 x.2.2.2 2 (fresh n) n ⟨#[]⟩).1, b0, b1, b2))
    generalize actR x.2.1 x.2.2.1 x.2.2.2 2 (fresh n) n ⟨#[]⟩ = y at *
    by_cases hy : y.1 = 0
    · rw [if_pos hy, stepsR]
      exact Ev.pos hy (Ev.bind (copyD_ev i2) (Ev.ret _))
    · rw [if_neg hy]
      exact Ev.neg hy (Ev.bind (copyD_ev h0) (Ev.ret _))
  · rw [if_neg hx]
    exact Ev.neg hx (Ev.bind (copyD_ev h0) (Ev.ret _))
theorem spec_replace {live safe : List S80} {ops : List S73} (hs : Sm live safe ops) (n d : ByteArray) (hn : n.size ≤ 1048576) (hd : d.size ≤ 1048576) : Ev (fun k => f26 k live safe ops n d) (replaceR live safe ops n d) := by
  have hk := DiskOk_ev live safe ops hs.ls hs.ss (fun x hx => by have := hs.o x hx; omega)
  unfold f26 replaceR
  refine Ev.bind hk ?_
  cases hb : diskB live safe ops with
  | false => exact Ev.neg (by simp) (Ev.ret' (by simp))
  | true =>
    have h := hs.inv hb
    rw [if_pos rfl]
    refine Ev.pos rfl (Ev.pos (by omega) (Ev.bind (l4At_ev live (fresh n) (by have := hs.ln; omega)) ?_))
    unfold opsR
    by_cases hi : 0 ≤ idxP (nameIs (fresh n)) live
    · rw [if_pos hi]
      have a1 := spec_act h 3 (fresh n) ⟨#[]⟩ ⟨#[]⟩ (Nat.zero_le _)
      have i1 := actR_inv h 3 (fresh n) ⟨#[]⟩ ⟨#[]⟩ (Nat.zero_le _)
      refine Ev.pos hi (Ev.bind a1 ?_)
      rw [stepsR]
      show Ev _ (if (actR live safe ops 3 (fresh n) ⟨#[]⟩ ⟨#[]⟩).1 = 0 then stepsR (0, live, safe, ops) [opA n d, opB n] (actR live safe ops 3 (fresh n) ⟨#[]⟩ ⟨#[]⟩) else ((actR live safe ops 3 (fresh n) ⟨#[]⟩ ⟨#[]⟩).1, live, safe, ops))
      generalize actR live safe ops 3 (fresh n) ⟨#[]⟩ ⟨#[]⟩ = x at *
      by_cases hx : x.1 = 0
      · rw [if_pos hx]
        exact Ev.pos hx (two_ev h i1 x.1 n d hd)
      · rw [if_neg hx]
        exact Ev.neg hx (Ev.bind (copyD_ev h) (Ev.ret _))
    · rw [if_neg hi]
      exact Ev.neg hi (two_ev h h 0 n d hd)
theorem repl_loop {b0 b1 : List S80} {b2 : List S73} (h0 : Inv b0 b1 b2) (os : List S73) (hos : ∀ x ∈ os, x.f3.size ≤ 1048576) (hl : os.length ≤ 100) (e : Nat) : ∀ (i : Nat) (c : Int) (live safe : List S80) (ops : List S73), os.length - i = e → i ≤ os.length → Inv live safe ops →
    Ev (fun k => f67.l9 k os live safe ops (os.length : Int) (i : Int) b0 b1 b2) (stepsR (0, b0, b1, b2) (os.drop i) (c, live, safe, ops)) := by
  induction e with
  | zero =>
    intro i c live safe ops hd hi h
    refine Ev.step (fun k => by rw [f67.l9]) (Ev.neg (by omega) (Ev.ret' ?_))
    rw [List.drop_of_length_le (by omega), stepsR]
  | succ e ih =>
    intro i c live safe ops hd hi h
    have h1 : i < os.length := by omega
    refine Ev.step (fun k => by rw [f67.l9]) (Ev.pos (by omega) (Ev.pos (by omega) (Ev.pos (by omega) ?_)))
    rw [rdO_nat os i h1, List.drop_eq_getElem_cons h1, stepsR]
    have hop := hos _ (List.getElem_mem h1)
    generalize os[i] = op at *
    have a1 := impl_act h op.f0 op.f1 op.f2 op.f3 hop
    have i1 := actR_inv h op.f0 op.f1 op.f2 op.f3 hop
    refine Ev.bind a1 ?_
    show Ev _ (if (actR live safe ops op.f0 op.f1 op.f2 op.f3).1 = 0 then stepsR (0, b0, b1, b2) (os.drop (i + 1)) (actR live safe ops op.f0 op.f1 op.f2 op.f3) else ((actR live safe ops op.f0 op.f1 op.f2 op.f3).1, b0, b1, b2))
    generalize actR live safe ops op.f0 op.f1 op.f2 op.f3 = x at *
    by_cases hx : x.1 = 0
    · rw [if_pos hx]
      refine Ev.pos hx ?_
      rw [show IntKind.i64.wrap ((i : Int) + 1) = ((i + 1 : Nat) : Int) by rw [wr (by omega) (by omega)]; omega]
      exact ih (i + 1) x.1 x.2.1 x.2.2.1 x.2.2.2 (by omega) (by omega) i1
    · rw [if_neg hx]
      exact Ev.neg hx (Ev.bind (icopy_ev h0) (Ev.ret _))
theorem impl_repl {live safe : List S80} {ops : List S73} (hs : Sm live safe ops) (n d : ByteArray) (hn : n.size ≤ 1048576) (hd : d.size ≤ 1048576) : Ev (fun k => f67 k live safe ops n d) (replaceR live safe ops n d) := by
  have hk := isDisk_ev live safe ops hs.ls hs.ss (fun x hx => by have := hs.o x hx; omega) (by have := hs.ln; omega) (by have := hs.sn; omega)
  unfold f67 replaceR
  refine Ev.bind hk ?_
  cases hb : diskB live safe ops with
  | false => exact Ev.neg (by simp) (Ev.ret' (by simp))
  | true =>
    have h := hs.inv hb
    rw [if_pos rfl]
    refine Ev.pos rfl (Ev.pos (by omega) (Ev.bind (fileOf_ev live (fresh n) (by have := hs.ln; omega)) ?_))
    unfold opsR
    by_cases hi : 0 ≤ idxP (nameIs (fresh n)) live
    · rw [if_pos hi]
      refine Ev.pos hi (Ev.bind (a := [opC n, opA n d, opB n]) ?_ (Ev.bind (icopy_ev h) ?_))
      · unfold f103
        refine Ev.pos ⟨Int.le_refl _, by simp, rfl, by simp, by simp⟩ (Ev.ret' (by simp [opA, opB, opC, fresh]))
      · refine repl_loop h [opC n, opA n d, opB n] ?_ (by simp) _ 0 0 live safe ops rfl (Nat.zero_le _) h
        intro x hx
        simp only [List.mem_cons, List.not_mem_nil, or_false] at hx
        rcases hx with rfl | rfl | rfl
        · exact Nat.zero_le _
        · exact hd
        · exact Nat.zero_le _
    · rw [if_neg hi]
      refine Ev.neg hi (Ev.bind (icopy_ev h) ?_)
      refine repl_loop h [opA n d, opB n] ?_ (by simp) _ 0 0 live safe ops rfl (Nat.zero_le _) h
      intro x hx
      simp only [List.mem_cons, List.not_mem_nil, or_false] at hx
      rcases hx with rfl | rfl
      · exact hd
      · exact Nat.zero_le _
end Go.Proofs.Ytfjoamlgbegpgaa.P
namespace Go.Proofs.Ytfjoamlgbegpgaa.P
open Go Go.Proofs.Ytfjoamlgbegpgaa.PM Go.Proofs
end Go.Proofs.Ytfjoamlgbegpgaa.P
namespace Go.Proofs.Ytfjoamlgbegpgaa.P
open Go Go.Proofs.Ytfjoamlgbegpgaa.PM Go.Proofs
theorem bytesL_len (s : ByteArray) : (bytesL s).length = s.size := by
  unfold bytesL
  rw [List.length_map, Array.length_toList]
  rfl
theorem bytesL_at (s : ByteArray) (i : Nat) (h : i < s.size) : at' (bytesL s) (i : Int) = byteAt s (i : Int) := by
  rw [at_nat _ i (by rw [bytesL_len]; exact h), ← get_byte_nat s i h]
  unfold bytesL
  rw [List.getElem_map, Array.getElem_toList]
  rfl
theorem byteAt_b (s : ByteArray) (i : Int) : 0 ≤ byteAt s i ∧ byteAt s i ≤ 255 := by
  unfold byteAt
  cases h : s[i.toNat]? with
  | none => exact ⟨by decide, by decide⟩
  | some b =>
    have := b.toNat_lt
    show 0 ≤ (b.toNat : Int) ∧ (b.toNat : Int) ≤ 255
    omega
theorem byteAt_cut (s : ByteArray) (a b i : Nat) (h : a + i < b) (hb : b ≤ s.size) : byteAt (s.extract a b) (i : Int) = byteAt s ((a + i : Nat) : Int) := by
  have hs : i < (s.extract a b).size := by rw [ByteArray.size_extract]; omega
  rw [← get_byte_nat _ i hs, ← get_byte_nat s (a + i) (by omega), ByteArray.getElem_extract]
theorem strOf_take (s : ByteArray) (n : Nat) : strOf ((bytesL s).take n) = s.extract 0 n := by
  unfold strOf bytesL
  apply ByteArray.ext
  rw [ByteArray.data_extract]
  apply Array.toList_inj.1
  rw [Array.toList_extract, ← List.map_take, List.map_map]
  show List.map _ _ = (s.data.toList.drop 0).take (n - 0)
  rw [List.drop_zero, Nat.sub_zero]
  conv => rhs; rw [← List.map_id (List.take n s.data.toList)]
  apply List.map_congr_left
  intro x _
  show UInt8.ofNat (x.toNat : Int).toNat = x
  rw [Int.toNat_natCast, UInt8.ofNat_toNat]
theorem cut_cut (s : ByteArray) (a b : Nat) (h : a ≤ b) : (s.extract 0 b).extract a b = s.extract a b := by
  rw [ByteArray.extract_extract]
  congr 1 <;> omega
def word4 (s : ByteArray) (a : Nat) : Int := orI .u32 (orI .u32 (orI .u32 (IntKind.u32.wrap (byteAt s (a : Int))) (shlI .u32 (IntKind.u32.wrap (byteAt s ((a + 1 : Nat) : Int))) 8)) (shlI .u32 (IntKind.u32.wrap (byteAt s ((a + 2 : Nat) : Int))) 16)) (shlI .u32 (IntKind.u32.wrap (byteAt s ((a + 3 : Nat) : Int))) 24)
theorem u32_w (n : Int) : IntKind.u32.wrap n = n % 4294967296 := by simp [IntKind.wrap, IntKind.signed, IntKind.bits]
theorem u32_b (n : Int) : 0 ≤ IntKind.u32.wrap n ∧ IntKind.u32.wrap n ≤ 4294967295 := by
  rw [u32_w]
  omega
theorem word4_b (s : ByteArray) (a : Nat) : 0 ≤ word4 s a ∧ word4 s a ≤ 4294967295 := u32_b _
theorem l2Word_ev (s : ByteArray) (a b : Nat) (h : a + 4 = b) (hb : b ≤ s.size) : Ev (fun k => f136 k (s.extract a b)) (word4 s a) := by
  unfold f136
  have hs : (s.extract a b).size = 4 := by rw [ByteArray.size_extract]; omega
  have e (i : Nat) (hi : i < 4) : byteAt (s.extract a b) (i : Int) = byteAt s ((a + i : Nat) : Int) := byteAt_cut s a b i (by omega) hb
  have e0 := e 0 (by omega)
  have e1 := e 1 (by omega)
  have e2 := e 2 (by omega)
  have e3 := e 3 (by omega)
  refine Ev.pos (by omega) (Ev.pos (by omega) (Ev.pos (by omega) (Ev.pos (by omega) (Ev.ret' ?_))))
  unfold word4
  rw [show (byteAt (s.extract a b) 0) = _ from e0, show (byteAt (s.extract a b) 1) = _ from e1, show (byteAt (s.extract a b) 2) = _ from e2, show (byteAt (s.extract a b) 3) = _ from e3]
  rfl
theorem uint32_ev (s : ByteArray) (a : Nat) (h : a + 4 ≤ s.size) : Ev (fun k => f127 k (((bytesL s).drop a).take (s.size - a))) (word4 s a) := by
  unfold f127
  have hl : (((bytesL s).drop a).take (s.size - a)).length = s.size - a := by rw [List.length_take, List.length_drop, bytesL_len]; omega
  have e (i : Nat) (hi : i < 4) : at' (((bytesL s).drop a).take (s.size - a)) (i : Int) = byteAt s ((a + i : Nat) : Int) := by
    rw [at_nat _ i (by omega), List.getElem_take, List.getElem_drop, ← bytesL_at s (a + i) (by omega), at_nat _ (a + i) (by rw [bytesL_len]; omega)]
  have e0 := e 0 (by omega)
  have e1 := e 1 (by omega)
  have e2 := e 2 (by omega)
  have e3 := e 3 (by omega)
  refine Ev.pos (by omega) (Ev.pos (by omega) (Ev.pos (by omega) (Ev.pos (by omega) (Ev.ret' ?_))))
  unfold word4
  rw [show (at' (((bytesL s).drop a).take (s.size - a)) 0) = _ from e0, show (at' (((bytesL s).drop a).take (s.size - a)) 1) = _ from e1, show (at' (((bytesL s).drop a).take (s.size - a)) 2) = _ from e2, show (at' (((bytesL s).drop a).take (s.size - a)) 3) = _ from e3]
  rfl
theorem crc_bits (s : ByteArray) (n i : Nat) (hn : n ≤ 1073741824) (hi : i < n) (h : ∀ x : Int, ∃ r, Ev (fun k => f131.l3 k s x ((i + 1 : Nat) : Int)) r ∧ Ev (fun k => f116.l3 k s x (n : Int) ((i + 1 : Nat) : Int)) r) (d : Nat) : ∀ (j : Nat) (x : Int), 8 - j = d → j ≤ 8 → ∃ r, Ev (fun k => f131.l7 k s x (i : Int) (j : Int)) r ∧ Ev (fun k => f116.l7 k s x (n : Int) (i : Int) (j : Int)) r := by
  have wi : IntKind.i64.wrap ((i : Int) + 1) = ((i + 1 : Nat) : Int) := by rw [wr (by omega) (by omega)]; omega
  induction d with
  | zero =>
    intro j x hd hj
    obtain ⟨r, h1, h2⟩ := h x
    rw [← wi] at h1 h2
    exact ⟨r, Ev.step (fun k => by rw [f131.l7]) (Ev.neg (by omega) h1), Ev.step (fun k => by rw [f116.l7]) (Ev.neg (by omega) h2)⟩
  | succ d ih =>
    intro j x hd hj
    have wj : IntKind.i64.wrap ((j : Int) + 1) = ((j + 1 : Nat) : Int) := by rw [wr (by omega) (by omega)]; omega
    by_cases hb : andI .u32 x 1 = 1
    · obtain ⟨r, h1, h2⟩ := ih (j + 1) (xorI .u32 (shrI .u32 x 1) 3988292384) (by omega) (by omega)
      rw [← wj] at h1 h2
      exact ⟨r, Ev.step (fun k => by rw [f131.l7]) (Ev.pos (by omega) (Ev.pos hb h1)), Ev.step (fun k => by rw [f116.l7]) (Ev.pos (by omega) (Ev.pos hb h2))⟩
    · obtain ⟨r, h1, h2⟩ := ih (j + 1) (shrI .u32 x 1) (by omega) (by omega)
      rw [← wj] at h1 h2
      exact ⟨r, Ev.step (fun k => by rw [f131.l7]) (Ev.pos (by omega) (Ev.neg hb h1)), Ev.step (fun k => by rw [f116.l7]) (Ev.pos (by omega) (Ev.neg hb h2))⟩
theorem crc_loop (s : ByteArray) (hs : s.size ≤ 1073741824) (d : Nat) : ∀ (i : Nat) (x : Int), s.size - i = d → i ≤ s.size → ∃ r, Ev (fun k => f131.l3 k s x (i : Int)) r ∧ Ev (fun k => f116.l3 k s x (s.size : Int) (i : Int)) r := by
  induction d with
  | zero =>
    intro i x hd hi
    exact ⟨_, Ev.step (fun k => by rw [f131.l3]) (Ev.neg (by omega) (Ev.ret _)), Ev.step (fun k => by rw [f116.l3]) (Ev.neg (by omega) (Ev.ret _))⟩
  | succ d ih =>
    intro i x hd hi
    obtain ⟨r, h1, h2⟩ := crc_bits s s.size i hs (by omega) (fun x => ih (i + 1) x (by omega) (by omega)) 8 0 (xorI .u32 x (IntKind.u32.wrap (byteAt s i))) rfl (by omega)
    rw [show ((0 : Nat) : Int) = 0 from rfl] at h1 h2
    refine ⟨r, Ev.step (fun k => by rw [f131.l3]) (Ev.pos (by omega) (Ev.pos (by omega) ?_)), Ev.step (fun k => by rw [f116.l3]) (Ev.pos (by omega) (Ev.pos (by omega) (Ev.pos (by omega) ?_)))⟩
    · exact h1
    · exact h2
theorem crc_two (s : ByteArray) (hs : s.size ≤ 1073741824) : ∃ r, Ev (fun k => f131 k s) r ∧ Ev (fun k => f116 k s) r := by
  unfold f131 f116
  exact crc_loop s hs _ 0 _ rfl (Nat.zero_le _)
theorem or_shl (n c i : Nat) (hi : i ≤ 5) (hn : n < 2 ^ (7 * i)) (hc : c < 128) : orI .i64 (n : Int) (shlI .i64 (c : Int) (IntKind.i64.wrap (7 * (i : Int)))) = ((n + c * 2 ^ (7 * i) : Nat) : Int) ∧ n + c * 2 ^ (7 * i) < 2 ^ (7 * (i + 1)) ∧ 2 ^ (7 * i) ≤ 34359738368 := by
  have hp : 2 ^ (7 * i) ≤ 2 ^ 35 := Nat.pow_le_pow_right (by omega) (by omega)
  have hp' : 2 ^ (7 * i) ≤ 34359738368 := hp
  have hq : 2 ^ (7 * (i + 1)) = 128 * 2 ^ (7 * i) := by rw [show 7 * (i + 1) = 7 + 7 * i by omega, Nat.pow_add]
  have hm : c * 2 ^ (7 * i) ≤ 127 * 2 ^ (7 * i) := Nat.mul_le_mul_right _ (by omega)
  refine ⟨?_, by omega, hp'⟩
  have hs : shlI .i64 (c : Int) (IntKind.i64.wrap (7 * (i : Int))) = ((c * 2 ^ (7 * i) : Nat) : Int) := by
    unfold shlI
    rw [wr (n := 7 * (i : Int)) (by omega) (by omega), show (7 * (i : Int)).toNat = 7 * i by omega, show min (7 * i) IntKind.i64.bits = 7 * i from Nat.min_eq_left (by show 7 * i ≤ 64; omega)]
    rw [show ((c : Int) * 2 ^ (7 * i)) = ((c * 2 ^ (7 * i) : Nat) : Int) by rw [Int.natCast_mul, Int.natCast_pow]; rfl]
    exact wr (by omega) (by omega)
  rw [hs]
  unfold orI
  show IntKind.i64.wrap ((BitVec.ofInt 64 (n : Int) ||| BitVec.ofInt 64 ((c * 2 ^ (7 * i) : Nat) : Int)).toNat : Int) = _
  rw [BitVec.ofInt_natCast, BitVec.ofInt_natCast, BitVec.toNat_or, BitVec.toNat_ofNat, BitVec.toNat_ofNat, Nat.mod_eq_of_lt (by omega), Nat.mod_eq_of_lt (by omega), Nat.or_comm, ← Nat.shiftLeft_eq, ← Nat.shiftLeft_add_eq_or_of_lt hn, Nat.shiftLeft_eq, Nat.add_comm]
  exact wr (by omega) (by omega)
structure NumOk (s : ByteArray) (r : Int × ByteArray × Bool) : Prop where
  lo : 0 ≤ r.1
  hi : r.1 ≤ 1000000000000
  le : r.2.1.size ≤ s.size
theorem num_no (s : ByteArray) : NumOk s (0, (⟨#[]⟩ : ByteArray), false) := ⟨by decide, by decide, Nat.zero_le _⟩
theorem isNumber_ev (n : Int) : Ev (fun k => f78 k n) (decide (0 ≤ n) && decide (n ≤ 1000000000000)) := by
  unfold f78 f60
  by_cases h : 0 ≤ n
  · refine Ev.bind (Ev.pos h (Ev.ret _)) (Ev.ret' ?_)
    rw [decide_eq_true h, Bool.true_and]
  · refine Ev.bind (Ev.neg h (Ev.ret _)) (Ev.ret' ?_)
    rw [decide_eq_false h, Bool.false_and]
theorem take_loop (s : ByteArray) (d : Nat) : ∀ (i n : Nat), 6 - i = d → i ≤ 6 → n < 2 ^ (7 * i) → ∃ r, Ev (fun k => f107.l4 k s (n : Int) ((2 ^ (7 * i) : Nat) : Int) (i : Int)) r ∧ Ev (fun k => f110.l3 k s (n : Int) (i : Int)) r ∧ NumOk s r := by
  induction d with
  | zero =>
    intro i n hd hi hn
    by_cases hs : i < s.size
    · exact ⟨_, Ev.step (fun k => by rw [f107.l4]) (Ev.pos (by omega) (Ev.neg (by omega) (Ev.ret _))), Ev.step (fun k => by rw [f110.l3]) (Ev.pos (by omega) (Ev.neg (by omega) (Ev.ret _))), num_no s⟩
    · exact ⟨_, Ev.step (fun k => by rw [f107.l4]) (Ev.neg (by omega) (Ev.ret _)), Ev.step (fun k => by rw [f110.l3]) (Ev.neg (by omega) (Ev.ret _)), num_no s⟩
  | succ d ih =>
    intro i n hd hi hn
    by_cases hs : i < s.size
    case neg => exact ⟨_, Ev.step (fun k => by rw [f107.l4]) (Ev.neg (by omega) (Ev.ret _)), Ev.step (fun k => by rw [f110.l3]) (Ev.neg (by omega) (Ev.ret _)), num_no s⟩
    obtain ⟨b0, b1⟩ := byteAt_b s (i : Int)
    have wb : IntKind.i64.wrap (byteAt s (i : Int)) = byteAt s (i : Int) := wr (by omega) (by omega)
    have w7 : IntKind.i64.wrap (7 * (i : Int)) = 7 * (i : Int) := wr (by omega) (by omega)
    have w1 : IntKind.i64.wrap ((i : Int) + 1) = ((i + 1 : Nat) : Int) := by rw [wr (by omega) (by omega)]; omega
    obtain ⟨c, hc, ec⟩ : ∃ c : Nat, c < 128 ∧ (byteAt s (i : Int)).tmod 128 = (c : Int) := by
      rw [Int.tmod_eq_emod_of_nonneg b0]
      exact ⟨(byteAt s (i : Int) % 128).toNat, by omega, by omega⟩
    obtain ⟨eo, lo, hp⟩ := or_shl n c i (by omega) hn hc
    obtain ⟨p, ep⟩ : ∃ p : Nat, p = 2 ^ (7 * i) := ⟨_, rfl⟩
    have hq : 2 ^ (7 * (i + 1)) = 128 * p := by rw [show 7 * (i + 1) = 7 + 7 * i by omega, Nat.pow_add, ep]
    rw [← ep] at eo lo hp hn ⊢
    have hcp : c * p ≤ 127 * p := Nat.mul_le_mul_right _ (by omega)
    have es : IntKind.i64.wrap ((n : Int) + IntKind.i64.wrap ((c : Int) * (p : Int))) = ((n + c * p : Nat) : Int) := by
      rw [show (c : Int) * (p : Int) = ((c * p : Nat) : Int) by rw [Int.natCast_mul], wr (n := ((c * p : Nat) : Int)) (by omega) (by omega), wr (by omega) (by omega)]
      omega
    have ep2 : IntKind.i64.wrap ((p : Int) * 128) = ((2 ^ (7 * (i + 1)) : Nat) : Int) := by rw [wr (by omega) (by omega), hq]; omega
    by_cases h1 : byteAt s (i : Int) < 128
    · by_cases hz : byteAt s (i : Int) = 0 ∧ 0 < (i : Int)
      · refine ⟨_, Ev.step (fun k => by rw [f107.l4]) (Ev.pos (by omega) (Ev.pos (by omega) (Ev.pos (by omega) ?_))), Ev.step (fun k => by rw [f110.l3]) (Ev.pos (by omega) (Ev.pos (by omega) (Ev.pos (by omega) (Ev.pos (by omega) ?_)))), num_no s⟩
        · rw [wb]; exact Ev.pos h1 (Ev.pos hz.1 (Ev.pos hz.2 (Ev.ret _)))
        · rw [wb]; exact Ev.neg (by omega) (Ev.pos hz.1 (Ev.pos hz.2 (Ev.ret _)))
      · by_cases hm : n + c * p ≤ 1000000000000
        · refine ⟨(((n + c * p : Nat) : Int), s.extract (i + 1) s.size, true), Ev.step (fun k => by rw [f107.l4]) (Ev.pos (by omega) (Ev.pos (by omega) (Ev.pos (by omega) ?_))), Ev.step (fun k => by rw [f110.l3]) (Ev.pos (by omega) (Ev.pos (by omega) (Ev.pos (by omega) (Ev.pos (by omega) ?_)))), ⟨by omega, by show ((n + c * p : Nat) : Int) ≤ _; omega, by show (s.extract (i + 1) s.size).size ≤ _; rw [ByteArray.size_extract]; omega⟩⟩
          · rw [wb, ec, es, w1, Int.toNat_natCast]
            refine Ev.pos h1 ?_
            by_cases h0 : byteAt s (i : Int) = 0
            · exact Ev.pos h0 (Ev.neg (fun h => hz ⟨h0, h⟩) (Ev.neg (by omega) (Ev.pos (by omega) (Ev.pos (by omega) (Ev.ret _)))))
            · exact Ev.neg h0 (Ev.neg (by omega) (Ev.pos (by omega) (Ev.pos (by omega) (Ev.ret _))))
          · rw [wb, ec, eo, w1, Int.toNat_natCast]
            have hk := isNumber_ev ((n + c * p : Nat) : Int)
            rw [decide_eq_true (show (0 : Int) ≤ ((n + c * p : Nat) : Int) by omega), decide_eq_true (show ((n + c * p : Nat) : Int) ≤ 1000000000000 by omega)] at hk
            refine Ev.neg (by omega) ?_
            by_cases h0 : byteAt s (i : Int) = 0
            · exact Ev.pos h0 (Ev.neg (fun h => hz ⟨h0, h⟩) (Ev.bind hk (Ev.pos rfl (Ev.pos (by omega) (Ev.pos (by omega) (Ev.ret _))))))
            · exact Ev.neg h0 (Ev.bind hk (Ev.pos rfl (Ev.pos (by omega) (Ev.pos (by omega) (Ev.ret _)))))
        · refine ⟨_, Ev.step (fun k => by rw [f107.l4]) (Ev.pos (by omega) (Ev.pos (by omega) (Ev.pos (by omega) ?_))), Ev.step (fun k => by rw [f110.l3]) (Ev.pos (by omega) (Ev.pos (by omega) (Ev.pos (by omega) (Ev.pos (by omega) ?_)))), num_no s⟩
          · rw [wb, ec, es, w1, Int.toNat_natCast]
            refine Ev.pos h1 ?_
            by_cases h0 : byteAt s (i : Int) = 0
            · exact Ev.pos h0 (Ev.neg (fun h => hz ⟨h0, h⟩) (Ev.pos (by omega) (Ev.ret _)))
            · exact Ev.neg h0 (Ev.pos (by omega) (Ev.ret _))
          · rw [wb, ec, eo, w1, Int.toNat_natCast]
            have hk := isNumber_ev ((n + c * p : Nat) : Int)
            rw [decide_eq_true (show (0 : Int) ≤ ((n + c * p : Nat) : Int) by omega), decide_eq_false (show ¬ ((n + c * p : Nat) : Int) ≤ 1000000000000 by omega)] at hk
            refine Ev.neg (by omega) ?_
            by_cases h0 : byteAt s (i : Int) = 0
            · exact Ev.pos h0 (Ev.neg (fun h => hz ⟨h0, h⟩) (Ev.bind hk (Ev.neg (by simp) (Ev.ret _))))
            · exact Ev.neg h0 (Ev.bind hk (Ev.neg (by simp) (Ev.ret _)))
    · obtain ⟨r, r1, r2, ro⟩ := ih (i + 1) (n + c * p) (by omega) (by omega) lo
      refine ⟨r, Ev.step (fun k => by rw [f107.l4]) (Ev.pos (by omega) (Ev.pos (by omega) (Ev.pos (by omega) ?_))), Ev.step (fun k => by rw [f110.l3]) (Ev.pos (by omega) (Ev.pos (by omega) (Ev.pos (by omega) (Ev.pos (by omega) ?_)))), ro⟩
      · rw [wb, ec, es, w1, ep2]
        exact Ev.neg h1 r1
      · rw [wb, ec, eo, w1]
        exact Ev.pos (by omega) r2
theorem take_two (s : ByteArray) : ∃ r, Ev (fun k => f107 k s) r ∧ Ev (fun k => f110 k s) r ∧ NumOk s r := by
  unfold f107 f110
  exact take_loop s 6 0 0 rfl (by omega) (by decide)
theorem text_two (s : ByteArray) : ∃ r : ByteArray × ByteArray × Bool, Ev (fun k => f137 k s) r ∧ Ev (fun k => f128 k s) r := by
  unfold f137 f128
  obtain ⟨r, h1, h2, ⟨lo, hi, le⟩⟩ := take_two s
  cases hb : r.2.2 with
  | false => exact ⟨_, Ev.bind h1 (Ev.neg (by rw [hb]; simp) (Ev.ret _)), Ev.bind h2 (Ev.neg (by rw [hb]; simp) (Ev.ret _))⟩
  | true =>
    by_cases h3 : 20000 < r.1
    · exact ⟨_, Ev.bind h1 (Ev.pos hb (Ev.pos h3 (Ev.ret _))), Ev.bind h2 (Ev.pos hb (Ev.pos h3 (Ev.ret _)))⟩
    · by_cases h4 : (r.2.1.size : Int) < r.1
      · exact ⟨_, Ev.bind h1 (Ev.pos hb (Ev.neg h3 (Ev.pos h4 (Ev.ret _)))), Ev.bind h2 (Ev.pos hb (Ev.neg h3 (Ev.pos h4 (Ev.ret _))))⟩
      · exact ⟨_, Ev.bind h1 (Ev.pos hb (Ev.neg h3 (Ev.neg h4 (Ev.pos lo (Ev.pos (by omega) (Ev.ret _)))))), Ev.bind h2 (Ev.pos hb (Ev.neg h3 (Ev.neg h4 (Ev.pos lo (Ev.pos (by omega) (Ev.ret _))))))⟩
end Go.Proofs.Ytfjoamlgbegpgaa.P
namespace Go.Proofs.Ytfjoamlgbegpgaa.P
open Go Go.Proofs.Ytfjoamlgbegpgaa.PM Go.Proofs
theorem l1In_ev (n a b : Int) : Ev (fun k => f58 k n a b) (decide (a ≤ n) && decide (n ≤ b)) := by
  unfold f58
  by_cases h : a ≤ n
  · refine Ev.pos h (Ev.ret' ?_)
    rw [decide_eq_true h, Bool.true_and]
  · refine Ev.neg h (Ev.ret' ?_)
    rw [decide_eq_false h, Bool.false_and]
theorem in_ev (n a b : Int) : Ev (fun k => f60 k n a b) (decide (a ≤ n) && decide (n ≤ b)) := by
  unfold f60
  by_cases h : a ≤ n
  · refine Ev.pos h (Ev.ret' ?_)
    rw [decide_eq_true h, Bool.true_and]
  · refine Ev.neg h (Ev.ret' ?_)
    rw [decide_eq_false h, Bool.false_and]
theorem in_yes {n a b : Int} (h1 : a ≤ n) (h2 : n ≤ b) : Ev (fun k => f60 k n a b) true := (in_ev n a b).eq (by rw [decide_eq_true h1, decide_eq_true h2]; rfl)
theorem l1In_yes {n a b : Int} (h1 : a ≤ n) (h2 : n ≤ b) : Ev (fun k => f58 k n a b) true := (l1In_ev n a b).eq (by rw [decide_eq_true h1, decide_eq_true h2]; rfl)
theorem l1In_no {n a b : Int} (h : ¬ (a ≤ n ∧ n ≤ b)) : Ev (fun k => f58 k n a b) false := (l1In_ev n a b).eq (by
  by_cases h1 : a ≤ n
  · rw [decide_eq_false (fun h2 => h ⟨h1, h2⟩), Bool.and_false]
  · rw [decide_eq_false h1, Bool.false_and])
structure FrOk (s : ByteArray) (r : Int × Int × List S104) : Prop where
  n : r.2.2.length ≤ s.size
theorem frames_loop (s : ByteArray) (hs : s.size ≤ 1073741824) (d : Nat) : ∀ (p : Nat) (q : List S104), s.size - p ≤ d → p ≤ s.size → q.length ≤ p → ∃ r, Ev (fun k => f106.l3 k q s (p : Int)) r ∧ Ev (fun k => f109.l3 k q s (p : Int)) r ∧ FrOk s r := by
  induction d with
  | zero =>
    intro p q hd hp hq
    have h0 : (s.extract p s.size).size = 0 := by rw [ByteArray.size_extract]; omega
    refine ⟨((p : Int), 0, q), Ev.step (fun k => by rw [f106.l3]) (Ev.neg (by omega) (Ev.ret _)), Ev.step (fun k => by rw [f109.l3]) ?_, ⟨by show q.length ≤ _; omega⟩⟩
    rw [Int.toNat_natCast]
    exact Ev.pos (by omega) (Ev.pos (by omega) (Ev.pos (by omega) (Ev.pos (by rw [bytesL_len]; omega) (Ev.ret _))))
  | succ d ih =>
    intro p q hd hp hq
    obtain ⟨t, ht⟩ : ∃ t, t = s.extract p s.size := ⟨_, rfl⟩
    have hz : t.size = s.size - p := by rw [ht, ByteArray.size_extract]; omega
    by_cases hpe : p = s.size
    · refine ⟨((p : Int), 0, q), Ev.step (fun k => by rw [f106.l3]) (Ev.neg (by omega) (Ev.ret _)), Ev.step (fun k => by rw [f109.l3]) ?_, ⟨by show q.length ≤ _; omega⟩⟩
      rw [Int.toNat_natCast, ← ht]
      exact Ev.pos (by omega) (Ev.pos (by omega) (Ev.pos (by omega) (Ev.pos (by rw [bytesL_len]; omega) (Ev.ret _))))
    have hl := bytesL_len t
    by_cases hm : (q.length : Int) = 2000
    · refine ⟨((p : Int), 5, q), Ev.step (fun k => by rw [f106.l3]) (Ev.pos (by omega) (Ev.pos hm (Ev.ret _))), Ev.step (fun k => by rw [f109.l3]) ?_, ⟨by show q.length ≤ _; omega⟩⟩
      rw [Int.toNat_natCast, ← ht]
      exact Ev.pos (by omega) (Ev.pos (by omega) (Ev.pos (by omega) (Ev.neg (by rw [hl]; omega) (Ev.pos hm (Ev.ret _)))))
    obtain ⟨b0, b1⟩ := byteAt_b t 0
    have hb : at' (bytesL t) 0 = byteAt t 0 := bytesL_at t 0 (by omega)
    have wb : IntKind.i64.wrap (byteAt t 0) = byteAt t 0 := wr (by omega) (by omega)
    have err (c : Int) (hc : c ≠ 0) (h : Ev (fun k => f124 k t) (0, (⟨#[]⟩ : ByteArray), 0, c)) : Ev (fun k => f106.l3 k q s (p : Int)) ((p : Int), c, q) := by
      refine Ev.step (fun k => by rw [f106.l3]) (Ev.pos (by omega) (Ev.neg hm (Ev.pos (by omega) (Ev.pos (by omega) ?_))))
      rw [Int.toNat_natCast, ← ht]
      exact Ev.bind h (Ev.neg hc (Ev.ret _))
    by_cases hk : 1 ≤ byteAt t 0 ∧ byteAt t 0 ≤ 100
    case neg =>
      refine ⟨((p : Int), 2, q), err 2 (by decide) ?_, Ev.step (fun k => by rw [f109.l3]) ?_, ⟨by show q.length ≤ _; omega⟩⟩
      · unfold f124
        refine Ev.pos (by omega) ?_
        rw [wb]
        exact Ev.bind (l1In_no hk) (Ev.neg (by simp) (Ev.ret _))
      · rw [Int.toNat_natCast, ← ht, hb]
        refine Ev.pos (by omega) (Ev.pos (by omega) (Ev.pos (by omega) (Ev.neg (by rw [hl]; omega) (Ev.neg hm (Ev.pos (by rw [hl]; omega) ?_)))))
        by_cases h1 : byteAt t 0 < 1
        · exact Ev.pos h1 (Ev.ret _)
        · exact Ev.neg h1 (Ev.pos (by omega) (Ev.ret _))
    have hin : Ev (fun k => f58 k (IntKind.i64.wrap (byteAt t 0)) 1 100) true := by rw [wb]; exact l1In_yes hk.1 hk.2
    by_cases h5 : t.size < 5
    · refine ⟨((p : Int), 1, q), err 1 (by decide) ?_, Ev.step (fun k => by rw [f109.l3]) ?_, ⟨by show q.length ≤ _; omega⟩⟩
      · unfold f124
        exact Ev.pos (by omega) (Ev.bind hin (Ev.pos rfl (Ev.pos (by omega) (Ev.ret _))))
      · rw [Int.toNat_natCast, ← ht, hb]
        exact Ev.pos (by omega) (Ev.pos (by omega) (Ev.pos (by omega) (Ev.neg (by rw [hl]; omega) (Ev.neg hm (Ev.pos (by rw [hl]; omega) (Ev.neg (by omega) (Ev.neg (by omega) (Ev.pos (by rw [hl]; omega) (Ev.ret _)))))))))
    have hw1 : Ev (fun k => f136 k (t.extract 1 5)) (word4 t 1) := l2Word_ev t 1 5 rfl (by omega)
    have hw2 : Ev (fun k => f127 k (((bytesL t).drop 1).take ((bytesL t).length - 1))) (word4 t 1) := by rw [hl]; exact uint32_ev t 1 (by omega)
    obtain ⟨w0, w1⟩ := word4_b t 1
    obtain ⟨w, hw⟩ : ∃ w : Nat, word4 t 1 = (w : Int) := ⟨(word4 t 1).toNat, by omega⟩
    rw [hw] at hw1 hw2 w0 w1
    have ww : IntKind.i64.wrap (w : Int) = (w : Int) := wr (by omega) (by omega)
    have w9 : IntKind.i64.wrap (9 + (w : Int)) = ((9 + w : Nat) : Int) := by rw [wr (by omega) (by omega)]; omega
    have w5 : IntKind.i64.wrap (5 + (w : Int)) = ((5 + w : Nat) : Int) := by rw [wr (by omega) (by omega)]; omega
    have w54 : IntKind.i64.wrap (((5 + w : Nat) : Int) + 4) = ((9 + w : Nat) : Int) := by rw [wr (by omega) (by omega)]; omega
    have w94 : IntKind.i64.wrap (((9 + w : Nat) : Int) - 4) = ((5 + w : Nat) : Int) := by rw [wr (by omega) (by omega)]; omega
    by_cases hL : 20000 < (w : Int)
    · refine ⟨((p : Int), 3, q), err 3 (by decide) ?_, Ev.step (fun k => by rw [f109.l3]) ?_, ⟨by show q.length ≤ _; omega⟩⟩
      · unfold f124
        exact Ev.pos (by omega) (Ev.bind hin (Ev.pos rfl (Ev.neg (by omega) (Ev.pos (by omega) (Ev.bind hw1 (Ev.pos hL (Ev.ret _)))))))
      · rw [Int.toNat_natCast, ← ht, hb]
        exact Ev.pos (by omega) (Ev.pos (by omega) (Ev.pos (by omega) (Ev.neg (by rw [hl]; omega) (Ev.neg hm (Ev.pos (by rw [hl]; omega) (Ev.neg (by omega) (Ev.neg (by omega) (Ev.neg (by rw [hl]; omega) (Ev.pos (by rw [hl]; omega) (Ev.pos (by rw [hl]; omega) (Ev.bind hw2 (Ev.pos hL (Ev.ret _)))))))))))))
    by_cases hS : t.size < 9 + w
    · refine ⟨((p : Int), 1, q), err 1 (by decide) ?_, Ev.step (fun k => by rw [f109.l3]) ?_, ⟨by show q.length ≤ _; omega⟩⟩
      · unfold f124
        refine Ev.pos (by omega) (Ev.bind hin (Ev.pos rfl (Ev.neg (by omega) (Ev.pos (by omega) (Ev.bind hw1 (Ev.neg hL ?_))))))
        rw [ww, w9]
        exact Ev.pos (by omega) (Ev.ret _)
      · rw [Int.toNat_natCast, ← ht, hb]
        refine Ev.pos (by omega) (Ev.pos (by omega) (Ev.pos (by omega) (Ev.neg (by rw [hl]; omega) (Ev.neg hm (Ev.pos (by rw [hl]; omega) (Ev.neg (by omega) (Ev.neg (by omega) (Ev.neg (by rw [hl]; omega) (Ev.pos (by rw [hl]; omega) (Ev.pos (by rw [hl]; omega) (Ev.bind hw2 (Ev.neg hL ?_))))))))))))
        rw [ww, w5, w54]
        exact Ev.pos (by rw [hl]; omega) (Ev.ret _)
    obtain ⟨cr, c1, c2⟩ := crc_two (t.extract 0 (5 + w)) (by rw [ByteArray.size_extract]; omega)
    have hv1 : Ev (fun k => f136 k (t.extract (5 + w) (9 + w))) (word4 t (5 + w)) := l2Word_ev t (5 + w) (9 + w) (by omega) (by omega)
    have hv2 : Ev (fun k => f127 k (((bytesL t).drop (5 + w)).take ((bytesL t).length - (5 + w)))) (word4 t (5 + w)) := by rw [hl]; exact uint32_ev t (5 + w) (by omega)
    have hfz : (t.extract 0 (5 + w)).size = 5 + w := by rw [ByteArray.size_extract]; omega
    by_cases hC : word4 t (5 + w) = cr
    case neg =>
      refine ⟨((p : Int), 4, q), err 4 (by decide) ?_, Ev.step (fun k => by rw [f109.l3]) ?_, ⟨by show q.length ≤ _; omega⟩⟩
      · unfold f124
        refine Ev.pos (by omega) (Ev.bind hin (Ev.pos rfl (Ev.neg (by omega) (Ev.pos (by omega) (Ev.bind hw1 (Ev.neg hL ?_))))))
        rw [ww, w9, w94, Int.toNat_natCast, Int.toNat_natCast]
        exact Ev.neg (by omega) (Ev.pos (by omega) (Ev.pos (by omega) (Ev.pos (by omega) (Ev.pos (by omega) (Ev.bind hv1 (Ev.pos (by omega) (Ev.bind c1 (Ev.neg hC (Ev.ret _)))))))))
      · rw [Int.toNat_natCast, ← ht, hb]
        refine Ev.pos (by omega) (Ev.pos (by omega) (Ev.pos (by omega) (Ev.neg (by rw [hl]; omega) (Ev.neg hm (Ev.pos (by rw [hl]; omega) (Ev.neg (by omega) (Ev.neg (by omega) (Ev.neg (by rw [hl]; omega) (Ev.pos (by rw [hl]; omega) (Ev.pos (by rw [hl]; omega) (Ev.bind hw2 (Ev.neg hL ?_))))))))))))
        rw [ww, w5, w54, Int.toNat_natCast, strOf_take]
        exact Ev.neg (by rw [hl]; omega) (Ev.pos (by omega) (Ev.pos (by rw [hl]; omega) (Ev.pos (by rw [hl]; omega) (Ev.bind hv2 (Ev.bind c2 (Ev.neg hC (Ev.ret _)))))))
    have wn1 : IntKind.i64.wrap ((p : Int) + ((9 + w : Nat) : Int)) = ((p + (9 + w) : Nat) : Int) := by rw [wr (by omega) (by omega)]; omega
    have eb : (t.extract 0 (5 + w)).extract 5 (5 + w) = t.extract 5 (5 + w) := cut_cut t 5 (5 + w) (by omega)
    obtain ⟨r, r1, r2, ro⟩ := ih (p + (9 + w)) (q ++ [(⟨byteAt t 0, t.extract 5 (5 + w)⟩ : S104)]) (by omega) (by omega) (by rw [List.length_append, List.length_singleton]; omega)
    refine ⟨r, ?_, Ev.step (fun k => by rw [f109.l3]) ?_, ro⟩
    · have hf : Ev (fun k => f124 k t) (byteAt t 0, t.extract 5 (5 + w), ((9 + w : Nat) : Int), 0) := by
        unfold f124
        refine Ev.pos (by omega) (Ev.bind hin (Ev.pos rfl (Ev.neg (by omega) (Ev.pos (by omega) (Ev.bind hw1 (Ev.neg hL ?_))))))
        rw [ww, w9, w94, wb, Int.toNat_natCast, Int.toNat_natCast]
        exact Ev.neg (by omega) (Ev.pos (by omega) (Ev.pos (by omega) (Ev.pos (by omega) (Ev.pos (by omega) (Ev.bind hv1 (Ev.pos (by omega) (Ev.bind c1 (Ev.pos hC (Ev.pos (by omega) (Ev.ret _))))))))))
      refine Ev.step (fun k => by rw [f106.l3]) (Ev.pos (by omega) (Ev.neg hm (Ev.pos (by omega) (Ev.pos (by omega) ?_))))
      rw [Int.toNat_natCast, ← ht]
      refine Ev.bind hf (Ev.pos rfl (Ev.pos (by omega) (Ev.pos (by omega) ?_)))
      show Ev (fun k => f106.l3 k _ s (IntKind.i64.wrap ((p : Int) + ((9 + w : Nat) : Int)))) r
      rw [wn1]
      exact r1
    · rw [Int.toNat_natCast, ← ht, hb]
      refine Ev.pos (by omega) (Ev.pos (by omega) (Ev.pos (by omega) (Ev.neg (by rw [hl]; omega) (Ev.neg hm (Ev.pos (by rw [hl]; omega) (Ev.neg (by omega) (Ev.neg (by omega) (Ev.neg (by rw [hl]; omega) (Ev.pos (by rw [hl]; omega) (Ev.pos (by rw [hl]; omega) (Ev.bind hw2 (Ev.neg hL ?_))))))))))))
      rw [ww, w5, w54, Int.toNat_natCast, strOf_take]
      refine Ev.neg (by rw [hl]; omega) (Ev.pos (by omega) (Ev.pos (by rw [hl]; omega) (Ev.pos (by rw [hl]; omega) (Ev.bind hv2 (Ev.bind c2 (Ev.pos hC ?_))))))
      rw [hfz, eb, wb, wn1]
      exact Ev.pos (by omega) (Ev.pos (by omega) (Ev.pos (by omega) r2))
theorem frames_two (s : ByteArray) (hs : s.size ≤ 1073741824) : ∃ r, Ev (fun k => f106 k s) r ∧ Ev (fun k => f109 k s) r ∧ FrOk s r := by
  unfold f106 f109
  exact frames_loop s hs s.size 0 [] (by omega) (Nat.zero_le _) (Nat.le_refl _)
end Go.Proofs.Ytfjoamlgbegpgaa.P
namespace Go.Proofs.Ytfjoamlgbegpgaa.P
open Go Go.Proofs.Ytfjoamlgbegpgaa.PM Go.Proofs
def entB (t k : Int) (b : ByteArray) : Bool := (decide (1 ≤ t) && decide (t ≤ 1000000000000)) && ((decide (0 ≤ k) && decide (k ≤ 9)) && decide ((b.size : Int) ≤ 4000))
theorem entB_said {t k : Int} {b : ByteArray} (h : entB t k b = true) : (1 ≤ t ∧ t ≤ 1000000000000) ∧ (0 ≤ k ∧ k ≤ 9) ∧ (b.size : Int) ≤ 4000 := by
  unfold entB at h
  simp only [Bool.and_eq_true, decide_eq_true_eq] at h
  exact ⟨h.1, h.2.1, h.2.2⟩
theorem l5Entry_ev (t k : Int) (b : ByteArray) : Ev (fun q => f138 q t k b) (entB t k b) := by
  unfold f138 entB
  refine Ev.bind (l1In_ev t 1 1000000000000) ?_
  cases decide (1 ≤ t) && decide (t ≤ 1000000000000) with
  | false => exact Ev.neg (by simp) (Ev.ret _)
  | true =>
    refine Ev.pos rfl (Ev.bind (l1In_ev k 0 9) ?_)
    cases decide (0 ≤ k) && decide (k ≤ 9) with
    | false => exact Ev.neg (by simp) (Ev.ret _)
    | true => exact Ev.pos rfl (Ev.ret _)
theorem isEntry_ev (t k : Int) (b : ByteArray) : Ev (fun q => f129 q t k b) (entB t k b) := by
  unfold f129 entB
  refine Ev.bind (in_ev t 1 1000000000000) ?_
  cases decide (1 ≤ t) && decide (t ≤ 1000000000000) with
  | false => exact Ev.neg (by simp) (Ev.ret _)
  | true =>
    refine Ev.pos rfl (Ev.bind (in_ev k 0 9) ?_)
    cases decide (0 ≤ k) && decide (k ≤ 9) with
    | false => exact Ev.neg (by simp) (Ev.ret _)
    | true => exact Ev.pos rfl (Ev.ret _)
abbrev EnR := Int × Int × ByteArray × Bool
def entI (r : EnR) : EnR := if r.2.2.2 = true then (r.1, r.2.1, r.2.2.1, true) else (0, 0, (⟨#[]⟩ : ByteArray), false)
theorem entry_two (kd : Int) (s : ByteArray) : ∃ r : EnR, Ev (fun k => f125 k kd s) r ∧ Ev (fun k => f111 k kd s) (entI r) ∧ (r.2.2.2 = true → entB r.1 r.2.1 r.2.2.1 = true) := by
  obtain ⟨a, a1, a2, _⟩ := take_two s
  obtain ⟨b, b1, b2, _⟩ := take_two a.2.1
  obtain ⟨c, c1, c2⟩ := text_two b.2.1
  unfold f125 f111
  have no : ∀ {g f : Nat → Option EnR}, Ev g (a.1, b.1, c.1, false) → Ev f (0, 0, (⟨#[]⟩ : ByteArray), false) → ∃ r : EnR, Ev g r ∧ Ev f (entI r) ∧ (r.2.2.2 = true → entB r.1 r.2.1 r.2.2.1 = true) := fun h1 h2 => ⟨_, h1, h2, fun h => by cases h⟩
  by_cases h1 : kd = 2
  case neg => exact no (Ev.bind a1 (Ev.bind b1 (Ev.bind c1 (Ev.neg h1 (Ev.ret _))))) (Ev.bind a2 (Ev.bind b2 (Ev.bind c2 (Ev.neg h1 (Ev.ret _)))))
  by_cases h2 : a.2.2 = true
  case neg => exact no (Ev.bind a1 (Ev.bind b1 (Ev.bind c1 (Ev.pos h1 (Ev.neg h2 (Ev.ret _)))))) (Ev.bind a2 (Ev.bind b2 (Ev.bind c2 (Ev.pos h1 (Ev.neg h2 (Ev.ret _))))))
  by_cases h3 : b.2.2 = true
  case neg => exact no (Ev.bind a1 (Ev.bind b1 (Ev.bind c1 (Ev.pos h1 (Ev.pos h2 (Ev.neg h3 (Ev.ret _))))))) (Ev.bind a2 (Ev.bind b2 (Ev.bind c2 (Ev.pos h1 (Ev.pos h2 (Ev.neg h3 (Ev.ret _)))))))
  by_cases h4 : c.2.2 = true
  case neg => exact no (Ev.bind a1 (Ev.bind b1 (Ev.bind c1 (Ev.pos h1 (Ev.pos h2 (Ev.pos h3 (Ev.neg h4 (Ev.ret _)))))))) (Ev.bind a2 (Ev.bind b2 (Ev.bind c2 (Ev.pos h1 (Ev.pos h2 (Ev.pos h3 (Ev.neg h4 (Ev.ret _))))))))
  by_cases h5 : strEq c.2.1 (⟨#[]⟩ : ByteArray) = true
  case neg => exact no (Ev.bind a1 (Ev.bind b1 (Ev.bind c1 (Ev.pos h1 (Ev.pos h2 (Ev.pos h3 (Ev.pos h4 (Ev.neg h5 (Ev.ret _))))))))) (Ev.bind a2 (Ev.bind b2 (Ev.bind c2 (Ev.pos h1 (Ev.pos h2 (Ev.pos h3 (Ev.pos h4 (Ev.neg h5 (Ev.ret _)))))))))
  have e1 := l5Entry_ev a.1 b.1 c.1
  have e2 := isEntry_ev a.1 b.1 c.1
  cases hb : entB a.1 b.1 c.1 with
  | false =>
    rw [hb] at e1 e2
    exact no (Ev.bind a1 (Ev.bind b1 (Ev.bind c1 (Ev.pos h1 (Ev.pos h2 (Ev.pos h3 (Ev.pos h4 (Ev.pos h5 (Ev.bind e1 (Ev.ret _)))))))))) (Ev.bind a2 (Ev.bind b2 (Ev.bind c2 (Ev.pos h1 (Ev.pos h2 (Ev.pos h3 (Ev.pos h4 (Ev.pos h5 (Ev.bind e2 (Ev.neg (by simp) (Ev.ret _)))))))))))
  | true =>
    rw [hb] at e1 e2
    exact ⟨(a.1, b.1, c.1, true), Ev.bind a1 (Ev.bind b1 (Ev.bind c1 (Ev.pos h1 (Ev.pos h2 (Ev.pos h3 (Ev.pos h4 (Ev.pos h5 (Ev.bind e1 (Ev.ret _))))))))), Ev.bind a2 (Ev.bind b2 (Ev.bind c2 (Ev.pos h1 (Ev.pos h2 (Ev.pos h3 (Ev.pos h4 (Ev.pos h5 (Ev.bind e2 (Ev.pos rfl (Ev.ret _)))))))))), fun _ => hb⟩
theorem strOf_app (a b : List Int) : strOf (a ++ b) = strOf a ++ strOf b := by
  unfold strOf
  apply ByteArray.ext
  rw [ByteArray.data_append]
  simp
theorem strOf_bytes (s : ByteArray) : strOf (bytesL s) = s := by
  have h := strOf_take s s.size
  rwa [List.take_of_length_le (by rw [bytesL_len]; exact Nat.le_refl _), ByteArray.extract_zero_size] at h
theorem put_loop (d : Nat) : ∀ (n : Int) (q : List Int), 0 ≤ n → n ≤ 1000000000000 → n < 128 ^ (d + 1) → q.length + d ≤ 9 → ∃ r : ByteArray, Ev (fun k => f114.l4 k q n) r ∧ Ev (fun k => f81.l2 k q n) r ∧ r.size ≤ 10 := by
  induction d with
  | zero =>
    intro n q h0 hn h1 hq
    refine ⟨_, Ev.step (fun k => by rw [f114.l4]) (Ev.neg (by omega) (Ev.pos (by omega) (Ev.pos (by omega) (Ev.ret _)))), Ev.step (fun k => by rw [f81.l2]) (Ev.neg (by omega) (Ev.pos (by omega) (Ev.pos (by omega) (Ev.ret _)))), ?_⟩
    rw [strOf_size, List.length_append, List.length_singleton]; omega
  | succ d ih =>
    intro n q h0 hn h1 hq
    by_cases h : 128 ≤ n
    · have e : n.tdiv 128 = n / 128 := Int.tdiv_eq_ediv_of_nonneg h0
      have hp : (128 : Int) ^ (d + 1 + 1) = 128 ^ (d + 1) * 128 := Int.pow_succ 128 (d + 1)
      have hb : IntKind.i64.wrap (n.tdiv 128) = n / 128 := by
        rw [e]
        exact wr (by omega) (by omega)
      obtain ⟨r, r1, r2, rs⟩ := ih (n / 128) (q ++ [(IntKind.u8.wrap (IntKind.i64.wrap ((n.tmod 128) + 128)))]) (by omega) (by omega) (by omega) (by rw [List.length_append, List.length_singleton]; omega)
      rw [← hb] at r1 r2
      exact ⟨r, Ev.step (fun k => by rw [f114.l4]) (Ev.pos h (Ev.pos (by omega) (Ev.pos (by omega) r1))), Ev.step (fun k => by rw [f81.l2]) (Ev.pos h (Ev.pos (by omega) (Ev.pos (by omega) r2))), rs⟩
    · refine ⟨_, Ev.step (fun k => by rw [f114.l4]) (Ev.neg (by omega) (Ev.pos (by omega) (Ev.pos (by omega) (Ev.ret _)))), Ev.step (fun k => by rw [f81.l2]) (Ev.neg (by omega) (Ev.pos (by omega) (Ev.pos (by omega) (Ev.ret _)))), ?_⟩
      rw [strOf_size, List.length_append, List.length_singleton]; omega
theorem put_two (n : Int) (h0 : 0 ≤ n) (h1 : n ≤ 1000000000000) : ∃ r : ByteArray, Ev (fun k => f114 k n) r ∧ Ev (fun k => f81 k n) r ∧ r.size ≤ 10 := by
  obtain ⟨r, r1, r2, rs⟩ := put_loop 6 n [] h0 h1 (by omega) (by decide)
  refine ⟨r, ?_, ?_, rs⟩
  · unfold f114
    exact Ev.bind (l1In_yes h0 h1) (Ev.pos rfl r1)
  · unfold f81
    exact r2
theorem putText_ev (s : ByteArray) (hs : s.size ≤ 20000) : ∃ r : ByteArray, Ev (fun k => f139 k s) r ∧ r.size ≤ s.size + 10 := by
  unfold f139
  obtain ⟨r, r1, _, rs⟩ := put_two (s.size : Int) (by omega) (by omega)
  exact ⟨_, Ev.neg (by omega) (Ev.bind r1 (Ev.pos (by omega) (Ev.ret _))), by rw [ByteArray.size_append]; omega⟩
def four (n : Int) : List Int := [(IntKind.u8.wrap n), (IntKind.u8.wrap (shrI .u32 n 8)), (IntKind.u8.wrap (shrI .u32 n 16)), (IntKind.u8.wrap (shrI .u32 n 24))]
theorem four_ev (n : Int) : Ev (fun k => f130 k n) (strOf (four n)) := by unfold f130; exact Ev.ret _
theorem appendFour_ev (n : Int) (o : List Int) (ho : o.length ≤ 1073741824) : Ev (fun k => f115 k n o) (o ++ four n) := by
  unfold f115
  exact Ev.pos (by omega) (Ev.pos (by omega) (Ev.ret _))
theorem four_len (n : Int) : (four n).length = 4 := rfl
theorem frame_two (kd : Int) (s : ByteArray) (h1 : 1 ≤ kd) (h2 : kd ≤ 100) (hs : s.size ≤ 20000) : ∃ r : ByteArray, Ev (fun k => f113 k kd s) r ∧ Ev (fun k => f80 k kd s) r ∧ r.size ≤ 20009 := by
  unfold f113 f80
  obtain ⟨a, ha⟩ : ∃ a, a = four (IntKind.u32.wrap (s.size : Int)) := ⟨_, rfl⟩
  have al : a.length = 4 := by rw [ha]; rfl
  obtain ⟨t, ht⟩ : ∃ t, t = (strOf [(IntKind.u8.wrap kd)] ++ strOf a) ++ s := ⟨_, rfl⟩
  have hk : (strOf [(IntKind.u8.wrap kd)]).size = 1 := rfl
  have hz : t.size = s.size + 5 := by rw [ht, ByteArray.size_append, ByteArray.size_append, hk, strOf_size, al]; omega
  obtain ⟨c, c1, c2⟩ := crc_two t (by omega)
  have e1 := four_ev (IntKind.u32.wrap (s.size : Int))
  have e2 := appendFour_ev (IntKind.u32.wrap (s.size : Int)) [(IntKind.u8.wrap kd)] (by simp)
  rw [← ha] at e1 e2
  have et : strOf (([(IntKind.u8.wrap kd)] ++ a) ++ bytesL s) = t := by rw [strOf_app, strOf_app, strOf_bytes, ht]
  have e3 := appendFour_ev c (([(IntKind.u8.wrap kd)] ++ a) ++ bytesL s) (by rw [List.length_append, List.length_append, List.length_singleton, al, bytesL_len]; omega)
  refine ⟨t ++ strOf (four c), ?_, ?_, ?_⟩
  · refine Ev.bind (l1In_yes h1 h2) (Ev.pos rfl (Ev.neg (by omega) (Ev.bind e1 (Ev.pos (by rw [strOf_size, al]; omega) (Ev.pos (by rw [strOf_size, al]; omega) ?_)))))
    rw [← ht]
    exact Ev.bind c1 (Ev.bind (four_ev c) (Ev.pos (by rw [strOf_size, strOf_size, al, four_len]; omega) (Ev.ret _)))
  · refine Ev.bind (in_yes h1 h2) (Ev.pos rfl (Ev.neg (by omega) (Ev.bind e2 (Ev.pos (by rw [List.length_append, List.length_singleton, al, bytesL_len]; omega) (Ev.pos (by rw [List.length_append, List.length_singleton, al, bytesL_len]; omega) ?_)))))
    rw [et]
    refine Ev.bind c2 (Ev.bind e3 (Ev.ret' ?_))
    rw [strOf_app, et]
  · rw [ByteArray.size_append, strOf_size, four_len, hz]; omega
theorem entryText_ev (t k : Int) (b : ByteArray) (h : entB t k b = true) : ∃ r : ByteArray, Ev (fun q => f126 q t k b) r := by
  obtain ⟨⟨t0, t1⟩, ⟨k0, k1⟩, hb⟩ := entB_said h
  have he := l5Entry_ev t k b
  rw [h] at he
  obtain ⟨x, x1, _, xs⟩ := put_two t (by omega) t1
  obtain ⟨y, y1, _, ys⟩ := put_two k k0 (by omega)
  obtain ⟨z, z1, zs⟩ := putText_ev b (by omega)
  obtain ⟨r, r1, _, _⟩ := frame_two 2 ((x ++ y) ++ z) (by decide) (by decide) (by rw [ByteArray.size_append, ByteArray.size_append]; omega)
  unfold f126
  exact ⟨r, Ev.bind he (Ev.pos rfl (Ev.bind x1 (Ev.bind y1 (Ev.pos (by omega) (Ev.bind z1 (Ev.pos (by omega) (Ev.bind r1 (Ev.ret _))))))))⟩
end Go.Proofs.Ytfjoamlgbegpgaa.P
namespace Go.Proofs.Ytfjoamlgbegpgaa.P
open Go Go.Proofs.Ytfjoamlgbegpgaa.PM Go.Proofs
theorem ev_det {α : Type} {g : Nat → Option α} {a b : α} (h : Ev g a) (h' : Ev g b) : a = b := by
  obtain ⟨K, h⟩ := h
  obtain ⟨L, h'⟩ := h'
  exact Option.some.inj ((h (max K L) (by omega)).symm.trans (h' (max K L) (by omega)))
theorem u8_w (n : Int) : IntKind.u8.wrap n = n % 256 := by simp [IntKind.wrap, IntKind.signed, IntKind.bits]
theorem bytesL_drop (s : ByteArray) (i : Nat) (h : i < s.size) : (bytesL s).drop i = byteAt s (i : Int) :: (bytesL s).drop (i + 1) := by
  rw [List.drop_eq_getElem_cons (by rw [bytesL_len]; exact h), ← bytesL_at s i h, at_nat _ i (by rw [bytesL_len]; exact h)]
theorem can_loop (s : ByteArray) (d : Nat) : ∀ (i n : Nat), 6 - i = d → i ≤ 6 → n < 2 ^ (7 * i) → ∃ r : Int × ByteArray × Bool, Ev (fun k => f107.l4 k s (n : Int) ((2 ^ (7 * i) : Nat) : Int) (i : Int)) r ∧
    (r.2.2 = true → ∃ V m : Nat, r.1 = ((n + V * 2 ^ (7 * i) : Nat) : Int) ∧ i ≤ m ∧ m < s.size ∧ r.2.1 = s.extract (m + 1) s.size ∧ (0 < i → 0 < V) ∧ V < 128 ^ d ∧ ∀ q : List Int, q.length ≤ 1000 + i → Ev (fun k => f114.l4 k q (V : Int)) (strOf (q ++ ((bytesL s).drop i).take (m + 1 - i)))) := by
  induction d with
  | zero =>
    intro i n hd hi hn
    by_cases hs : i < s.size
    · exact ⟨(0, (⟨#[]⟩ : ByteArray), false), Ev.step (fun k => by rw [f107.l4]) (Ev.pos (by omega) (Ev.neg (by omega) (Ev.ret _))), fun h => by cases h⟩
    · exact ⟨(0, (⟨#[]⟩ : ByteArray), false), Ev.step (fun k => by rw [f107.l4]) (Ev.neg (by omega) (Ev.ret _)), fun h => by cases h⟩
  | succ d ih =>
    intro i n hd hi hn
    by_cases hs : i < s.size
    case neg => exact ⟨(0, (⟨#[]⟩ : ByteArray), false), Ev.step (fun k => by rw [f107.l4]) (Ev.neg (by omega) (Ev.ret _)), fun h => by cases h⟩
    obtain ⟨b0, b1⟩ := byteAt_b s (i : Int)
    have wb : IntKind.i64.wrap (byteAt s (i : Int)) = byteAt s (i : Int) := wr (by omega) (by omega)
    have w1 : IntKind.i64.wrap ((i : Int) + 1) = ((i + 1 : Nat) : Int) := by rw [wr (by omega) (by omega)]; omega
    obtain ⟨c, hc, ec, eb⟩ : ∃ c : Nat, c < 128 ∧ (byteAt s (i : Int)).tmod 128 = (c : Int) ∧ (c : Int) = byteAt s (i : Int) % 128 := by
      rw [Int.tmod_eq_emod_of_nonneg b0]
      exact ⟨(byteAt s (i : Int) % 128).toNat, by omega, by omega, by omega⟩
    obtain ⟨_, lo, hp⟩ := or_shl n c i (by omega) hn hc
    obtain ⟨p, ep⟩ : ∃ p : Nat, p = 2 ^ (7 * i) := ⟨_, rfl⟩
    have hq : 2 ^ (7 * (i + 1)) = 128 * p := by rw [show 7 * (i + 1) = 7 + 7 * i by omega, Nat.pow_add, ep]
    rw [← ep] at lo hp hn ⊢
    have hcp : c * p ≤ 127 * p := Nat.mul_le_mul_right _ (by omega)
    have es : IntKind.i64.wrap ((n : Int) + IntKind.i64.wrap ((c : Int) * (p : Int))) = ((n + c * p : Nat) : Int) := by
      rw [show (c : Int) * (p : Int) = ((c * p : Nat) : Int) by rw [Int.natCast_mul], wr (n := ((c * p : Nat) : Int)) (by omega) (by omega), wr (by omega) (by omega)]
      omega
    have ep2 : IntKind.i64.wrap ((p : Int) * 128) = ((2 ^ (7 * (i + 1)) : Nat) : Int) := by rw [wr (by omega) (by omega), hq]; omega
    have hd6 : 128 ^ (d + 1) ≤ 128 ^ 6 := Nat.pow_le_pow_right (by omega) (by omega)
    have hd6' : 128 ^ (d + 1) ≤ 4398046511104 := hd6
    have hds : 128 ^ (d + 1) = 128 ^ d * 128 := Nat.pow_succ ..
    have hdp : 1 ≤ 128 ^ d := Nat.one_le_pow _ _ (by omega)
    by_cases h1 : byteAt s (i : Int) < 128
    · by_cases hz : byteAt s (i : Int) = 0 ∧ 0 < (i : Int)
      · refine ⟨(0, (⟨#[]⟩ : ByteArray), false), Ev.step (fun k => by rw [f107.l4]) (Ev.pos (by omega) (Ev.pos (by omega) (Ev.pos (by omega) ?_))), fun h => by cases h⟩
        rw [wb]; exact Ev.pos h1 (Ev.pos hz.1 (Ev.pos hz.2 (Ev.ret _)))
      · by_cases hm : n + c * p ≤ 1000000000000
        · refine ⟨(((n + c * p : Nat) : Int), s.extract (i + 1) s.size, true), Ev.step (fun k => by rw [f107.l4]) (Ev.pos (by omega) (Ev.pos (by omega) (Ev.pos (by omega) ?_))), fun _ => ⟨c, i, rfl, Nat.le_refl _, hs, rfl, fun h0 => ?_, by omega, fun q hql => ?_⟩⟩
          · rw [wb, ec, es, w1, Int.toNat_natCast]
            refine Ev.pos h1 ?_
            by_cases h0 : byteAt s (i : Int) = 0
            · exact Ev.pos h0 (Ev.neg (fun h => hz ⟨h0, h⟩) (Ev.neg (by omega) (Ev.pos (by omega) (Ev.pos (by omega) (Ev.ret _)))))
            · exact Ev.neg h0 (Ev.neg (by omega) (Ev.pos (by omega) (Ev.pos (by omega) (Ev.ret _))))
          · have : ¬ byteAt s (i : Int) = 0 := fun h => hz ⟨h, by omega⟩
            omega
          · refine Ev.step (fun k => by rw [f114.l4]) (Ev.neg (by omega) (Ev.pos (by omega) (Ev.pos (by omega) (Ev.ret' ?_))))
            rw [bytesL_drop s i hs, show i + 1 - i = 0 + 1 by omega, List.take_succ_cons, List.take_zero, u8_w, show (c : Int) % 256 = byteAt s (i : Int) by omega]
        · refine ⟨(0, (⟨#[]⟩ : ByteArray), false), Ev.step (fun k => by rw [f107.l4]) (Ev.pos (by omega) (Ev.pos (by omega) (Ev.pos (by omega) ?_))), fun h => by cases h⟩
          rw [wb, ec, es, w1, Int.toNat_natCast]
          refine Ev.pos h1 ?_
          by_cases h0 : byteAt s (i : Int) = 0
          · exact Ev.pos h0 (Ev.neg (fun h => hz ⟨h0, h⟩) (Ev.pos (by omega) (Ev.ret _)))
          · exact Ev.neg h0 (Ev.pos (by omega) (Ev.ret _))
    · obtain ⟨r, r1, ro⟩ := ih (i + 1) (n + c * p) (by omega) (by omega) lo
      refine ⟨r, Ev.step (fun k => by rw [f107.l4]) (Ev.pos (by omega) (Ev.pos (by omega) (Ev.pos (by omega) ?_))), fun hr => ?_⟩
      · rw [wb, ec, es, w1, ep2]
        exact Ev.neg h1 r1
      · obtain ⟨V, m, e1, hm, hms, e2, hV, hVd, hput⟩ := ro hr
        have hV0 := hV (by omega)
        refine ⟨c + V * 128, m, ?_, by omega, hms, e2, fun _ => by omega, by omega, fun q hql => ?_⟩
        · rw [e1, hq, Nat.add_mul, Nat.mul_assoc, Nat.add_assoc]
        · have t1 : ((c + V * 128 : Nat) : Int).tmod 128 = (c : Int) := by rw [Int.tmod_eq_emod_of_nonneg (by omega)]; omega
          have t2 : IntKind.i64.wrap (((c + V * 128 : Nat) : Int).tdiv 128) = (V : Int) := by rw [Int.tdiv_eq_ediv_of_nonneg (by omega), wr (by omega) (by omega)]; omega
          refine Ev.step (fun k => by rw [f114.l4]) (Ev.pos (by omega) (Ev.pos (by omega) (Ev.pos (by omega) ?_)))
          rw [t1, t2, wr (n := (c : Int) + 128) (by omega) (by omega), u8_w, show ((c : Int) + 128) % 256 = byteAt s (i : Int) by omega]
          have := hput (q ++ [byteAt s (i : Int)]) (by rw [List.length_append, List.length_singleton]; omega)
          rw [bytesL_drop s i hs, show m + 1 - i = (m + 1 - (i + 1)) + 1 by omega, List.take_succ_cons]
          rwa [List.append_assoc, List.singleton_append] at this
theorem join_cut (s : ByteArray) {a b c : Nat} (h1 : a ≤ b) (h2 : b ≤ c) : s.extract a b ++ s.extract b c = s.extract a c := by
  rw [ByteArray.extract_append_extract]
  congr 1 <;> omega
theorem take_said {s : ByteArray} {r : Int × ByteArray × Bool} (h : Ev (fun k => f107 k s) r) (hr : r.2.2 = true) : ∃ p : ByteArray, Ev (fun k => f114 k r.1) p ∧ p ++ r.2.1 = s := by
  obtain ⟨x, x1, _, xo⟩ := take_two s
  obtain rfl := ev_det h x1
  obtain ⟨y, y1, yo⟩ := can_loop s 6 0 0 rfl (by omega) (by decide)
  have e : r = y := ev_det h (by unfold f107; exact y1)
  rw [← e] at yo
  obtain ⟨V, m, e1, hm, hms, e2, _, _, hput⟩ := yo hr
  have hp := hput [] (Nat.zero_le _)
  rw [List.nil_append, List.drop_zero, Nat.sub_zero, strOf_take] at hp
  have ev : r.1 = (V : Int) := by rw [e1]; simp
  refine ⟨s.extract 0 (m + 1), ?_, ?_⟩
  · unfold f114
    refine Ev.bind (l1In_yes xo.lo xo.hi) (Ev.pos rfl ?_)
    rw [ev]
    exact hp
  · rw [e2, join_cut s (Nat.zero_le _) (by omega), ByteArray.extract_zero_size]
theorem text_said {s : ByteArray} {r : ByteArray × ByteArray × Bool} (h : Ev (fun k => f137 k s) r) (hr : r.2.2 = true) : ∃ p : ByteArray, Ev (fun k => f139 k r.1) p ∧ p ++ r.2.1 = s := by
  obtain ⟨x, x1, _, xo⟩ := take_two s
  cases hb : x.2.2 with
  | false =>
    have := ev_det h (show Ev (fun k => f137 k s) (_, _, false) by unfold f137; exact Ev.bind x1 (Ev.neg (by rw [hb]; simp) (Ev.ret _)))
    rw [this] at hr
    cases hr
  | true =>
    by_cases h3 : 20000 < x.1
    · have := ev_det h (show Ev (fun k => f137 k s) (_, _, false) by unfold f137; exact Ev.bind x1 (Ev.pos hb (Ev.pos h3 (Ev.ret _))))
      rw [this] at hr
      cases hr
    · by_cases h4 : (x.2.1.size : Int) < x.1
      · have := ev_det h (show Ev (fun k => f137 k s) (_, _, false) by unfold f137; exact Ev.bind x1 (Ev.pos hb (Ev.neg h3 (Ev.pos h4 (Ev.ret _)))))
        rw [this] at hr
        cases hr
      · have lo := xo.lo
        have := ev_det h (show Ev (fun k => f137 k s) (x.2.1.extract 0 x.1.toNat, x.2.1.extract x.1.toNat x.2.1.size, true) by unfold f137; exact Ev.bind x1 (Ev.pos hb (Ev.neg h3 (Ev.neg h4 (Ev.pos lo (Ev.pos (by omega) (Ev.ret _)))))))
        obtain ⟨p, p1, p2⟩ := take_said x1 hb
        rw [this]
        have hz : (x.2.1.extract 0 x.1.toNat).size = x.1.toNat := by rw [ByteArray.size_extract]; omega
        obtain ⟨p', p1', _, ps⟩ := put_two x.1 lo (by omega)
        obtain rfl := ev_det p1 p1'
        refine ⟨p ++ x.2.1.extract 0 x.1.toNat, ?_, ?_⟩
        · unfold f139
          show Ev (fun k => if 20000 < ((x.2.1.extract 0 x.1.toNat).size : Int) then _ else _) _
          refine Ev.neg (by rw [hz]; omega) ?_
          rw [hz, show ((x.1.toNat : Nat) : Int) = x.1 by omega]
          exact Ev.bind p1 (Ev.pos (by omega) (Ev.ret _))
        · show p ++ x.2.1.extract 0 x.1.toNat ++ x.2.1.extract x.1.toNat x.2.1.size = s
          rw [ByteArray.append_assoc, join_cut _ (Nat.zero_le _) (by omega), ByteArray.extract_zero_size]
          exact p2
theorem entry_said {kd : Int} {s : ByteArray} {r : EnR} (hs : s.size ≤ 20000) (h : Ev (fun k => f125 k kd s) r) (hr : r.2.2.2 = true) : kd = 2 ∧ ∃ w : ByteArray, Ev (fun k => f126 k r.1 r.2.1 r.2.2.1) w ∧ Ev (fun k => f113 k kd s) w := by
  obtain ⟨a, a1, _, _⟩ := take_two s
  obtain ⟨b, b1, _, _⟩ := take_two a.2.1
  obtain ⟨c, c1, _⟩ := text_two b.2.1
  have no : Ev (fun k => f125 k kd s) (a.1, b.1, c.1, false) → False := fun h' => by
    rw [ev_det h h'] at hr
    cases hr
  unfold f125 at no
  by_cases h1 : kd = 2
  case neg => exact (no (Ev.bind a1 (Ev.bind b1 (Ev.bind c1 (Ev.neg h1 (Ev.ret _)))))).elim
  by_cases h2 : a.2.2 = true
  case neg => exact (no (Ev.bind a1 (Ev.bind b1 (Ev.bind c1 (Ev.pos h1 (Ev.neg h2 (Ev.ret _))))))).elim
  by_cases h3 : b.2.2 = true
  case neg => exact (no (Ev.bind a1 (Ev.bind b1 (Ev.bind c1 (Ev.pos h1 (Ev.pos h2 (Ev.neg h3 (Ev.ret _)))))))).elim
  by_cases h4 : c.2.2 = true
  case neg => exact (no (Ev.bind a1 (Ev.bind b1 (Ev.bind c1 (Ev.pos h1 (Ev.pos h2 (Ev.pos h3 (Ev.neg h4 (Ev.ret _))))))))).elim
  by_cases h5 : strEq c.2.1 (⟨#[]⟩ : ByteArray) = true
  case neg => exact (no (Ev.bind a1 (Ev.bind b1 (Ev.bind c1 (Ev.pos h1 (Ev.pos h2 (Ev.pos h3 (Ev.pos h4 (Ev.neg h5 (Ev.ret _)))))))))).elim
  have e1 := l5Entry_ev a.1 b.1 c.1
  cases hb : entB a.1 b.1 c.1 with
  | false =>
    rw [hb] at e1
    exact (no (Ev.bind a1 (Ev.bind b1 (Ev.bind c1 (Ev.pos h1 (Ev.pos h2 (Ev.pos h3 (Ev.pos h4 (Ev.pos h5 (Ev.bind e1 (Ev.ret _))))))))))).elim
  | true =>
    rw [hb] at e1
    have er := ev_det h (show Ev (fun k => f125 k kd s) (a.1, b.1, c.1, true) by unfold f125; exact Ev.bind a1 (Ev.bind b1 (Ev.bind c1 (Ev.pos h1 (Ev.pos h2 (Ev.pos h3 (Ev.pos h4 (Ev.pos h5 (Ev.bind e1 (Ev.ret _))))))))))
    rw [er]
    obtain ⟨x, x1, x2⟩ := take_said a1 h2
    obtain ⟨y, y1, y2⟩ := take_said b1 h3
    obtain ⟨z, z1, z2⟩ := text_said c1 h4
    have ez : c.2.1 = (⟨#[]⟩ : ByteArray) := (strEq_iff _ _).1 h5
    have e : (x ++ y) ++ z = s := by
      rw [← x2, ← y2, ← z2, ez, ByteArray.append_assoc, show z ++ (⟨#[]⟩ : ByteArray) = z from ByteArray.append_empty]
    have hz : x.size + y.size + z.size = s.size := by rw [← e, ByteArray.size_append, ByteArray.size_append]
    obtain ⟨w, w1, _, _⟩ := frame_two 2 s (by decide) (by decide) hs
    refine ⟨h1, w, ?_, by rw [h1]; exact w1⟩
    unfold f126
    refine Ev.bind e1 (Ev.pos rfl (Ev.bind x1 (Ev.bind y1 (Ev.pos (by omega) (Ev.bind z1 (Ev.pos (by omega) ?_))))))
    rw [e]
    exact Ev.bind w1 (Ev.ret _)
end Go.Proofs.Ytfjoamlgbegpgaa.P
namespace Go.Proofs.Ytfjoamlgbegpgaa.P
open Go Go.Proofs.Ytfjoamlgbegpgaa.PM Go.Proofs
theorem or_add32 (x y i : Nat) (hx : x < 2 ^ i) (hi : i ≤ 24) (hy : y < 256) : orI .u32 (x : Int) (shlI .u32 (y : Int) (i : Int)) = ((x + y * 2 ^ i : Nat) : Int) := by
  have hp : 2 ^ i ≤ 2 ^ 24 := Nat.pow_le_pow_right (by omega) hi
  have hp' : 2 ^ i ≤ 16777216 := hp
  have hm : y * 2 ^ i ≤ 255 * 2 ^ i := Nat.mul_le_mul_right _ (by omega)
  have hs : shlI .u32 (y : Int) (i : Int) = ((y * 2 ^ i : Nat) : Int) := by
    unfold shlI
    rw [Int.toNat_natCast, show min i IntKind.u32.bits = i from Nat.min_eq_left (by show i ≤ 32; omega)]
    rw [show ((y : Int) * 2 ^ i) = ((y * 2 ^ i : Nat) : Int) by rw [Int.natCast_mul, Int.natCast_pow]; rfl, u32_w]
    omega
  rw [hs]
  unfold orI
  show IntKind.u32.wrap ((BitVec.ofInt 32 (x : Int) ||| BitVec.ofInt 32 ((y * 2 ^ i : Nat) : Int)).toNat : Int) = _
  rw [BitVec.ofInt_natCast, BitVec.ofInt_natCast, BitVec.toNat_or, BitVec.toNat_ofNat, BitVec.toNat_ofNat, Nat.mod_eq_of_lt (by omega), Nat.mod_eq_of_lt (by omega), Nat.or_comm, ← Nat.shiftLeft_eq, ← Nat.shiftLeft_add_eq_or_of_lt hx, Nat.shiftLeft_eq, Nat.add_comm, u32_w]
  omega
theorem word4_eq (s : ByteArray) (a : Nat) : word4 s a = byteAt s (a : Int) + byteAt s ((a + 1 : Nat) : Int) * 256 + byteAt s ((a + 2 : Nat) : Int) * 65536 + byteAt s ((a + 3 : Nat) : Int) * 16777216 := by
  have w (i : Int) : ∃ n : Nat, n < 256 ∧ byteAt s i = (n : Int) ∧ IntKind.u32.wrap (byteAt s i) = (n : Int) := by
    obtain ⟨h0, h1⟩ := byteAt_b s i
    refine ⟨(byteAt s i).toNat, by omega, by omega, ?_⟩
    rw [u32_w]
    omega
  obtain ⟨b0, l0, e0, v0⟩ := w (a : Int)
  obtain ⟨b1, l1, e1, v1⟩ := w ((a + 1 : Nat) : Int)
  obtain ⟨b2, l2, e2, v2⟩ := w ((a + 2 : Nat) : Int)
  obtain ⟨b3, l3, e3, v3⟩ := w ((a + 3 : Nat) : Int)
  unfold word4
  rw [v0, v1, v2, v3, e0, e1, e2, e3]
  rw [show (8 : Int) = ((8 : Nat) : Int) from rfl, or_add32 b0 b1 8 (by omega) (by omega) l1]
  rw [show (16 : Int) = ((16 : Nat) : Int) from rfl, or_add32 (b0 + b1 * 2 ^ 8) b2 16 (by omega) (by omega) l2]
  rw [show (24 : Int) = ((24 : Nat) : Int) from rfl, or_add32 (b0 + b1 * 2 ^ 8 + b2 * 2 ^ 16) b3 24 (by omega) (by omega) l3]
  omega
theorem strOf_cut (s : ByteArray) (a n : Nat) : strOf (((bytesL s).drop a).take n) = s.extract a (a + n) := by
  have h := strOf_take s (a + n)
  unfold strOf bytesL
  apply ByteArray.ext
  rw [ByteArray.data_extract]
  apply Array.toList_inj.1
  rw [Array.toList_extract, ← List.map_drop, ← List.map_take, List.map_map]
  show List.map _ _ = (s.data.toList.drop a).take (a + n - a)
  rw [Nat.add_sub_cancel_left]
  conv => rhs; rw [← List.map_id (List.take n (List.drop a s.data.toList))]
  apply List.map_congr_left
  intro x _
  show UInt8.ofNat (x.toNat : Int).toNat = x
  rw [Int.toNat_natCast, UInt8.ofNat_toNat]
theorem four_word (s : ByteArray) (a : Nat) (h : a + 4 ≤ s.size) : strOf (four (word4 s a)) = s.extract a (a + 4) := by
  rw [← strOf_cut, bytesL_drop s a (by omega), bytesL_drop s (a + 1) (by omega), bytesL_drop s (a + 1 + 1) (by omega), bytesL_drop s (a + 1 + 1 + 1) (by omega)]
  rw [List.take_succ_cons, List.take_succ_cons, List.take_succ_cons, List.take_succ_cons, List.take_zero]
  have e := word4_eq s a
  obtain ⟨p0, q0⟩ := byteAt_b s (a : Int)
  obtain ⟨p1, q1⟩ := byteAt_b s ((a + 1 : Nat) : Int)
  obtain ⟨p2, q2⟩ := byteAt_b s ((a + 2 : Nat) : Int)
  obtain ⟨p3, q3⟩ := byteAt_b s ((a + 3 : Nat) : Int)
  have s8 (w : Int) : shrI .u32 w 8 = w / 256 := by
    show w.fdiv (2 ^ 8) = _
    rw [Int.fdiv_eq_ediv_of_nonneg _ (by decide)]
    rfl
  have s16 (w : Int) : shrI .u32 w 16 = w / 65536 := by
    show w.fdiv (2 ^ 16) = _
    rw [Int.fdiv_eq_ediv_of_nonneg _ (by decide)]
    rfl
  have s24 (w : Int) : shrI .u32 w 24 = w / 16777216 := by
    show w.fdiv (2 ^ 24) = _
    rw [Int.fdiv_eq_ediv_of_nonneg _ (by decide)]
    rfl
  unfold four
  rw [u8_w, u8_w, u8_w, u8_w, s8, s16, s24]
  congr 1
  simp only [List.cons.injEq, and_true]
  refine ⟨by omega, ?_, ?_, ?_⟩
  · show _ = byteAt s ((a + 1 : Nat) : Int); omega
  · show _ = byteAt s ((a + 2 : Nat) : Int); omega
  · show _ = byteAt s ((a + 3 : Nat) : Int); omega
theorem frame_back (t : ByteArray) (w : Nat) (hw : 9 + w ≤ t.size) (hl : w ≤ 20000) (k0 : 1 ≤ byteAt t 0) (k1 : byteAt t 0 ≤ 100) (e : word4 t 1 = (w : Int)) (hc : Ev (fun k => f131 k (t.extract 0 (5 + w))) (word4 t (5 + w))) : Ev (fun k => f113 k (byteAt t 0) (t.extract 5 (5 + w))) (t.extract 0 (9 + w)) := by
  unfold f113
  have hz : (t.extract 5 (5 + w)).size = w := by rw [ByteArray.size_extract]; omega
  have h1 : strOf [IntKind.u8.wrap (byteAt t 0)] = t.extract 0 1 := by
    rw [← strOf_take, show bytesL t = (bytesL t).drop 0 from rfl, bytesL_drop t 0 (by omega), List.take_succ_cons, List.take_zero, u8_w, show byteAt t 0 % 256 = byteAt t ((0 : Nat) : Int) by show _ = byteAt t 0; omega]
  have h4 : strOf (four (IntKind.u32.wrap ((t.extract 5 (5 + w)).size : Int))) = t.extract 1 5 := by
    rw [hz, u32_w, show (w : Int) % 4294967296 = word4 t 1 by omega]
    exact four_word t 1 (by omega)
  have e1 := four_ev (IntKind.u32.wrap ((t.extract 5 (5 + w)).size : Int))
  rw [h4] at e1
  have e2 := four_ev (word4 t (5 + w))
  rw [four_word t (5 + w) (by omega), show 5 + w + 4 = 9 + w by omega] at e2
  have z1 : (t.extract 1 5).size = 4 := by rw [ByteArray.size_extract]; omega
  have z2 : (t.extract (5 + w) (9 + w)).size = 4 := by rw [ByteArray.size_extract]; omega
  refine Ev.bind (l1In_yes k0 k1) (Ev.pos rfl (Ev.neg (by omega) (Ev.bind e1 (Ev.pos (by omega) (Ev.pos (by omega) ?_)))))
  rw [h1, join_cut t (by omega) (by omega), join_cut t (by omega) (by omega)]
  refine Ev.bind hc (Ev.bind e2 (Ev.pos (by omega) (Ev.ret' ?_)))
  rw [join_cut t (by omega) (by omega)]
abbrev FrT := Int × ByteArray × Int × Int
theorem l2Frame_said (t : ByteArray) (h0 : 0 < t.size) (ht : t.size ≤ 1073741824) : ∃ r : FrT, Ev (fun k => f124 k t) r ∧ (r.2.2.2 = 0 → ∃ w : Nat, 9 + w ≤ t.size ∧ w ≤ 20000 ∧ r = (byteAt t 0, t.extract 5 (5 + w), ((9 + w : Nat) : Int), 0) ∧ Ev (fun k => f113 k (byteAt t 0) (t.extract 5 (5 + w))) (t.extract 0 (9 + w))) := by
  obtain ⟨b0, b1⟩ := byteAt_b t 0
  have wb : IntKind.i64.wrap (byteAt t 0) = byteAt t 0 := wr (by omega) (by omega)
  unfold f124
  by_cases hk : 1 ≤ byteAt t 0 ∧ byteAt t 0 ≤ 100
  case neg =>
    refine ⟨(0, (⟨#[]⟩ : ByteArray), 0, 2), Ev.pos (by omega) ?_, fun h => absurd h (by decide)⟩
    rw [wb]
    exact Ev.bind (l1In_no hk) (Ev.neg (by simp) (Ev.ret _))
  have hin : Ev (fun k => f58 k (IntKind.i64.wrap (byteAt t 0)) 1 100) true := by rw [wb]; exact l1In_yes hk.1 hk.2
  by_cases h5 : t.size < 5
  · exact ⟨(0, (⟨#[]⟩ : ByteArray), 0, 1), Ev.pos (by omega) (Ev.bind hin (Ev.pos rfl (Ev.pos (by omega) (Ev.ret _)))), fun h => absurd h (by decide)⟩
  have hw1 : Ev (fun k => f136 k (t.extract 1 5)) (word4 t 1) := l2Word_ev t 1 5 rfl (by omega)
  obtain ⟨w0, w1⟩ := word4_b t 1
  obtain ⟨w, hw⟩ : ∃ w : Nat, word4 t 1 = (w : Int) := ⟨(word4 t 1).toNat, by omega⟩
  rw [hw] at hw1 w0 w1
  have ww : IntKind.i64.wrap (w : Int) = (w : Int) := wr (by omega) (by omega)
  have w9 : IntKind.i64.wrap (9 + (w : Int)) = ((9 + w : Nat) : Int) := by rw [wr (by omega) (by omega)]; omega
  have w94 : IntKind.i64.wrap (((9 + w : Nat) : Int) - 4) = ((5 + w : Nat) : Int) := by rw [wr (by omega) (by omega)]; omega
  by_cases hL : 20000 < (w : Int)
  · exact ⟨(0, (⟨#[]⟩ : ByteArray), 0, 3), Ev.pos (by omega) (Ev.bind hin (Ev.pos rfl (Ev.neg (by omega) (Ev.pos (by omega) (Ev.bind hw1 (Ev.pos hL (Ev.ret _))))))), fun h => absurd h (by decide)⟩
  by_cases hS : t.size < 9 + w
  · refine ⟨(0, (⟨#[]⟩ : ByteArray), 0, 1), Ev.pos (by omega) (Ev.bind hin (Ev.pos rfl (Ev.neg (by omega) (Ev.pos (by omega) (Ev.bind hw1 (Ev.neg hL ?_)))))), fun h => absurd h (by decide)⟩
    rw [ww, w9]
    exact Ev.pos (by omega) (Ev.ret _)
  obtain ⟨cr, c1, _⟩ := crc_two (t.extract 0 (5 + w)) (by rw [ByteArray.size_extract]; omega)
  have hv1 : Ev (fun k => f136 k (t.extract (5 + w) (9 + w))) (word4 t (5 + w)) := l2Word_ev t (5 + w) (9 + w) (by omega) (by omega)
  by_cases hC : word4 t (5 + w) = cr
  case neg =>
    refine ⟨(0, (⟨#[]⟩ : ByteArray), 0, 4), Ev.pos (by omega) (Ev.bind hin (Ev.pos rfl (Ev.neg (by omega) (Ev.pos (by omega) (Ev.bind hw1 (Ev.neg hL ?_)))))), fun h => absurd h (by decide)⟩
    rw [ww, w9, w94, Int.toNat_natCast, Int.toNat_natCast]
    exact Ev.neg (by omega) (Ev.pos (by omega) (Ev.pos (by omega) (Ev.pos (by omega) (Ev.pos (by omega) (Ev.bind hv1 (Ev.pos (by omega) (Ev.bind c1 (Ev.neg hC (Ev.ret _)))))))))
  refine ⟨(byteAt t 0, t.extract 5 (5 + w), ((9 + w : Nat) : Int), 0), Ev.pos (by omega) (Ev.bind hin (Ev.pos rfl (Ev.neg (by omega) (Ev.pos (by omega) (Ev.bind hw1 (Ev.neg hL ?_)))))), fun _ => ⟨w, by omega, by omega, rfl, frame_back t w (by omega) (by omega) hk.1 hk.2 hw (by rw [hC]; exact c1)⟩⟩
  rw [ww, w9, w94, wb, Int.toNat_natCast, Int.toNat_natCast]
  exact Ev.neg (by omega) (Ev.pos (by omega) (Ev.pos (by omega) (Ev.pos (by omega) (Ev.pos (by omega) (Ev.bind hv1 (Ev.pos (by omega) (Ev.bind c1 (Ev.pos hC (Ev.pos (by omega) (Ev.ret _))))))))))
def FrRel (s : ByteArray) : Nat → List S104 → Prop
  | _, [] => True
  | p, f :: r => p + 9 + f.f1.size ≤ s.size ∧ f.f1.size ≤ 20000 ∧ Ev (fun k => f113 k f.f0 f.f1) (s.extract p (p + 9 + f.f1.size)) ∧ FrRel s (p + 9 + f.f1.size) r
theorem rel_loop (s : ByteArray) (hs : s.size ≤ 1073741824) (d : Nat) : ∀ (p : Nat) (q : List S104), s.size - p ≤ d → p ≤ s.size → q.length ≤ p → ∃ (r : Int × Int × List S104) (fs : List S104), Ev (fun k => f106.l3 k q s (p : Int)) r ∧ r.2.2 = q ++ fs ∧ FrRel s p fs := by
  induction d with
  | zero =>
    intro p q hd hp hq
    exact ⟨((p : Int), 0, q), [], Ev.step (fun k => by rw [f106.l3]) (Ev.neg (by omega) (Ev.ret _)), (List.append_nil _).symm, trivial⟩
  | succ d ih =>
    intro p q hd hp hq
    by_cases hpe : p = s.size
    · exact ⟨((p : Int), 0, q), [], Ev.step (fun k => by rw [f106.l3]) (Ev.neg (by omega) (Ev.ret _)), (List.append_nil _).symm, trivial⟩
    by_cases hm : (q.length : Int) = 2000
    · exact ⟨((p : Int), 5, q), [], Ev.step (fun k => by rw [f106.l3]) (Ev.pos (by omega) (Ev.pos hm (Ev.ret _))), (List.append_nil _).symm, trivial⟩
    obtain ⟨t, ht⟩ : ∃ t, t = s.extract p s.size := ⟨_, rfl⟩
    have hz : t.size = s.size - p := by rw [ht, ByteArray.size_extract]; omega
    obtain ⟨r, r1, ro⟩ := l2Frame_said t (by omega) (by omega)
    by_cases hc : r.2.2.2 = 0
    case neg =>
      clear ro
      refine ⟨((p : Int), r.2.2.2, q), [], Ev.step (fun k => by rw [f106.l3]) ?_, (List.append_nil _).symm, trivial⟩
      refine Ev.pos (by omega) (Ev.neg hm (Ev.pos (by omega) (Ev.pos (by omega) ?_)))
      rw [Int.toNat_natCast, ← ht]
      exact Ev.bind r1 (Ev.neg hc (Ev.ret _))
    obtain ⟨w, hw, hw2, e, hf⟩ := ro hc
    have hbz : (t.extract 5 (5 + w)).size = w := by rw [ByteArray.size_extract]; omega
    have et : t.extract 0 (9 + w) = s.extract p (p + 9 + w) := by rw [ht, ByteArray.extract_extract]; congr 1; omega
    obtain ⟨x, fs, x1, x2, x3⟩ := ih (p + (9 + w)) (q ++ [(⟨byteAt t 0, t.extract 5 (5 + w)⟩ : S104)]) (by omega) (by omega) (by rw [List.length_append, List.length_singleton]; omega)
    have wn1 : IntKind.i64.wrap ((p : Int) + ((9 + w : Nat) : Int)) = ((p + (9 + w) : Nat) : Int) := by rw [wr (by omega) (by omega)]; omega
    refine ⟨x, (⟨byteAt t 0, t.extract 5 (5 + w)⟩ : S104) :: fs, Ev.step (fun k => by rw [f106.l3]) ?_, by rw [x2, List.append_assoc, List.singleton_append], ?_⟩
    · refine Ev.pos (by omega) (Ev.neg hm (Ev.pos (by omega) (Ev.pos (by omega) ?_)))
      rw [Int.toNat_natCast, ← ht]
      rw [e] at r1
      refine Ev.bind r1 (Ev.pos rfl (Ev.pos (by omega) (Ev.pos (by omega) ?_)))
      show Ev (fun k => f106.l3 k _ s (IntKind.i64.wrap ((p : Int) + ((9 + w : Nat) : Int)))) x
      rw [wn1]
      exact x1
    · unfold FrRel
      simp only [hbz]
      refine ⟨by omega, by omega, ?_, ?_⟩
      · rw [← et]; exact hf
      · rw [show p + 9 + w = p + (9 + w) by omega]; exact x3
theorem frames_rel {s : ByteArray} (hs : s.size ≤ 1073741824) {r : Int × Int × List S104} (h : Ev (fun k => f106 k s) r) : FrRel s 0 r.2.2 := by
  obtain ⟨x, fs, x1, x2, x3⟩ := rel_loop s hs s.size 0 [] (by omega) (Nat.zero_le _) (Nat.le_refl _)
  have e := ev_det h (show Ev (fun k => f106 k s) x by unfold f106; exact x1)
  rw [e, x2]
  exact x3
noncomputable def txt (e : S136) : ByteArray := by
  classical
  exact if h : ∃ t, Ev (fun k => f126 k e.f0 e.f1 e.f2) t then h.choose else default
theorem txt_of {e : S136} {t : ByteArray} (h : Ev (fun k => f126 k e.f0 e.f1 e.f2) t) : txt e = t := by
  unfold txt
  rw [dif_pos ⟨t, h⟩]
  exact ev_det (Exists.choose_spec (⟨t, h⟩ : ∃ t, Ev (fun k => f126 k e.f0 e.f1 e.f2) t)) h
noncomputable def txts (l : List S136) : ByteArray := l.foldl (fun b e => b ++ txt e) (⟨#[]⟩ : ByteArray)
theorem txts_snoc (l : List S136) (e : S136) : txts (l ++ [e]) = txts l ++ txt e := by unfold txts; rw [List.foldl_append]; rfl
def okE (e : S136) : Prop := entB e.f0 e.f1 e.f2 = true
theorem canlog_loop (s : ByteArray) (hs : s.size ≤ 1073741824) (fs : List S104) (hl : fs.length ≤ 1073741824) (term : Int) (d : Nat) : ∀ (i P : Nat) (q : List S136), fs.length - i = d → i ≤ fs.length → q.length = i → i ≤ 500 → P ≤ s.size → txts q = s.extract 0 P → (∀ e ∈ q, okE e) → FrRel s P (fs.drop i) →
    ∃ r : Int × List S136, Ev (fun k => f108.l5 k q fs term (P : Int) (i : Int)) r ∧ (∃ Z : Nat, r.1 = (Z : Int) ∧ Z ≤ s.size ∧ txts r.2 = s.extract 0 Z) ∧ (∀ e ∈ r.2, okE e) := by
  induction d with
  | zero =>
    intro i P q hd hi hq h5 hP ht ho _
    exact ⟨((P : Int), q), Ev.step (fun k => by rw [f108.l5]) (Ev.neg (by omega) (Ev.ret _)), ⟨P, rfl, hP, ht⟩, ho⟩
  | succ d ih =>
    intro i P q hd hi hq h5 hP ht ho hr
    have stop : ∀ {g : Nat → Option (Int × List S136)}, Ev g ((P : Int), q) → ∃ r : Int × List S136, Ev g r ∧ (∃ Z : Nat, r.1 = (Z : Int) ∧ Z ≤ s.size ∧ txts r.2 = s.extract 0 Z) ∧ (∀ e ∈ r.2, okE e) := fun h => ⟨_, h, ⟨P, rfl, hP, ht⟩, ho⟩
    have hlt : i < fs.length := by omega
    rw [List.drop_eq_getElem_cons hlt] at hr
    obtain ⟨hz, hz2, hw, hr⟩ := hr
    have ha : at' fs (i : Int) = fs[i] := at_nat fs i hlt
    obtain ⟨e, e1, _, eb⟩ := entry_two (at' fs (i : Int)).f0 (at' fs (i : Int)).f1
    have w1 : IntKind.i64.wrap ((i : Int) + 1) = ((i + 1 : Nat) : Int) := by rw [wr (by omega) (by omega)]; omega
    have w2 : IntKind.i64.wrap ((i : Int) - 1) = (i : Int) - 1 := wr (by omega) (by omega)
    have st : ∀ {f : Nat → Option (Int × List S136)}, (∃ r : Int × List S136, Ev f r ∧ (∃ Z : Nat, r.1 = (Z : Int) ∧ Z ≤ s.size ∧ txts r.2 = s.extract 0 Z) ∧ (∀ e ∈ r.2, okE e)) → (∀ k, f108.l5 (k + 1) q fs term (P : Int) (i : Int) = f k) → ∃ r : Int × List S136, Ev (fun k => f108.l5 k q fs term (P : Int) (i : Int)) r ∧ (∃ Z : Nat, r.1 = (Z : Int) ∧ Z ≤ s.size ∧ txts r.2 = s.extract 0 Z) ∧ (∀ e ∈ r.2, okE e) := fun ⟨r, h, h'⟩ hk => ⟨r, Ev.step hk h, h'⟩
    refine st ?_ (fun k => by rw [f108.l5])
    by_cases h6 : i < 500
    case neg => exact stop (Ev.pos (by omega) (Ev.neg (by omega) (Ev.ret _)))
    cases hok : e.2.2.2 with
    | false => exact stop (Ev.pos (by omega) (Ev.pos (by omega) (Ev.pos (by omega) (Ev.bind e1 (Ev.neg (by rw [hok]; simp) (Ev.ret _))))))
    | true =>
      have hb := eb hok
      by_cases h7 : term < e.1
      · exact stop (Ev.pos (by omega) (Ev.pos (by omega) (Ev.pos (by omega) (Ev.bind e1 (Ev.pos hok (Ev.pos h7 (Ev.ret _)))))))
      by_cases h8 : 0 < (i : Int) ∧ e.1 < (at' q ((i : Int) - 1)).f0
      · refine stop (Ev.pos (by omega) (Ev.pos (by omega) (Ev.pos (by omega) (Ev.bind e1 (Ev.pos hok (Ev.neg h7 (Ev.pos h8.1 ?_)))))))
        rw [w2]
        exact Ev.pos (by omega) (Ev.pos (by omega) (Ev.pos h8.2 (Ev.ret _)))
      · rw [ha] at e1
        obtain ⟨_, t, t1, t2⟩ := entry_said hz2 e1 hok
        have et : t = s.extract P (P + 9 + fs[i].f1.size) := ev_det t2 hw
        have tz : t.size = 9 + fs[i].f1.size := by rw [et, ByteArray.size_extract]; omega
        obtain ⟨r, r1, r2, r3⟩ := ih (i + 1) (P + 9 + fs[i].f1.size) (q ++ [(⟨e.1, e.2.1, e.2.2.1⟩ : S136)]) (by omega) (by omega) (by rw [List.length_append, List.length_singleton, hq]) (by omega) hz (by
          rw [txts_snoc, ht, txt_of (e := ⟨e.1, e.2.1, e.2.2.1⟩) t1, et, join_cut s (Nat.zero_le _) (by omega)]) (fun x hx => by
          rcases List.mem_append.1 hx with hx | hx
          · exact ho x hx
          · rw [List.mem_singleton.1 hx]; exact hb) hr
        have wP : IntKind.i64.wrap ((P : Int) + (t.size : Int)) = ((P + 9 + fs[i].f1.size : Nat) : Int) := by rw [wr (by omega) (by omega)]; omega
        refine ⟨r, Ev.pos (by omega) (Ev.pos (by omega) (Ev.pos (by omega) ?_)), r2, r3⟩
        rw [ha]
        refine Ev.bind e1 (Ev.pos hok (Ev.neg h7 ?_))
        by_cases h0 : 0 < (i : Int)
        · refine Ev.pos h0 ?_
          rw [w2, w1]
          refine Ev.pos (by omega) (Ev.pos (by omega) (Ev.neg (fun h => h8 ⟨h0, h⟩) (Ev.pos (by omega) (Ev.pos (by omega) (Ev.bind t1 ?_)))))
          rw [wP]
          exact r1
        · rw [w1]
          refine Ev.neg h0 (Ev.pos (by omega) (Ev.pos (by omega) (Ev.bind t1 ?_)))
          rw [wP]
          exact r1
theorem log_said {s : ByteArray} (hs : s.size ≤ 1073741824) {term : Int} {r : Int × List S136} (h : Ev (fun k => f108 k s term) r) : (∃ Z : Nat, r.1 = (Z : Int) ∧ Z ≤ s.size ∧ txts r.2 = s.extract 0 Z) ∧ (∀ e ∈ r.2, okE e) := by
  obtain ⟨fs, f1, _, fo⟩ := frames_two s hs
  have hr := frames_rel hs f1
  have fl := fo.n
  obtain ⟨x, x1, x2, x3⟩ := canlog_loop s hs fs.2.2 (by omega) term _ 0 0 [] rfl (Nat.zero_le _) rfl (by omega) (Nat.zero_le _) (by
    show (⟨#[]⟩ : ByteArray) = s.extract 0 0
    apply ByteArray.ext
    rw [ByteArray.data_extract]
    simp) (fun e he => by cases he) hr
  have e := ev_det h (show Ev (fun k => f108 k s term) x by unfold f108; exact Ev.bind f1 x1)
  rw [e]
  exact ⟨x2, x3⟩
end Go.Proofs.Ytfjoamlgbegpgaa.P
