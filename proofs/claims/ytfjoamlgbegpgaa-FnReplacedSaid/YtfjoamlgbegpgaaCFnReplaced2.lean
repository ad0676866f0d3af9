/- Part of the proof of FnReplaced: no statement of its own. -/
import Derived.IntWalk
import Derived.KernelRfl
import Derived.Lib.Bytealg
import Derived.Lib.Strings
import Derived.Test.YtfjoamlgbegpgaaProg
import Derived.Test.YtfjoamlgbegpgaaCFnReplaced1
set_option linter.unusedVariables false
set_option linter.unusedSimpArgs false
namespace Go.Proofs.Ytfjoamlgbegpgaa.P
open Go Go.Proofs.Ytfjoamlgbegpgaa.PM Go.Proofs
structure S73 where
  f0 : Int
  f1 : ByteArray
  f2 : ByteArray
  f3 : ByteArray
instance : Inhabited S73 := ⟨⟨default, default, default, default⟩⟩
def e73 (x : S73) : T := .agg [T.sc (.int .i64 x.f0), T.sc (.string x.f1), T.sc (.string x.f2), T.sc (.string x.f3)]
theorem g73 (l : List S73) (i : Int) (h : i.toNat < l.length) : l[i.toNat] = at' l i := get_at l i h
theorem w73 (l : List S73) : wid 4 (l.map e73) = true := by simp [wid, e73, T.width, T.cells]
structure S80 where
  f0 : ByteArray
  f1 : ByteArray
instance : Inhabited S80 := ⟨⟨default, default⟩⟩
def e80 (x : S80) : T := .agg [T.sc (.string x.f0), T.sc (.string x.f1)]
theorem g80 (l : List S80) (i : Int) (h : i.toNat < l.length) : l[i.toNat] = at' l i := get_at l i h
theorem w80 (l : List S80) : wid 2 (l.map e80) = true := by simp [wid, e80, T.width, T.cells]
structure S104 where
  f0 : Int
  f1 : ByteArray
instance : Inhabited S104 := ⟨⟨default, default⟩⟩
def e104 (x : S104) : T := .agg [T.sc (.int .i64 x.f0), T.sc (.string x.f1)]
theorem g104 (l : List S104) (i : Int) (h : i.toNat < l.length) : l[i.toNat] = at' l i := get_at l i h
theorem w104 (l : List S104) : wid 2 (l.map e104) = true := by simp [wid, e104, T.width, T.cells]
structure S106 where
  f0 : ByteArray
  f1 : ByteArray
instance : Inhabited S106 := ⟨⟨default, default⟩⟩
def e106 (x : S106) : T := .agg [T.sc (.string x.f0), T.sc (.string x.f1)]
theorem g106 (l : List S106) (i : Int) (h : i.toNat < l.length) : l[i.toNat] = at' l i := get_at l i h
theorem w106 (l : List S106) : wid 2 (l.map e106) = true := by simp [wid, e106, T.width, T.cells]
structure S108 where
  f0 : Int
  f1 : ByteArray
  f2 : ByteArray
  f3 : ByteArray
instance : Inhabited S108 := ⟨⟨default, default, default, default⟩⟩
def e108 (x : S108) : T := .agg [T.sc (.int .i64 x.f0), T.sc (.string x.f1), T.sc (.string x.f2), T.sc (.string x.f3)]
theorem g108 (l : List S108) (i : Int) (h : i.toNat < l.length) : l[i.toNat] = at' l i := get_at l i h
theorem w108 (l : List S108) : wid 4 (l.map e108) = true := by simp [wid, e108, T.width, T.cells]
structure S136 where
  f0 : Int
  f1 : Int
  f2 : ByteArray
instance : Inhabited S136 := ⟨⟨default, default, default⟩⟩
def e136 (x : S136) : T := .agg [T.sc (.int .i64 x.f0), T.sc (.int .i64 x.f1), T.sc (.string x.f2)]
theorem g136 (l : List S136) (i : Int) (h : i.toNat < l.length) : l[i.toNat] = at' l i := get_at l i h
theorem w136 (l : List S136) : wid 3 (l.map e136) = true := by simp [wid, e136, T.width, T.cells]
theorem sz2 : szT Try.prog 2 = some 1 := by kernel_rfl
theorem ag2 : aggT Try.prog 2 = some false := by kernel_rfl
theorem by2 : bytesT Try.prog 2 = some 8 := by kernel_rfl
theorem ze2 : zeroT Try.prog 2 = some (T.sc (.int .i64 0)) := by kernel_rfl
theorem sz3 : szT Try.prog 3 = some 1 := by kernel_rfl
theorem ag3 : aggT Try.prog 3 = some false := by kernel_rfl
theorem by3 : bytesT Try.prog 3 = some 8 := by kernel_rfl
theorem ze3 : zeroT Try.prog 3 = some (T.sc (.int .i64 0)) := by kernel_rfl
theorem sz4 : szT Try.prog 4 = some 1 := by kernel_rfl
theorem ag4 : aggT Try.prog 4 = some false := by kernel_rfl
theorem by4 : bytesT Try.prog 4 = some 1 := by kernel_rfl
theorem ze4 : zeroT Try.prog 4 = some (T.sc (.bool false)) := by kernel_rfl
theorem sz5 : szT Try.prog 5 = some 1 := by kernel_rfl
theorem ag5 : aggT Try.prog 5 = some false := by kernel_rfl
theorem by5 : bytesT Try.prog 5 = some 1 := by kernel_rfl
theorem ze5 : zeroT Try.prog 5 = some (T.sc (.int .u8 0)) := by kernel_rfl
theorem sz9 : szT Try.prog 9 = some 1 := by kernel_rfl
theorem ag9 : aggT Try.prog 9 = some false := by kernel_rfl
theorem by9 : bytesT Try.prog 9 = some 16 := by kernel_rfl
theorem ze9 : zeroT Try.prog 9 = some (T.sc (.string (⟨#[]⟩ : ByteArray))) := by kernel_rfl
theorem sz22 : szT Try.prog 22 = some 1 := by kernel_rfl
theorem ag22 : aggT Try.prog 22 = some false := by kernel_rfl
theorem by22 : bytesT Try.prog 22 = some 24 := by kernel_rfl
theorem ze22 : zeroT Try.prog 22 = some (T.nil) := by kernel_rfl
theorem el22 : elemT Try.prog 22 = some 106 := by kernel_rfl
theorem sz23 : szT Try.prog 23 = some 1 := by kernel_rfl
theorem ag23 : aggT Try.prog 23 = some false := by kernel_rfl
theorem by23 : bytesT Try.prog 23 = some 24 := by kernel_rfl
theorem ze23 : zeroT Try.prog 23 = some (T.nil) := by kernel_rfl
theorem el23 : elemT Try.prog 23 = some 108 := by kernel_rfl
theorem sz25 : szT Try.prog 25 = some 3 := by kernel_rfl
theorem ag25 : aggT Try.prog 25 = some true := by kernel_rfl
theorem by25 : bytesT Try.prog 25 = some 72 := by kernel_rfl
theorem ze25 : zeroT Try.prog 25 = some (T.agg [T.nil, T.nil, T.nil]) := by kernel_rfl
theorem fs25 : fieldsT Try.prog 25 = some [(0, 1), (1, 1), (2, 1)] := by kernel_rfl
theorem sz28 : szT Try.prog 28 = some 1 := by kernel_rfl
theorem ag28 : aggT Try.prog 28 = some false := by kernel_rfl
theorem by28 : bytesT Try.prog 28 = some 24 := by kernel_rfl
theorem ze28 : zeroT Try.prog 28 = some (T.nil) := by kernel_rfl
theorem el28 : elemT Try.prog 28 = some 80 := by kernel_rfl
theorem sz29 : szT Try.prog 29 = some 1 := by kernel_rfl
theorem ag29 : aggT Try.prog 29 = some false := by kernel_rfl
theorem by29 : bytesT Try.prog 29 = some 24 := by kernel_rfl
theorem ze29 : zeroT Try.prog 29 = some (T.nil) := by kernel_rfl
theorem el29 : elemT Try.prog 29 = some 73 := by kernel_rfl
theorem sz31 : szT Try.prog 31 = some 3 := by kernel_rfl
theorem ag31 : aggT Try.prog 31 = some true := by kernel_rfl
theorem by31 : bytesT Try.prog 31 = some 72 := by kernel_rfl
theorem ze31 : zeroT Try.prog 31 = some (T.agg [T.nil, T.nil, T.nil]) := by kernel_rfl
theorem fs31 : fieldsT Try.prog 31 = some [(0, 1), (1, 1), (2, 1)] := by kernel_rfl
theorem sz38 : szT Try.prog 38 = some 1 := by kernel_rfl
theorem ag38 : aggT Try.prog 38 = some false := by kernel_rfl
theorem by38 : bytesT Try.prog 38 = some 24 := by kernel_rfl
theorem ze38 : zeroT Try.prog 38 = some (T.nil) := by kernel_rfl
theorem el38 : elemT Try.prog 38 = some 5 := by kernel_rfl
theorem sz40 : szT Try.prog 40 = some 1 := by kernel_rfl
theorem ag40 : aggT Try.prog 40 = some false := by kernel_rfl
theorem by40 : bytesT Try.prog 40 = some 24 := by kernel_rfl
theorem ze40 : zeroT Try.prog 40 = some (T.nil) := by kernel_rfl
theorem el40 : elemT Try.prog 40 = some 2 := by kernel_rfl
theorem sz51 : szT Try.prog 51 = some 1 := by kernel_rfl
theorem ag51 : aggT Try.prog 51 = some false := by kernel_rfl
theorem by51 : bytesT Try.prog 51 = some 8 := by kernel_rfl
theorem ze51 : zeroT Try.prog 51 = some (T.sc (.int .u64 0)) := by kernel_rfl
theorem sz58 : szT Try.prog 58 = some 1 := by kernel_rfl
theorem ag58 : aggT Try.prog 58 = some false := by kernel_rfl
theorem by58 : bytesT Try.prog 58 = some 24 := by kernel_rfl
theorem ze58 : zeroT Try.prog 58 = some (T.nil) := by kernel_rfl
theorem el58 : elemT Try.prog 58 = some 136 := by kernel_rfl
theorem sz60 : szT Try.prog 60 = some 3 := by kernel_rfl
theorem ag60 : aggT Try.prog 60 = some true := by kernel_rfl
theorem by60 : bytesT Try.prog 60 = some 40 := by kernel_rfl
theorem ze60 : zeroT Try.prog 60 = some (T.agg [T.sc (.int .i64 0), T.sc (.int .i64 0), T.nil]) := by kernel_rfl
theorem fs60 : fieldsT Try.prog 60 = some [(0, 1), (1, 1), (2, 1)] := by kernel_rfl
theorem sz73 : szT Try.prog 73 = some 4 := by kernel_rfl
theorem ag73 : aggT Try.prog 73 = some true := by kernel_rfl
theorem by73 : bytesT Try.prog 73 = some 56 := by kernel_rfl
theorem ze73 : zeroT Try.prog 73 = some (T.agg [T.sc (.int .i64 0), T.sc (.string (⟨#[]⟩ : ByteArray)), T.sc (.string (⟨#[]⟩ : ByteArray)), T.sc (.string (⟨#[]⟩ : ByteArray))]) := by kernel_rfl
theorem fs73 : fieldsT Try.prog 73 = some [(0, 1), (1, 1), (2, 1), (3, 1)] := by kernel_rfl
theorem sz80 : szT Try.prog 80 = some 2 := by kernel_rfl
theorem ag80 : aggT Try.prog 80 = some true := by kernel_rfl
theorem by80 : bytesT Try.prog 80 = some 32 := by kernel_rfl
theorem ze80 : zeroT Try.prog 80 = some (T.agg [T.sc (.string (⟨#[]⟩ : ByteArray)), T.sc (.string (⟨#[]⟩ : ByteArray))]) := by kernel_rfl
theorem fs80 : fieldsT Try.prog 80 = some [(0, 1), (1, 1)] := by kernel_rfl
theorem sz81 : szT Try.prog 81 = some 1 := by kernel_rfl
theorem ag81 : aggT Try.prog 81 = some false := by kernel_rfl
theorem by81 : bytesT Try.prog 81 = some 8 := by kernel_rfl
theorem sz89 : szT Try.prog 89 = some 1 := by kernel_rfl
theorem ag89 : aggT Try.prog 89 = some false := by kernel_rfl
theorem by89 : bytesT Try.prog 89 = some 24 := by kernel_rfl
theorem ze89 : zeroT Try.prog 89 = some (T.nil) := by kernel_rfl
theorem el89 : elemT Try.prog 89 = some 9 := by kernel_rfl
theorem sz104 : szT Try.prog 104 = some 2 := by kernel_rfl
theorem ag104 : aggT Try.prog 104 = some true := by kernel_rfl
theorem by104 : bytesT Try.prog 104 = some 24 := by kernel_rfl
theorem ze104 : zeroT Try.prog 104 = some (T.agg [T.sc (.int .i64 0), T.sc (.string (⟨#[]⟩ : ByteArray))]) := by kernel_rfl
theorem fs104 : fieldsT Try.prog 104 = some [(0, 1), (1, 1)] := by kernel_rfl
theorem sz106 : szT Try.prog 106 = some 2 := by kernel_rfl
theorem ag106 : aggT Try.prog 106 = some true := by kernel_rfl
theorem by106 : bytesT Try.prog 106 = some 32 := by kernel_rfl
theorem ze106 : zeroT Try.prog 106 = some (T.agg [T.sc (.string (⟨#[]⟩ : ByteArray)), T.sc (.string (⟨#[]⟩ : ByteArray))]) := by kernel_rfl
theorem fs106 : fieldsT Try.prog 106 = some [(0, 1), (1, 1)] := by kernel_rfl
theorem sz108 : szT Try.prog 108 = some 4 := by kernel_rfl
theorem ag108 : aggT Try.prog 108 = some true := by kernel_rfl
theorem by108 : bytesT Try.prog 108 = some 56 := by kernel_rfl
theorem ze108 : zeroT Try.prog 108 = some (T.agg [T.sc (.int .i64 0), T.sc (.string (⟨#[]⟩ : ByteArray)), T.sc (.string (⟨#[]⟩ : ByteArray)), T.sc (.string (⟨#[]⟩ : ByteArray))]) := by kernel_rfl
theorem fs108 : fieldsT Try.prog 108 = some [(0, 1), (1, 1), (2, 1), (3, 1)] := by kernel_rfl
theorem sz120 : szT Try.prog 120 = some 2 := by kernel_rfl
theorem ag120 : aggT Try.prog 120 = some true := by kernel_rfl
theorem by120 : bytesT Try.prog 120 = some 32 := by kernel_rfl
theorem ze120 : zeroT Try.prog 120 = some (T.agg [T.nil, T.sc (.int .i64 0)]) := by kernel_rfl
theorem fs120 : fieldsT Try.prog 120 = some [(0, 1), (1, 1)] := by kernel_rfl
theorem sz128 : szT Try.prog 128 = some 1 := by kernel_rfl
theorem ag128 : aggT Try.prog 128 = some false := by kernel_rfl
theorem by128 : bytesT Try.prog 128 = some 24 := by kernel_rfl
theorem ze128 : zeroT Try.prog 128 = some (T.nil) := by kernel_rfl
theorem el128 : elemT Try.prog 128 = some 104 := by kernel_rfl
theorem sz136 : szT Try.prog 136 = some 3 := by kernel_rfl
theorem ag136 : aggT Try.prog 136 = some true := by kernel_rfl
theorem by136 : bytesT Try.prog 136 = some 32 := by kernel_rfl
theorem ze136 : zeroT Try.prog 136 = some (T.agg [T.sc (.int .i64 0), T.sc (.int .i64 0), T.sc (.string (⟨#[]⟩ : ByteArray))]) := by kernel_rfl
theorem fs136 : fieldsT Try.prog 136 = some [(0, 1), (1, 1), (2, 1)] := by kernel_rfl
theorem sz141 : szT Try.prog 141 = some 0 := by kernel_rfl
theorem ag141 : aggT Try.prog 141 = some true := by kernel_rfl
theorem by141 : bytesT Try.prog 141 = some 0 := by kernel_rfl
theorem ze141 : zeroT Try.prog 141 = some (T.agg []) := by kernel_rfl
theorem fs141 : fieldsT Try.prog 141 = some [] := by kernel_rfl
theorem sz143 : szT Try.prog 143 = some 1 := by kernel_rfl
theorem ag143 : aggT Try.prog 143 = some false := by kernel_rfl
theorem by143 : bytesT Try.prog 143 = some 4 := by kernel_rfl
theorem ze143 : zeroT Try.prog 143 = some (T.sc (.int .u32 0)) := by kernel_rfl
theorem sz145 : szT Try.prog 145 = some 1 := by kernel_rfl
theorem ag145 : aggT Try.prog 145 = some false := by kernel_rfl
theorem by145 : bytesT Try.prog 145 = some 8 := by kernel_rfl
theorem ze145 : zeroT Try.prog 145 = some (T.sc (.int .u64 0)) := by kernel_rfl
theorem ck2 : cellKs Try.prog 8 2 = some [none] := by kernel_rfl
theorem ck3 : cellKs Try.prog 8 3 = some [none] := by kernel_rfl
theorem ck4 : cellKs Try.prog 8 4 = some [none] := by kernel_rfl
theorem ck9 : cellKs Try.prog 8 9 = some [none] := by kernel_rfl
theorem ck28 : cellKs Try.prog 8 28 = some [some 2] := by kernel_rfl
theorem ck29 : cellKs Try.prog 8 29 = some [some 4] := by kernel_rfl
theorem ck31 : cellKs Try.prog 8 31 = some [some 2, some 2, some 4] := by kernel_rfl
theorem ck38 : cellKs Try.prog 8 38 = some [some 1] := by kernel_rfl
theorem ck40 : cellKs Try.prog 8 40 = some [some 1] := by kernel_rfl
theorem ck58 : cellKs Try.prog 8 58 = some [some 3] := by kernel_rfl
theorem ck60 : cellKs Try.prog 8 60 = some [none, none, some 3] := by kernel_rfl
theorem ck73 : cellKs Try.prog 8 73 = some [none, none, none, none] := by kernel_rfl
theorem ck80 : cellKs Try.prog 8 80 = some [none, none] := by kernel_rfl
theorem ck81 : cellKs Try.prog 8 81 = some [none] := by kernel_rfl
theorem ck104 : cellKs Try.prog 8 104 = some [none, none] := by kernel_rfl
theorem ck128 : cellKs Try.prog 8 128 = some [some 2] := by kernel_rfl
theorem ck136 : cellKs Try.prog 8 136 = some [none, none, none] := by kernel_rfl
theorem ck143 : cellKs Try.prog 8 143 = some [none] := by kernel_rfl
theorem ck145 : cellKs Try.prog 8 145 = some [none] := by kernel_rfl
theorem eq80 : eqT Try.prog 80 = some [(0, 9), (1, 9)] := by kernel_rfl
theorem ft25_0 : fieldT Try.prog 25 0 = some (0, 22) := by kernel_rfl
theorem ft25_1 : fieldT Try.prog 25 1 = some (1, 22) := by kernel_rfl
theorem ft25_2 : fieldT Try.prog 25 2 = some (2, 23) := by kernel_rfl
theorem ft31_0 : fieldT Try.prog 31 0 = some (0, 28) := by kernel_rfl
theorem ft31_1 : fieldT Try.prog 31 1 = some (1, 28) := by kernel_rfl
theorem ft31_2 : fieldT Try.prog 31 2 = some (2, 29) := by kernel_rfl
theorem ft60_0 : fieldT Try.prog 60 0 = some (0, 2) := by kernel_rfl
theorem ft60_1 : fieldT Try.prog 60 1 = some (1, 2) := by kernel_rfl
theorem ft60_2 : fieldT Try.prog 60 2 = some (2, 58) := by kernel_rfl
theorem ft73_0 : fieldT Try.prog 73 0 = some (0, 2) := by kernel_rfl
theorem ft73_1 : fieldT Try.prog 73 1 = some (1, 9) := by kernel_rfl
theorem ft73_2 : fieldT Try.prog 73 2 = some (2, 9) := by kernel_rfl
theorem ft73_3 : fieldT Try.prog 73 3 = some (3, 9) := by kernel_rfl
theorem ft80_0 : fieldT Try.prog 80 0 = some (0, 9) := by kernel_rfl
theorem ft80_1 : fieldT Try.prog 80 1 = some (1, 9) := by kernel_rfl
theorem ft104_0 : fieldT Try.prog 104 0 = some (0, 2) := by kernel_rfl
theorem ft104_1 : fieldT Try.prog 104 1 = some (1, 9) := by kernel_rfl
theorem ft106_0 : fieldT Try.prog 106 0 = some (0, 9) := by kernel_rfl
theorem ft106_1 : fieldT Try.prog 106 1 = some (1, 9) := by kernel_rfl
theorem ft108_0 : fieldT Try.prog 108 0 = some (0, 2) := by kernel_rfl
theorem ft108_1 : fieldT Try.prog 108 1 = some (1, 9) := by kernel_rfl
theorem ft108_2 : fieldT Try.prog 108 2 = some (2, 9) := by kernel_rfl
theorem ft108_3 : fieldT Try.prog 108 3 = some (3, 9) := by kernel_rfl
theorem ft120_0 : fieldT Try.prog 120 0 = some (0, 38) := by kernel_rfl
theorem ft120_1 : fieldT Try.prog 120 1 = some (1, 3) := by kernel_rfl
theorem ft136_0 : fieldT Try.prog 136 0 = some (0, 2) := by kernel_rfl
theorem ft136_1 : fieldT Try.prog 136 1 = some (1, 2) := by kernel_rfl
theorem ft136_2 : fieldT Try.prog 136 2 = some (2, 9) := by kernel_rfl
theorem lit_get {α : Type} [Inhabited α] (e : α → T) (l : List α) (i : Int) : ∀ h : i.toNat < (l.map e).length, (l.map e)[i.toNat] = e (at' l i) := fun h => by rw [List.getElem_map]; exact congrArg e (get_at l i (by rwa [List.length_map] at h))
theorem bytesOf_rep (n : Nat) (b : Int) : bytesOf (List.replicate n (T.sc (.int .u8 b))) = some ((List.replicate n b).map fun b => UInt8.ofNat b.toNat) := by have h := bytesOf_map (List.replicate n b); rw [List.map_replicate] at h; exact h
def c5 : FCert := ⟨[], true, [(12, [(3, 0), (8, 0), (9, 0), (10, 0), (11, 0)])], []⟩
def c6 : FCert := ⟨[], true, [(22, [(0, 0), (4, 0), (5, 0), (13, 0), (14, 0), (15, 0), (19, 0)]), (26, [(0, 0), (4, 0), (5, 0), (13, 0), (14, 0), (15, 0), (19, 0), (20, 0), (21, 0)])], []⟩
def c8 : FCert := ⟨[], true, [], [(13, [[], [], [1], [0, 1, 2], []])]⟩
def c10 : FCert := ⟨[], true, [], [(10, [[], [], [1], [0, 1, 2], []])]⟩
def c11 : FCert := ⟨[], true, [], [(10, [[], [], [1], [0, 1, 2], []])]⟩
def c12 : FCert := ⟨[], true, [], []⟩
def c13 : FCert := ⟨[], true, [(5, [(1, 0), (3, 1), (4, 0)])], []⟩
def c14 : FCert := ⟨[], true, [], []⟩
def c15 : FCert := ⟨[], true, [], []⟩
def c16 : FCert := ⟨[], true, [], []⟩
def c17 : FCert := ⟨[], true, [], []⟩
def c18 : FCert := ⟨[], true, [], []⟩
def c19 : FCert := ⟨[], true, [], []⟩
def c20 : FCert := ⟨[], false, [(5, [(2, 0), (5, 0), (6, 0), (7, 0), (8, 0)])], [(11, [[], [], [], [], [0, 3], [], []])]⟩
def c21 : FCert := ⟨[], true, [(4, [(1, 0), (2, 0), (3, 0), (6, 0), (8, 0)]), (10, [(1, 0), (2, 0), (3, 0), (6, 0), (9, 0), (10, 0)])], [(6, [[], [], [], [2], [], [], [5], [], [2, 3, 5, 6], [], [], [], [], [], [], [], [2, 3, 5, 6, 8], [2, 3, 5, 6, 8, 16], [], [], [], [2, 3, 5, 6, 8], [2, 3, 5, 6, 8, 21], [], [], []]), (12, [[], [], [], [], [], [4], [1, 4, 5], [1, 4, 5, 6], [], [1, 4, 5, 6, 7, 8]])]⟩
def c22 : FCert := ⟨[], true, [(5, [(1, 0), (2, 0), (3, 0), (6, 0), (8, 0), (25, 0), (26, 0), (27, 0)])], []⟩
def c23 : FCert := ⟨[], true, [(4, [(0, 0), (1, 0), (5, 0)])], [(6, [[], [], [], [2], [], [], [], [6], []])]⟩
def c24 : FCert := ⟨[], true, [], [(3, [[], [], [1], [], [], [1, 2, 4], [], [1, 2, 4, 5]])]⟩
def c25 : FCert := ⟨[], false, [], [(6, [[], [], [], [], [0, 3], [], []])]⟩
def c26 : FCert := ⟨[], true, [], []⟩
def c27 : FCert := ⟨[], true, [], []⟩
def c28 : FCert := ⟨[], true, [], [(3, [[], [], [], [0, 2], [], [], [], [0, 2, 3, 4, 6], [], [0, 2, 3, 4, 6, 7]])]⟩
def c29 : FCert := ⟨[true], true, [], []⟩
def c30 : FCert := ⟨[], true, [], []⟩
def c31 : FCert := ⟨[], true, [(3, [(0, 0), (3, 0), (4, 0)])], []⟩
def c32 : FCert := ⟨[], true, [(4, [(0, 0), (1, 0), (5, 0)])], [(6, [[], [], [], [2], [], [], [], [6], []])]⟩
def c33 : FCert := ⟨[true], true, [(2, [(0, 0), (1, 0), (5, 0)])], []⟩
def c34 : FCert := ⟨[], true, [], []⟩
def c35 : FCert := ⟨[], true, [], []⟩
def c36 : FCert := ⟨[], true, [], []⟩
def c37 : FCert := ⟨[true], true, [], []⟩
def c38 : FCert := ⟨[], true, [], []⟩
def c39 : FCert := ⟨[], true, [], [(6, [[], [], [], [], [0, 3], [], [], [], [], [0, 3, 4, 8], []])]⟩
def c40 : FCert := ⟨[], true, [], [(6, [[], [], [], [], [2], [], [], [2, 4], [0, 2, 4, 7], [], [], [], [], [0, 2, 4, 7, 8, 12], []])]⟩
def c41 : FCert := ⟨[], true, [(5, [(0, 0), (1, 0), (5, 0)])], []⟩
def c42 : FCert := ⟨[], true, [(5, [(0, 0), (1, 0), (5, 0)])], []⟩
def c43 : FCert := ⟨[], true, [(5, [(0, 0), (3, 0), (4, 0)])], [(7, [[], [], [], [], [2], [2, 4], [], [], [], [], [], [], [], [2, 4, 5], [], [2, 4, 5, 13], [], [], [], [2, 4, 5], [], [2, 4, 5, 19], [], [], []])]⟩
def c44 : FCert := ⟨[], true, [], [(11, [[], [], [], [], [], [], [], [5], [2, 5, 7], []])]⟩
def c45 : FCert := ⟨[], true, [], []⟩
def c46 : FCert := ⟨[], true, [(4, [(0, 0), (1, 0), (5, 0)])], [(6, [[], [], [], [2], [], [], [], [6], []])]⟩
def c47 : FCert := ⟨[], true, [(3, [(0, 0), (3, 0), (4, 0)])], []⟩
def c48 : FCert := ⟨[], true, [(3, [(0, 0), (3, 0), (4, 0)])], []⟩
def c49 : FCert := ⟨[], true, [(5, [(1, 0), (3, 1), (27, 0), (28, 0), (29, 0)])], []⟩
def c50 : FCert := ⟨[], true, [(4, [(0, 0), (1, 0), (5, 0)])], [(6, [[], [], [], [2], [], [], [], [6], [2, 3, 6, 7], []])]⟩
def c51 : FCert := ⟨[], true, [(4, [(0, 0), (1, 0), (5, 0)])], [(6, [[], [], [], [2], [], [], [], [6], [2, 3, 6, 7], []])]⟩
def c52 : FCert := ⟨[], true, [(2, [(0, 0), (1, 0), (5, 0)])], []⟩
def c53 : FCert := ⟨[], true, [], []⟩
def c54 : FCert := ⟨[], true, [], []⟩
def c55 : FCert := ⟨[], false, [(3, [(0, 0), (2, 0), (3, 0), (4, 0)])], [(7, [[], [], [], [0, 2], [], [], [], [], [0, 2, 3, 7], []])]⟩
def c56 : FCert := ⟨[], true, [], []⟩
def c57 : FCert := ⟨[], true, [], []⟩
def c58 : FCert := ⟨[], true, [], []⟩
def c59 : FCert := ⟨[], true, [], []⟩
def c60 : FCert := ⟨[], true, [], []⟩
def c61 : FCert := ⟨[], true, [], [(13, [[], [], [], [], [], [], [], [5], [], [2, 5, 7], [], []])]⟩
def c62 : FCert := ⟨[], true, [(3, [(0, 0), (3, 0), (6, 0), (7, 0), (8, 0)])], [(6, [[], [], [1], [], [], [], [], [], [], [], [], [], [], [], [], [1, 2], [], [1, 2, 15], [], [1, 2], [], [], []])]⟩
def c63 : FCert := ⟨[], true, [], []⟩
def c64 : FCert := ⟨[], true, [], []⟩
def c65 : FCert := ⟨[], true, [], []⟩
def c66 : FCert := ⟨[], true, [], [(1, [[], [], [], [0, 2], [], [], [], [0, 2, 3, 4, 6], [], [], [], [0, 2, 3, 4, 6, 7, 8, 10], [], [0, 2, 3, 4, 6, 7, 8, 10, 11]])]⟩
def c67 : FCert := ⟨[], true, [(9, [(3, 0), (6, 0), (10, 0), (40, 0), (41, 0), (42, 0)])], []⟩
def c68 : FCert := ⟨[true], true, [(2, [(0, 0), (1, 0), (5, 0)])], []⟩
def c69 : FCert := ⟨[true], true, [(2, [(0, 0), (1, 0), (5, 0)])], []⟩
def c70 : FCert := ⟨[], true, [(2, [(0, 0), (1, 0), (5, 0)])], [(4, [[], [], [], [], [2], [], [], []]), (7, [[], [], [], [], [2], [], [], []])]⟩
def c71 : FCert := ⟨[], true, [(2, [(0, 0), (1, 0), (5, 0)])], [(7, [[], [], [], [], [2], [], [], []]), (10, [[], [], [], [], [2], [], [], []]), (13, [[], [], [], [], [2], [], [], []])]⟩
def c72 : FCert := ⟨[], true, [], [(16, [[], [], [], [1], [], [1, 3], [], [], [1, 3, 5, 7], [], [], [], [], [1, 3, 5, 7, 8], []])]⟩
def c73 : FCert := ⟨[], true, [(20, [(2, 0), (4, 0), (18, 0), (105, 0), (106, 0), (107, 0)])], []⟩
def c74 : FCert := ⟨[], true, [(4, [(0, 0), (1, 0), (5, 0)])], [(6, [[], [], [], [2], [], [], [], [6], [2, 3, 6, 7], []])]⟩
def c75 : FCert := ⟨[true], true, [(2, [(0, 0), (1, 0), (5, 0)])], []⟩
def c76 : FCert := ⟨[], true, [(2, [(0, 0), (1, 0), (5, 0)])], [(10, [[], [], [], [], [2], [], [], []])]⟩
def c77 : FCert := ⟨[], true, [], []⟩
def c78 : FCert := ⟨[], true, [], []⟩
def c79 : FCert := ⟨[], true, [], [(1, [[], [], [1], [], [], [1, 2, 4], [], [], [], [1, 2, 4, 5, 6, 8], [], [1, 2, 4, 5, 6, 8, 9]])]⟩
def c80 : FCert := ⟨[], true, [], [(5, [[], [], [], [], [3], [0, 3, 4], [0, 3, 4, 5], []])]⟩
def c81 : FCert := ⟨[], true, [(2, [(0, 0), (3, 0)])], []⟩
def c82 : FCert := ⟨[], true, [], []⟩
def c83 : FCert := ⟨[], true, [], []⟩
def c84 : FCert := ⟨[], true, [], []⟩
def c85 : FCert := ⟨[], true, [(4, [(0, 0), (1, 0), (2, 0), (7, 0), (8, 0), (9, 0)])], []⟩
def c86 : FCert := ⟨[], true, [(3, [(0, 0), (1, 0), (5, 0), (6, 0)])], []⟩
def c87 : FCert := ⟨[], true, [], []⟩
def c88 : FCert := ⟨[], true, [], []⟩
def c89 : FCert := ⟨[], true, [], []⟩
def c90 : FCert := ⟨[], true, [(4, [(0, 0), (1, 0), (12, 0), (13, 0)])], [(6, [[], [], [], [2], [], [], [], [6], []])]⟩
def c91 : FCert := ⟨[], true, [], []⟩
def c92 : FCert := ⟨[], true, [], []⟩
def c93 : FCert := ⟨[], true, [(2, [(0, 0), (1, 0), (7, 0), (8, 0)])], []⟩
def c94 : FCert := ⟨[], true, [], []⟩
def c95 : FCert := ⟨[], true, [], []⟩
def c96 : FCert := ⟨[], true, [], []⟩
def c97 : FCert := ⟨[], true, [], []⟩
def c98 : FCert := ⟨[], true, [], []⟩
def c99 : FCert := ⟨[], true, [], []⟩
def c100 : FCert := ⟨[true], true, [], []⟩
def c101 : FCert := ⟨[], true, [], []⟩
def c102 : FCert := ⟨[], true, [], [(1, [[], [], [], [], [], [], [], [], [7], []]), (4, [[], [], [], [], [], [], [], [], [], [3, 7], [3, 7, 9], [3, 7, 9, 10], []])]⟩
def c103 : FCert := ⟨[true, false, true], true, [], []⟩
def c104 : FCert := ⟨[], true, [], []⟩
def c105 : FCert := ⟨[], true, [(4, [(0, 0), (3, 0)])], []⟩
def c106 : FCert := ⟨[], true, [(3, [(0, 0), (5, 0), (6, 0)])], []⟩
def c107 : FCert := ⟨[], true, [(4, [(0, 0), (5, 0), (6, 0), (7, 0)])], []⟩
def c108 : FCert := ⟨[], true, [(5, [(1, 0), (6, 0), (7, 0), (8, 0), (11, 0)])], [(8, [[], [], [], [], [], [], [], [], [], [], [], [], [], [4], [], [], [], [4], [], [4, 17], [], [], []])]⟩
def c109 : FCert := ⟨[], true, [(3, [(0, 0), (5, 0), (6, 0)])], [(12, [[], [], [], [0, 2], []]), (19, [[], [], [], [], [0, 3], [], [0, 3, 4], []]), (21, [[], [], [], [2], [2, 3], [], [], [], [2, 3, 4, 6], [2, 3, 4, 6, 8], []])]⟩
def c110 : FCert := ⟨[], true, [(3, [(0, 0), (5, 0), (6, 0)])], []⟩
def c111 : FCert := ⟨[], true, [], []⟩
def c112 : FCert := ⟨[], true, [], []⟩
def c113 : FCert := ⟨[], true, [], [(3, [[], [], [1], [1, 2], [1, 2, 3], [], [], [6], [6, 7], [6, 7, 8], [], [], [], [], []])]⟩
def c114 : FCert := ⟨[], true, [(4, [(0, 0), (3, 0)])], []⟩
def c115 : FCert := ⟨[false, true], true, [], []⟩
def c116 : FCert := ⟨[], true, [(3, [(0, 0), (3, 0), (7, 0), (8, 0)]), (7, [(0, 0), (3, 0), (7, 0), (8, 0), (17, 0)])], []⟩
def c117 : FCert := ⟨[], true, [(3, [(0, 0), (3, 0), (4, 0)])], []⟩
def c118 : FCert := ⟨[], true, [(3, [(0, 0), (1, 0), (2, 0), (8, 0), (9, 0), (10, 0)])], []⟩
def c119 : FCert := ⟨[], true, [], []⟩
def c120 : FCert := ⟨[], true, [], []⟩
def c121 : FCert := ⟨[true, false, true], true, [], []⟩
def c124 : FCert := ⟨[], true, [], [(12, [[], [], [], [], [], [4], [], [], [], [], [4, 5, 9], []]), (14, [[], [], [], [], [], [], [], [], [], [2, 6], [], []])]⟩
def c125 : FCert := ⟨[], true, [], [(5, [[], [], [], [], [], [], [], [], [], [], [], [], [], [], [], [], [], [], [2], [2, 18], [], [0, 2, 18, 19], []])]⟩
def c126 : FCert := ⟨[], true, [], [(3, [[], [], [1], [], [], [1, 2, 4], [], [], [], [1, 2, 4, 5, 8], [], [], [1, 2, 4, 5, 8, 9], []])]⟩
def c127 : FCert := ⟨[], true, [], [(2, [[], [], [1], [1, 2], [], [], [5], [5, 6], [], [], [], [], [11], [11, 12], [], [], [], [], [17], [17, 18], [], [], []])]⟩
def c128 : FCert := ⟨[], true, [], []⟩
def c129 : FCert := ⟨[], true, [], []⟩
def c130 : FCert := ⟨[], true, [], []⟩
def c131 : FCert := ⟨[], true, [(3, [(0, 0), (3, 0), (4, 0)]), (7, [(0, 0), (3, 0), (4, 0), (5, 0)])], []⟩
def c132 : FCert := ⟨[], true, [], []⟩
def c136 : FCert := ⟨[], true, [], []⟩
def c137 : FCert := ⟨[], true, [], []⟩
def c138 : FCert := ⟨[], true, [], []⟩
def c139 : FCert := ⟨[], true, [], []⟩
set_option maxRecDepth 100000
def C0 : Cert := fun f => if f = 5 then c5 else if f = 6 then c6 else if f = 8 then c8 else if f = 10 then c10 else if f = 11 then c11 else if f = 12 then c12 else if f = 13 then c13 else if f = 14 then c14 else if f = 15 then c15 else if f = 16 then c16 else if f = 17 then c17 else if f = 18 then c18 else if f = 19 then c19 else if f = 20 then c20 else if f = 21 then c21 else if f = 22 then c22 else if f = 23 then c23 else if f = 24 then c24 else if f = 25 then c25 else if f = 26 then c26 else if f = 27 then c27 else if f = 28 then c28 else if f = 29 then c29 else if f = 30 then c30 else if f = 31 then c31 else if f = 32 then c32 else if f = 33 then c33 else if f = 34 then c34 else if f = 35 then c35 else if f = 36 then c36 else if f = 37 then c37 else if f = 38 then c38 else if f = 39 then c39 else if f = 40 then c40 else if f = 41 then c41 else if f = 42 then c42 else if f = 43 then c43 else if f = 44 then c44 else if f = 45 then c45 else if f = 46 then c46 else if f = 47 then c47 else if f = 48 then c48 else if f = 49 then c49 else if f = 50 then c50 else if f = 51 then c51 else if f = 52 then c52 else if f = 53 then c53 else if f = 54 then c54 else if f = 55 then c55 else if f = 56 then c56 else if f = 57 then c57 else if f = 58 then c58 else if f = 59 then c59 else if f = 60 then c60 else if f = 61 then c61 else if f = 62 then c62 else if f = 63 then c63 else if f = 64 then c64 else if f = 65 then c65 else if f = 66 then c66 else if f = 67 then c67 else if f = 68 then c68 else if f = 69 then c69 else if f = 70 then c70 else if f = 71 then c71 else if f = 72 then c72 else if f = 73 then c73 else if f = 74 then c74 else if f = 75 then c75 else if f = 76 then c76 else if f = 77 then c77 else if f = 78 then c78 else if f = 79 then c79 else if f = 80 then c80 else if f = 81 then c81 else if f = 82 then c82 else if f = 83 then c83 else if f = 84 then c84 else if f = 85 then c85 else if f = 86 then c86 else if f = 87 then c87 else if f = 88 then c88 else if f = 89 then c89 else if f = 90 then c90 else if f = 91 then c91 else if f = 92 then c92 else if f = 93 then c93 else if f = 94 then c94 else if f = 95 then c95 else if f = 96 then c96 else if f = 97 then c97 else if f = 98 then c98 else if f = 99 then c99 else if f = 100 then c100 else if f = 101 then c101 else if f = 102 then c102 else if f = 103 then c103 else if f = 104 then c104 else if f = 105 then c105 else if f = 106 then c106 else if f = 107 then c107 else if f = 108 then c108 else if f = 109 then c109 else if f = 110 then c110 else if f = 111 then c111 else if f = 112 then c112 else if f = 113 then c113 else if f = 114 then c114 else if f = 115 then c115 else if f = 116 then c116 else if f = 117 then c117 else if f = 118 then c118 else if f = 119 then c119 else if f = 120 then c120 else if f = 121 then c121 else if f = 124 then c124 else if f = 125 then c125 else if f = 126 then c126 else if f = 127 then c127 else if f = 128 then c128 else if f = 129 then c129 else if f = 130 then c130 else if f = 131 then c131 else if f = 132 then c132 else if f = 136 then c136 else if f = 137 then c137 else if f = 138 then c138 else if f = 139 then c139 else ⟨[], false, [], []⟩
def P0 : FuncId → Option (List T → List Ob → Option (T × List Ob)) := fun f => if f = 132 then some (cmpD) else if f = 121 then some (insD 2 32) else if f = 100 then some (delD 2) else if f = 103 then some (insD 4 56) else none
def f19 (k : Nat) (a0_0 : List Int) : Option (Bool) := some (decide (1048576 < (a0_0.length : Int)))
def f54 (k : Nat) (a0_0 : List Int) : Option ((List Int) × Int) := some (a0_0, 0)
def f102 (k : Nat) (o0_0 : List Int) (o0_1 : Int) : Option (Int × Int) := (if (o0_0.length : Int) ≤ o0_1 then some (0, o0_1) else (if 0 ≤ (IntKind.i64.wrap ((IntKind.i64.wrap (o0_1 + 1)) - 1)) then (if (IntKind.i64.wrap ((IntKind.i64.wrap (o0_1 + 1)) - 1)) < (o0_0.length : Int) then some ((IntKind.i64.wrap (at' o0_0 (IntKind.i64.wrap ((IntKind.i64.wrap (o0_1 + 1)) - 1)))), (IntKind.i64.wrap (o0_1 + 1))) else none) else none))
def f63 (k : Nat) (a1_0 : Int) (o0_0 : List Int) (o0_1 : Int) : Option (Int × Int) := (if a1_0 ≤ 1 then some (0, o0_1) else (if a1_0 ≤ 256 then ((f102 k o0_0 o0_1).bind fun t1 => (if a1_0 ≠ 0 then some ((t1.1.tmod a1_0), t1.2) else none)) else ((f102 k o0_0 o0_1).bind fun t2 => ((f102 k o0_0 t2.2).bind fun t3 => (if a1_0 ≠ 0 then some (((IntKind.i64.wrap ((IntKind.i64.wrap (t2.1 * 256)) + t3.1)).tmod a1_0), t3.2) else none)))))
def f95 (k : Nat) (a1_0 : Int) (a2_0 : Int) (o0_0 : List Int) (o0_1 : Int) : Option (Int × Int) := (if a1_0 ≠ 0 then (if a2_0 < (IntKind.i64.wrap (1 + (IntKind.i64.wrap ((o0_0.length : Int).tdiv a1_0)))) then ((f63 k a2_0 o0_0 o0_1).bind fun t1 => some ((IntKind.i64.wrap (1 + t1.1)), t1.2)) else ((f63 k (IntKind.i64.wrap (1 + (IntKind.i64.wrap ((o0_0.length : Int).tdiv a1_0)))) o0_0 o0_1).bind fun t2 => some ((IntKind.i64.wrap (1 + t2.1)), t2.2))) else none)
def f56 (k : Nat) (a1_0 : Int) (o0_0 : List Int) (o0_1 : Int) : Option (Bool × Int) := ((f63 k a1_0 o0_0 o0_1).bind fun t1 => some (decide (t1.1 = (IntKind.i64.wrap (a1_0 - 1))), t1.2))
def f84 (k : Nat) (a0_0 : ByteArray) : Option (Bool) := (if 1 ≤ (a0_0.size : Int) then some (decide ((a0_0.size : Int) ≤ 100)) else some false)
def f43.l5 : Nat → (List S80) → Int → Int → Option (Bool)
  | 0, _, _, _ => none
  | k + 1, x0, x3, x4 => (if x4 < (x0.length : Int) then (if 0 ≤ x4 then ((f84 k ((at' x0 x4).f0)).bind fun t1 => (if t1 = true then (if 0 < x4 then (if 0 ≤ (IntKind.i64.wrap (x4 - 1)) then (if (IntKind.i64.wrap (x4 - 1)) < (x0.length : Int) then (if (strLt ((at' x0 x4).f0) ((at' x0 (IntKind.i64.wrap (x4 - 1))).f0) || strEq ((at' x0 x4).f0) ((at' x0 (IntKind.i64.wrap (x4 - 1))).f0)) = true then some false else (f43.l5 k x0 (IntKind.i64.wrap (x3 + (((at' x0 x4).f1).size : Int))) (IntKind.i64.wrap (x4 + 1)))) else none) else none) else (f43.l5 k x0 (IntKind.i64.wrap (x3 + (((at' x0 x4).f1).size : Int))) (IntKind.i64.wrap (x4 + 1)))) else some false)) else none) else some (decide (x3 ≤ 200000)))
def f43 (k : Nat) (a0_0 : List S80) : Option (Bool) := (if 60 < (a0_0.length : Int) then some false else (f43.l5 k a0_0 0 0))
def stf43_5 (x0 : List S80) (x3 : Int) (x4 : Int) : St := ⟨[T.sl (List.map e80 x0) [], T.dead, T.dead, T.sc (.int .i64 x3), T.sc (.int .i64 x4), T.dead, T.dead, T.dead, T.dead, T.dead, T.dead, T.dead, T.dead, T.dead, T.dead, T.dead, T.dead, T.dead, T.dead, T.dead, T.dead, T.dead, T.dead, T.dead, T.dead, T.dead, T.dead, T.dead, T.dead, T.dead, T.dead, T.dead, T.dead, T.dead, T.dead, T.dead, T.dead, T.dead, T.dead, T.dead, T.dead, T.dead, T.dead, T.dead, T.dead, T.dead, T.dead, T.dead, T.dead], [], 0, 0⟩
def f52.l2 : Nat → (List S80) → ByteArray → Int → Option (Int)
  | 0, _, _, _ => none
  | k + 1, x0, x1, x5 => (if x5 < (x0.length : Int) then (if 0 ≤ x5 then (if strEq ((at' x0 x5).f0) x1 = true then some x5 else (f52.l2 k x0 x1 (IntKind.i64.wrap (x5 + 1)))) else none) else some (-1))
def f52 (k : Nat) (a0_0 : List S80) (a1_0 : ByteArray) : Option (Int) := (f52.l2 k a0_0 a1_0 0)
def stf52_2 (x0 : List S80) (x1 : ByteArray) (x5 : Int) : St := ⟨[T.sl (List.map e80 x0) [], T.sc (.string x1), T.dead, T.dead, T.dead, T.sc (.int .i64 x5), T.dead, T.dead, T.dead, T.dead, T.dead, T.dead, T.dead, T.dead, T.dead, T.dead, T.dead, T.dead, T.dead, T.dead], [], 0, 0⟩
def f85.l4 : Nat → (List S80) → (List S80) → ByteArray → ByteArray → Bool → Int → Option ((List S80))
  | 0, _, _, _, _, _, _ => none
  | k + 1, q0, x0, x1, x2, x8, x9 => (if x9 < (x0.length : Int) then (if x8 = true then (if 0 ≤ x9 then (if strEq ((at' x0 x9).f0) x1 = true then (f85.l4 k q0 x0 x1 x2 x8 (IntKind.i64.wrap (x9 + 1))) else (if (q0.length + 1) * 32 ≤ 70368744177664 then (if q0.length + 1 ≤ 70368744177664 then (f85.l4 k (q0 ++ ([(⟨(at' x0 x9).f0, (at' x0 x9).f1⟩ : S80)] : List S80)) x0 x1 x2 x8 (IntKind.i64.wrap (x9 + 1))) else none) else none)) else none) else (if 0 ≤ x9 then (if strLt ((at' x0 x9).f0) x1 = true then (if strEq ((at' x0 x9).f0) x1 = true then (f85.l4 k q0 x0 x1 x2 x8 (IntKind.i64.wrap (x9 + 1))) else (if (q0.length + 1) * 32 ≤ 70368744177664 then (if q0.length + 1 ≤ 70368744177664 then (f85.l4 k (q0 ++ ([(⟨(at' x0 x9).f0, (at' x0 x9).f1⟩ : S80)] : List S80)) x0 x1 x2 x8 (IntKind.i64.wrap (x9 + 1))) else none) else none)) else (if (q0.length + 1) * 32 ≤ 70368744177664 then (if q0.length + 1 ≤ 70368744177664 then (if strEq ((at' x0 x9).f0) x1 = true then (f85.l4 k (q0 ++ ([(⟨x1, x2⟩ : S80)] : List S80)) x0 x1 x2 true (IntKind.i64.wrap (x9 + 1))) else (if (q0.length + 2) * 32 ≤ 70368744177664 then (if q0.length + 2 ≤ 70368744177664 then (f85.l4 k ((q0 ++ ([(⟨x1, x2⟩ : S80)] : List S80)) ++ ([(⟨(at' x0 x9).f0, (at' x0 x9).f1⟩ : S80)] : List S80)) x0 x1 x2 true (IntKind.i64.wrap (x9 + 1))) else none) else none)) else none) else none)) else none)) else (if x8 = true then some q0 else (if (q0.length + 1) * 32 ≤ 70368744177664 then (if q0.length + 1 ≤ 70368744177664 then some (q0 ++ ([(⟨x1, x2⟩ : S80)] : List S80)) else none) else none)))
def f85 (k : Nat) (a0_0 : List S80) (a1_0 : ByteArray) (a2_0 : ByteArray) : Option ((List S80)) := (f85.l4 k ([] : List S80) a0_0 a1_0 a2_0 false 0)
def stf85_4 (q0 : List S80) (x0 : List S80) (x1 : ByteArray) (x2 : ByteArray) (x8 : Bool) (x9 : Int) : St := ⟨[T.sl (List.map e80 x0) [], T.sc (.string x1), T.sc (.string x2), T.dead, T.dead, T.dead, T.dead, T.win 0 0 q0.length, T.sc (.bool x8), T.sc (.int .i64 x9), T.dead, T.dead, T.dead, T.dead, T.dead, T.dead, T.dead, T.dead, T.dead, T.dead, T.dead, T.dead, T.dead, T.dead, T.dead, T.dead, T.dead, T.dead, T.dead, T.dead, T.dead, T.dead, T.dead, T.dead, T.dead, T.dead, T.dead, T.dead, T.dead, T.dead, T.dead, T.dead, T.dead, T.dead, T.dead, T.dead, T.dead, T.dead, T.dead, T.dead, T.dead, T.dead, T.dead, T.dead, T.dead, T.dead, T.dead], [(0, Ob.mkRow 2 (List.map e80 q0))], 1, 0⟩
def f86.l3 : Nat → (List S80) → (List S80) → ByteArray → Int → Option ((List S80))
  | 0, _, _, _, _ => none
  | k + 1, q0, x0, x1, x6 => (if x6 < (x0.length : Int) then (if 0 ≤ x6 then (if strEq ((at' x0 x6).f0) x1 = true then (f86.l3 k q0 x0 x1 (IntKind.i64.wrap (x6 + 1))) else (if (q0.length + 1) * 32 ≤ 70368744177664 then (if q0.length + 1 ≤ 70368744177664 then (f86.l3 k (q0 ++ ([(⟨(at' x0 x6).f0, (at' x0 x6).f1⟩ : S80)] : List S80)) x0 x1 (IntKind.i64.wrap (x6 + 1))) else none) else none)) else none) else some q0)
def f86 (k : Nat) (a0_0 : List S80) (a1_0 : ByteArray) : Option ((List S80)) := (f86.l3 k ([] : List S80) a0_0 a1_0 0)
def stf86_3 (q0 : List S80) (x0 : List S80) (x1 : ByteArray) (x6 : Int) : St := ⟨[T.sl (List.map e80 x0) [], T.sc (.string x1), T.dead, T.dead, T.dead, T.win 0 0 q0.length, T.sc (.int .i64 x6), T.dead, T.dead, T.dead, T.dead, T.dead, T.dead, T.dead, T.dead, T.dead, T.dead, T.dead, T.dead, T.dead, T.dead, T.dead, T.dead, T.dead, T.dead, T.dead, T.dead, T.dead, T.dead], [(0, Ob.mkRow 2 (List.map e80 q0))], 1, 0⟩
def f44 (k : Nat) (a0_0 : List S80) (a1_0 : Int) (a1_1 : ByteArray) (a1_2 : ByteArray) (a1_3 : ByteArray) : Option (Bool × (List S80)) := ((f52 k a0_0 a1_1).bind fun t1 => (if a1_0 = 1 then (if 0 ≤ t1 then (if t1 < (a0_0.length : Int) then (if ((at' a0_0 t1).f1).size + a1_3.size ≤ 9223372036854775807 then ((f85 k a0_0 a1_1 ((at' a0_0 t1).f1 ++ a1_3)).bind fun t2 => some (true, t2)) else none) else none) else ((f85 k a0_0 a1_1 a1_3).bind fun t3 => some (true, t3))) else (if t1 < 0 then (if a0_0.length * 32 ≤ 70368744177664 then (if a0_0.length ≤ 70368744177664 then some (false, a0_0) else none) else none) else ((f86 k a0_0 a1_1).bind fun t4 => (if a1_0 = 2 then (if 0 ≤ t1 then (if t1 < (a0_0.length : Int) then ((f85 k t4 a1_2 ((at' a0_0 t1).f1)).bind fun t5 => some (true, t5)) else none) else none) else some (true, t4))))))
def f58 (k : Nat) (a0_0 : Int) (a1_0 : Int) (a2_0 : Int) : Option (Bool) := (if a1_0 ≤ a0_0 then some (decide (a0_0 ≤ a2_0)) else some false)
def f45 (k : Nat) (a0_0 : Int) (a0_1 : ByteArray) (a0_2 : ByteArray) (a0_3 : ByteArray) : Option (Bool) := ((f58 k a0_0 1 3).bind fun t1 => (if t1 = true then ((f84 k a0_1).bind fun t2 => (if t2 = true then (if a0_0 = 2 then ((f84 k a0_2).bind fun t3 => (if t3 = true then some (strEq a0_3 (⟨#[]⟩ : ByteArray)) else some false)) else (if strEq a0_2 (⟨#[]⟩ : ByteArray) = true then (if a0_0 = 1 then some true else some (strEq a0_3 (⟨#[]⟩ : ByteArray))) else some false)) else some false)) else some false))
def f46.l4 : Nat → (List S80) → (List S80) → Int → Option (Bool)
  | 0, _, _, _ => none
  | k + 1, x0, x1, x5 => (if x5 < (x0.length : Int) then (if 0 ≤ x5 then (if x5 < (x1.length : Int) then (if (strEq ((at' x0 x5).f0) ((at' x1 x5).f0) && strEq ((at' x0 x5).f1) ((at' x1 x5).f1)) = true then (f46.l4 k x0 x1 (IntKind.i64.wrap (x5 + 1))) else some false) else none) else none) else some true)
def f46 (k : Nat) (a0_0 : List S80) (a1_0 : List S80) : Option (Bool) := (if (a0_0.length : Int) = (a1_0.length : Int) then (f46.l4 k a0_0 a1_0 0) else some false)
def stf46_4 (x0 : List S80) (x1 : List S80) (x5 : Int) : St := ⟨[T.sl (List.map e80 x0) [], T.sl (List.map e80 x1) [], T.dead, T.dead, T.dead, T.sc (.int .i64 x5), T.dead, T.dead, T.dead, T.dead, T.dead, T.dead, T.dead, T.dead, T.dead, T.dead, T.dead, T.dead, T.dead, T.dead, T.dead, T.dead, T.dead, T.dead, T.dead, T.dead], [], 0, 0⟩
def f13.l5 : Nat → (List S80) → Int → (List S80) → (List S80) → (List S73) → Option (Bool)
  | 0, _, _, _, _, _ => none
  | k + 1, x3, x4, b0_0, b0_1, b0_2 => (if x4 < (b0_2.length : Int) then (if 0 ≤ x4 then ((f44 k x3 ((at' b0_2 x4).f0) ((at' b0_2 x4).f1) ((at' b0_2 x4).f2) ((at' b0_2 x4).f3)).bind fun t3 => (if t3.1 = true then ((f45 k ((at' b0_2 x4).f0) ((at' b0_2 x4).f1) ((at' b0_2 x4).f2) ((at' b0_2 x4).f3)).bind fun t4 => (if t4 = true then ((f43 k t3.2).bind fun t5 => (if t5 = true then (f13.l5 k t3.2 (IntKind.i64.wrap (x4 + 1)) b0_0 b0_1 b0_2) else some false)) else some false)) else some false)) else none) else ((f46 k x3 b0_0).bind fun t6 => some t6))
def f13 (k : Nat) (a0_0 : List S80) (a0_1 : List S80) (a0_2 : List S73) : Option (Bool) := ((f43 k a0_0).bind fun t1 => (if t1 = true then ((f43 k a0_1).bind fun t2 => (if t2 = true then (if 200 < (a0_2.length : Int) then some false else (f13.l5 k a0_1 0 a0_0 a0_1 a0_2)) else some false)) else some false))
def stf13_5 (x3 : List S80) (x4 : Int) (b0_0 : List S80) (b0_1 : List S80) (b0_2 : List S73) : St := ⟨[T.dead, T.ptr 0 0 0, T.dead, T.sl (List.map e80 x3) [], T.sc (.int .i64 x4), T.dead, T.dead, T.dead, T.dead, T.dead, T.dead, T.dead, T.dead, T.dead, T.dead, T.dead, T.dead, T.dead, T.dead, T.dead, T.dead, T.dead, T.dead, T.dead, T.dead, T.dead, T.dead, T.dead, T.dead, T.dead, T.dead, T.dead, T.dead, T.dead, T.dead, T.dead, T.dead, T.dead, T.dead, T.dead, T.dead, T.dead, T.dead, T.dead, T.dead, T.dead, T.dead, T.dead, T.dead, T.dead, T.dead, T.dead, T.dead, T.dead, T.dead, T.dead, T.dead, T.dead, T.dead, T.dead, T.dead, T.dead, T.dead], [(0, Ob.mkBox 3 (T.agg [T.sl (List.map e80 b0_0) [], T.sl (List.map e80 b0_1) [], T.sl (List.map e73 b0_2) []]))], 1, 0⟩
def f28 (k : Nat) (a0_0 : List S80) (a0_1 : List S80) (a0_2 : List S73) : Option ((List S80) × (List S80) × (List S73)) := ((f13 k a0_0 a0_1 a0_2).bind fun t1 => (if t1 = true then (if a0_0.length * 32 ≤ 70368744177664 then (if a0_0.length ≤ 70368744177664 then some (a0_0, a0_0, ([] : List S73)) else none) else none) else some (([] : List S80), ([] : List S80), ([] : List S73))))
def f64 (k : Nat) (o0_0 : List Int) (o0_1 : Int) : Option (ByteArray × Int) := ((f63 k 8 o0_0 o0_1).bind fun t1 => (if 0 ≤ t1.1 then (if t1.1 < 8 then some ((at' ([(⟨#[]⟩ : ByteArray), (⟨#[97]⟩ : ByteArray), (⟨#[98]⟩ : ByteArray), (⟨#[97, 98, 99]⟩ : ByteArray), (⟨#[108, 97, 121, 101, 114]⟩ : ByteArray), (⟨#[99, 111, 110, 102, 105, 103]⟩ : ByteArray), (⟨#[122, 122, 57]⟩ : ByteArray), (⟨#[48]⟩ : ByteArray)] : List ByteArray) t1.1), t1.2) else none) else none))
def f97 (k : Nat) (o0_0 : List Int) (o0_1 : Int) : Option (Int × ByteArray × ByteArray × ByteArray × Int) := ((f63 k 4 o0_0 o0_1).bind fun t1 => (if 0 ≤ t1.1 then (if t1.1 < 4 then ((f63 k 5 o0_0 t1.2).bind fun t2 => (if t2.1 = 0 then ((f63 k 3 o0_0 t2.2).bind fun t3 => (if 0 ≤ t3.1 then (if t3.1 < 3 then some (2, (at' ([(⟨#[108, 111, 103]⟩ : ByteArray), (⟨#[118, 111, 116, 101]⟩ : ByteArray), (⟨#[118, 111, 116, 101, 46, 110, 101, 119]⟩ : ByteArray), (⟨#[98]⟩ : ByteArray)] : List ByteArray) t1.1), (at' ([(⟨#[108, 111, 103]⟩ : ByteArray), (⟨#[118, 111, 116, 101]⟩ : ByteArray), (⟨#[99]⟩ : ByteArray)] : List ByteArray) t3.1), (⟨#[]⟩ : ByteArray), t3.2) else none) else none)) else (if t2.1 = 1 then some (3, (at' ([(⟨#[108, 111, 103]⟩ : ByteArray), (⟨#[118, 111, 116, 101]⟩ : ByteArray), (⟨#[118, 111, 116, 101, 46, 110, 101, 119]⟩ : ByteArray), (⟨#[98]⟩ : ByteArray)] : List ByteArray) t1.1), (⟨#[]⟩ : ByteArray), (⟨#[]⟩ : ByteArray), t2.2) else ((f64 k o0_0 t2.2).bind fun t4 => some (1, (at' ([(⟨#[108, 111, 103]⟩ : ByteArray), (⟨#[118, 111, 116, 101]⟩ : ByteArray), (⟨#[118, 111, 116, 101, 46, 110, 101, 119]⟩ : ByteArray), (⟨#[98]⟩ : ByteArray)] : List ByteArray) t1.1), (⟨#[]⟩ : ByteArray), t4.1, t4.2))))) else none) else none))
def f66 (k : Nat) (a0_0 : List S80) (a0_1 : List S80) (a0_2 : List S73) : Option ((List S80) × (List S80) × (List S73)) := (if a0_0.length * 32 ≤ 70368744177664 then (if a0_0.length ≤ 70368744177664 then (if a0_1.length * 32 ≤ 70368744177664 then (if a0_1.length ≤ 70368744177664 then (if a0_2.length * 56 ≤ 70368744177664 then (if a0_2.length ≤ 70368744177664 then some (a0_0, a0_1, a0_2) else none) else none) else none) else none) else none) else none)
def f65 (k : Nat) (a0_0 : List S80) (a0_1 : List S80) (a0_2 : List S73) (a1_0 : Int) (a1_1 : ByteArray) (a1_2 : ByteArray) (a1_3 : ByteArray) : Option (Int × (List S80) × (List S80) × (List S73)) := ((f45 k a1_0 a1_1 a1_2 a1_3).bind fun t1 => (if t1 = true then ((f44 k a0_0 a1_0 a1_1 a1_2 a1_3).bind fun t2 => (if t2.1 = true then (if (a0_2.length : Int) = 200 then ((f66 k a0_0 a0_1 a0_2).bind fun t3 => some (4, t3.1, t3.2.1, t3.2.2)) else ((f43 k t2.2).bind fun t4 => (if t4 = true then ((f66 k a0_0 a0_1 a0_2).bind fun t5 => (if (t5.2.2.length + 1) * 56 ≤ 70368744177664 then (if t5.2.2.length + 1 ≤ 70368744177664 then some (0, t2.2, t5.2.1, (t5.2.2 ++ ([(⟨a1_0, a1_1, a1_2, a1_3⟩ : S73)] : List S73))) else none) else none)) else ((f66 k a0_0 a0_1 a0_2).bind fun t6 => some (4, t6.1, t6.2.1, t6.2.2))))) else ((f66 k a0_0 a0_1 a0_2).bind fun t7 => some (3, t7.1, t7.2.1, t7.2.2)))) else ((f66 k a0_0 a0_1 a0_2).bind fun t8 => some (2, t8.1, t8.2.1, t8.2.2))))
def f96 (k : Nat) (a0_0 : List S80) (a0_1 : List S80) (a0_2 : List S73) (a1_0 : Int) (a1_1 : ByteArray) (a1_2 : ByteArray) (a1_3 : ByteArray) : Option (Int × (List S80) × (List S80) × (List S73)) := ((f13 k a0_0 a0_1 a0_2).bind fun t1 => (if t1 = true then ((f65 k a0_0 a0_1 a0_2 a1_0 a1_1 a1_2 a1_3).bind fun t2 => some (t2.1, t2.2.1, t2.2.2.1, t2.2.2.2)) else some (1, ([] : List S80), ([] : List S80), ([] : List S73))))
mutual
def f55.l3 : Nat → Int → (List Int) → Int → Option ((List S80) × (List S80) × (List S73) × (List Int) × Int)
  | 0, _, _, _ => none
  | k + 1, x4, b0_0, b0_1 => (if 0 < x4 then ((f56 k 5 b0_0 b0_1).bind fun t2 => (if t2.1 = true then ((f28 k ([] : List S80) ([] : List S80) ([] : List S73)).bind fun t3 => (f55.l3v1 k t3.1 t3.2.1 t3.2.2 (IntKind.i64.wrap (x4 - 1)) b0_0 t2.2)) else ((f97 k b0_0 t2.2).bind fun t10 => ((f96 k ([] : List S80) ([] : List S80) ([] : List S73) t10.1 t10.2.1 t10.2.2.1 t10.2.2.2.1).bind fun t11 => (if t11.1 = 0 then (f55.l3v1 k t11.2.1 t11.2.2.1 t11.2.2.2 (IntKind.i64.wrap (x4 - 1)) b0_0 t10.2.2.2.2) else (f55.l3 k (IntKind.i64.wrap (x4 - 1)) b0_0 t10.2.2.2.2)))))) else ((f63 k 40 b0_0 b0_1).bind fun t12 => (if t12.1 = 0 then (if 1 * 32 ≤ 70368744177664 then some (([(⟨(⟨#[122, 122]⟩ : ByteArray), (⟨#[]⟩ : ByteArray)⟩ : S80)] : List S80), ([] : List S80), ([] : List S73), b0_0, t12.2) else none) else (if t12.1 = 1 then some (([] : List S80), ([] : List S80), ([] : List S73), b0_0, t12.2) else (if t12.1 = 2 then ((f63 k 9 b0_0 t12.2).bind fun t13 => (if 0 ≤ (IntKind.i64.wrap (200000 - t13.1)) then (if (IntKind.i64.wrap (200000 - t13.1)) ≤ (IntKind.i64.wrap (200000 - t13.1)) then (if (IntKind.i64.wrap (200000 - t13.1)) * 1 ≤ 70368744177664 then (if (IntKind.i64.wrap (200000 - t13.1)) ≤ 70368744177664 then some (([(⟨(⟨#[98, 105, 103]⟩ : ByteArray), (strOf (List.replicate (IntKind.i64.wrap (200000 - t13.1)).toNat 0))⟩ : S80)] : List S80), ([(⟨(⟨#[98, 105, 103]⟩ : ByteArray), (strOf (List.replicate (IntKind.i64.wrap (200000 - t13.1)).toNat 0))⟩ : S80)] : List S80), ([] : List S73), b0_0, t13.2) else none) else none) else none) else none)) else some (([] : List S80), ([] : List S80), ([] : List S73), b0_0, t12.2))))))
def f55.l3v1 : Nat → (List S80) → (List S80) → (List S73) → Int → (List Int) → Int → Option ((List S80) × (List S80) × (List S73) × (List Int) × Int)
  | 0, _, _, _, _, _, _ => none
  | k + 1, q3, q4, q5, x4, b0_0, b0_1 => (if 0 < x4 then ((f56 k 5 b0_0 b0_1).bind fun t4 => (if t4.1 = true then ((f28 k q3 q4 q5).bind fun t5 => (f55.l3v1 k t5.1 t5.2.1 t5.2.2 (IntKind.i64.wrap (x4 - 1)) b0_0 t4.2)) else ((f97 k b0_0 t4.2).bind fun t6 => ((f96 k q3 q4 q5 t6.1 t6.2.1 t6.2.2.1 t6.2.2.2.1).bind fun t7 => (if t7.1 = 0 then (f55.l3v1 k t7.2.1 t7.2.2.1 t7.2.2.2 (IntKind.i64.wrap (x4 - 1)) b0_0 t6.2.2.2.2) else (f55.l3v1 k q3 q4 q5 (IntKind.i64.wrap (x4 - 1)) b0_0 t6.2.2.2.2)))))) else ((f63 k 40 b0_0 b0_1).bind fun t8 => (if t8.1 = 0 then (if (q3.length + 1) * 32 ≤ 70368744177664 then (if q3.length + 1 ≤ 70368744177664 then some ((q3 ++ ([(⟨(⟨#[122, 122]⟩ : ByteArray), (⟨#[]⟩ : ByteArray)⟩ : S80)] : List S80)), q4, q5, b0_0, t8.2) else none) else none) else (if t8.1 = 1 then (if 0 < ((q5.length : Nat) : Int) then (if 1 ≤ ((q5.length : Nat) : Int) then some (q3, q4, ((q5.drop 1).take (q5.length - 1)), b0_0, t8.2) else none) else some (q3, q4, q5, b0_0, t8.2)) else (if t8.1 = 2 then ((f63 k 9 b0_0 t8.2).bind fun t9 => (if 0 ≤ (IntKind.i64.wrap (200000 - t9.1)) then (if (IntKind.i64.wrap (200000 - t9.1)) ≤ (IntKind.i64.wrap (200000 - t9.1)) then (if (IntKind.i64.wrap (200000 - t9.1)) * 1 ≤ 70368744177664 then (if (IntKind.i64.wrap (200000 - t9.1)) ≤ 70368744177664 then some (([(⟨(⟨#[98, 105, 103]⟩ : ByteArray), (strOf (List.replicate (IntKind.i64.wrap (200000 - t9.1)).toNat 0))⟩ : S80)] : List S80), ([(⟨(⟨#[98, 105, 103]⟩ : ByteArray), (strOf (List.replicate (IntKind.i64.wrap (200000 - t9.1)).toNat 0))⟩ : S80)] : List S80), ([] : List S73), b0_0, t9.2) else none) else none) else none) else none)) else some (q3, q4, q5, b0_0, t8.2))))))
end
def f55 (k : Nat) (o0_0 : List Int) (o0_1 : Int) : Option ((List S80) × (List S80) × (List S73) × (List Int) × Int) := ((f95 k 3 10 o0_0 o0_1).bind fun t1 => (f55.l3 k t1.1 o0_0 t1.2))
def stf55_3 (x4 : Int) (b0_0 : List Int) (b0_1 : Int) : St := ⟨[T.ptr 0 0 0, T.dead, T.ptr 1 0 0, T.ptr 2 0 0, T.sc (.int .i64 x4), T.dead, T.dead, T.dead, T.dead, T.dead, T.dead, T.dead, T.dead, T.dead, T.dead, T.dead, T.dead, T.dead, T.dead, T.dead, T.dead, T.dead, T.dead, T.dead, T.dead, T.dead, T.dead, T.dead, T.dead, T.dead, T.dead, T.dead, T.dead, T.dead, T.dead, T.dead, T.dead, T.dead, T.dead, T.dead, T.dead, T.dead, T.dead, T.dead, T.dead, T.dead, T.dead, T.dead, T.dead, T.dead, T.dead, T.dead, T.dead, T.dead, T.dead, T.dead, T.dead, T.dead, T.dead, T.dead, T.dead, T.dead], [(0, Ob.mkBox 2 (T.agg [T.sl (List.map e_u8 b0_0) [], T.sc (.int .i64 b0_1)])), (1, Ob.mkBox 3 (T.agg [T.nil, T.nil, T.nil])), (2, Ob.mkBox 3 (T.agg [T.nil, T.nil, T.nil]))], 3, 1⟩
def stf55_3v1 (q3 : List S80) (q4 : List S80) (q5 : List S73) (x4 : Int) (b0_0 : List Int) (b0_1 : Int) : St := ⟨[T.ptr 0 0 0, T.dead, T.ptr 1 0 0, T.ptr 2 0 0, T.sc (.int .i64 x4), T.dead, T.dead, T.dead, T.dead, T.dead, T.dead, T.dead, T.dead, T.dead, T.dead, T.dead, T.dead, T.dead, T.dead, T.dead, T.dead, T.dead, T.dead, T.dead, T.dead, T.dead, T.dead, T.dead, T.dead, T.dead, T.dead, T.dead, T.dead, T.dead, T.dead, T.dead, T.dead, T.dead, T.dead, T.dead, T.dead, T.dead, T.dead, T.dead, T.dead, T.dead, T.dead, T.dead, T.dead, T.dead, T.dead, T.dead, T.dead, T.dead, T.dead, T.dead, T.dead, T.dead, T.dead, T.dead, T.dead, T.dead], [(0, Ob.mkBox 2 (T.agg [T.sl (List.map e_u8 b0_0) [], T.sc (.int .i64 b0_1)])), (1, Ob.mkBox 3 (T.agg [T.nil, T.nil, T.nil])), (2, Ob.mkBox 3 (T.agg [T.win 3 0 q3.length, T.win 4 0 q4.length, T.win 5 0 q5.length])), (3, Ob.mkRow 2 (List.map e80 q3)), (4, Ob.mkRow 2 (List.map e80 q4)), (5, Ob.mkRow 4 (List.map e73 q5))], 6, 1⟩
def f117.l3 : Nat → Int → Int → (List Int) → Int → Option (Int × (List Int) × Int)
  | 0, _, _, _, _ => none
  | k + 1, x3, x4, b0_0, b0_1 => (if x4 < 8 then ((f102 k b0_0 b0_1).bind fun t1 => (f117.l3 k (orI .u64 (shlI .u64 x3 8) (IntKind.u64.wrap t1.1)) (IntKind.i64.wrap (x4 + 1)) b0_0 t1.2)) else some (x3, b0_0, b0_1))
def f117 (k : Nat) (o0_0 : List Int) (o0_1 : Int) : Option (Int × (List Int) × Int) := (f117.l3 k 0 0 o0_0 o0_1)
def stf117_3 (x3 : Int) (x4 : Int) (b0_0 : List Int) (b0_1 : Int) : St := ⟨[T.ptr 0 0 0, T.dead, T.dead, T.sc (.int .u64 x3), T.sc (.int .i64 x4), T.dead, T.dead, T.dead, T.dead, T.dead, T.dead, T.dead, T.dead, T.dead, T.dead, T.dead], [(0, Ob.mkBox 2 (T.agg [T.sl (List.map e_u8 b0_0) [], T.sc (.int .i64 b0_1)]))], 1, 1⟩
def f98 (k : Nat) (a1_0 : Int) (a2_0 : Int) (o0_0 : List Int) (o0_1 : Int) : Option (Int × (List Int) × Int) := ((f63 k 8 o0_0 o0_1).bind fun t1 => (if t1.1 = 0 then some (a1_0, o0_0, t1.2) else (if t1.1 = 1 then some (a2_0, o0_0, t1.2) else (if a2_0 < a1_0 then some (a1_0, o0_0, t1.2) else ((f117 k o0_0 t1.2).bind fun t2 => (if (IntKind.u64.wrap (IntKind.i64.wrap ((IntKind.i64.wrap (a2_0 - a1_0)) + 1))) ≠ 0 then some ((IntKind.i64.wrap (a1_0 + (IntKind.i64.wrap ((shrI .u64 t2.1 1).tmod (IntKind.u64.wrap (IntKind.i64.wrap ((IntKind.i64.wrap (a2_0 - a1_0)) + 1))))))), t2.2.1, t2.2.2) else none))))))
def f57 (k : Nat) (a1_0 : Int) (a2_0 : Int) (o0_0 : List Int) (o0_1 : Int) : Option (Int × (List Int) × Int) := ((f56 k 24 o0_0 o0_1).bind fun t1 => (if t1.1 = true then ((f63 k 4 o0_0 t1.2).bind fun t2 => (if 0 ≤ t2.1 then (if t2.1 < 4 then some ((at' ([(IntKind.i64.wrap (a1_0 - 1)), (IntKind.i64.wrap (a2_0 + 1)), (-9223372036854775808), 9223372036854775807] : List Int) t2.1), o0_0, t2.2) else none) else none)) else ((f98 k a1_0 a2_0 o0_0 t1.2).bind fun t3 => some (t3.1, t3.2.1, t3.2.2))))
def f20.l5 : Nat → (List Int) → Int → (List Int) → Int → (List S80) → (List S80) → (List S73) → Option ((List S80) × (List S80) × (List S73) × (List Int) × Int)
  | 0, _, _, _, _, _, _, _ => none
  | k + 1, q3, x8, b1_0, b1_1, b2_0, b2_1, b2_2 => (if x8 < (b2_2.length : Int) then ((f56 k 2 b1_0 b1_1).bind fun t3 => (if t3.1 = true then (if (q3.length + 1) * 8 ≤ 70368744177664 then (if q3.length + 1 ≤ 70368744177664 then (f20.l5 k (q3 ++ ([x8] : List Int)) (IntKind.i64.wrap (x8 + 1)) b1_0 t3.2 b2_0 b2_1 b2_2) else none) else none) else (f20.l5 k q3 (IntKind.i64.wrap (x8 + 1)) b1_0 t3.2 b2_0 b2_1 b2_2))) else ((f56 k 16 b1_0 b1_1).bind fun t4 => (if t4.1 = true then ((f57 k 0 (b2_2.length : Int) b1_0 t4.2).bind fun t5 => (if (q3.length + 1) * 8 ≤ 70368744177664 then (if q3.length + 1 ≤ 70368744177664 then ((f57 k 0 4 t5.2.1 t5.2.2).bind fun t6 => some (b2_0, b2_1, b2_2, (q3 ++ ([t5.1] : List Int)), t6.1)) else none) else none)) else ((f57 k 0 4 b1_0 t4.2).bind fun t7 => some (b2_0, b2_1, b2_2, q3, t7.1)))))
def f20 (k : Nat) (a0_0 : List Int) : Option ((List S80) × (List S80) × (List S73) × (List Int) × Int) := ((f54 k a0_0).bind fun t1 => ((f55 k t1.1 t1.2).bind fun t2 => (f20.l5 k ([] : List Int) 0 t2.2.2.2.1 t2.2.2.2.2 t2.1 t2.2.1 t2.2.2.1)))
def stf20_5 (q3 : List Int) (x8 : Int) (b1_0 : List Int) (b1_1 : Int) (b2_0 : List S80) (b2_1 : List S80) (b2_2 : List S73) : St := ⟨[T.dead, T.dead, T.ptr 0 0 0, T.dead, T.dead, T.ptr 1 0 0, T.ptr 2 0 0, T.win 3 0 q3.length, T.sc (.int .i64 x8), T.dead, T.dead, T.dead, T.dead, T.dead, T.dead, T.dead, T.dead, T.dead, T.dead, T.dead, T.dead, T.dead, T.dead, T.dead, T.dead, T.dead, T.dead, T.dead, T.dead, T.dead, T.dead, T.dead, T.dead, T.dead, T.dead, T.dead, T.dead, T.dead, T.dead, T.dead, T.dead], [(0, Ob.mkBox 3 (T.agg [T.nil, T.nil, T.nil])), (1, Ob.mkBox 2 (T.agg [T.sl (List.map e_u8 b1_0) [], T.sc (.int .i64 b1_1)])), (2, Ob.mkBox 3 (T.agg [T.sl (List.map e80 b2_0) [], T.sl (List.map e80 b2_1) [], T.sl (List.map e73 b2_2) []])), (3, Ob.mkRow 1 (List.map e_i64 q3))], 4, 0⟩
mutual
def f21.l4 : Nat → (List Int) → Int → Int → (List S80) → (List S80) → (List S73) → Option (Bool × (List S80) × (List S80) × (List S73))
  | 0, _, _, _, _, _, _ => none
  | k + 1, x1, x2, x8, b0_0, b0_1, b0_2 => (if x8 < (x1.length : Int) then (if 0 ≤ x8 then ((f58 k (at' x1 x8) 0 (IntKind.i64.wrap ((b0_2.length : Int) - 1))).bind fun t2 => (if t2 = true then (if 0 < x8 then (if 0 ≤ (IntKind.i64.wrap (x8 - 1)) then (if (IntKind.i64.wrap (x8 - 1)) < (x1.length : Int) then (if (at' x1 x8) ≤ (at' x1 (IntKind.i64.wrap (x8 - 1))) then some (false, ([] : List S80), ([] : List S80), ([] : List S73)) else (f21.l4 k x1 x2 (IntKind.i64.wrap (x8 + 1)) b0_0 b0_1 b0_2)) else none) else none) else (f21.l4 k x1 x2 (IntKind.i64.wrap (x8 + 1)) b0_0 b0_1 b0_2)) else some (false, ([] : List S80), ([] : List S80), ([] : List S73)))) else none) else (if b0_1.length * 32 ≤ 70368744177664 then (if b0_1.length ≤ 70368744177664 then (f21.l10 k b0_1 x1 x2 0 b0_0 b0_1 b0_2) else none) else none))
def f21.l10 : Nat → (List S80) → (List Int) → Int → Int → (List S80) → (List S80) → (List S73) → Option (Bool × (List S80) × (List S80) × (List S73))
  | 0, _, _, _, _, _, _, _ => none
  | k + 1, q2, x1, x2, x10, b0_0, b0_1, b0_2 => (if x10 < (x1.length : Int) then (if 0 ≤ x10 then (if 0 ≤ (at' x1 x10) then (if (at' x1 x10) < (b0_2.length : Int) then (if x10 = (IntKind.i64.wrap ((x1.length : Int) - 1)) then (if (at' b0_2 (at' x1 x10)).f0 = 1 then (if x2 < (((at' b0_2 (at' x1 x10)).f3).size : Int) then (if 0 ≤ x2 then (if x2 ≤ ((((at' b0_2 (at' x1 x10)).f3).size : Nat) : Int) then ((f44 k q2 ((at' b0_2 (at' x1 x10)).f0) ((at' b0_2 (at' x1 x10)).f1) ((at' b0_2 (at' x1 x10)).f2) (((at' b0_2 (at' x1 x10)).f3).extract 0 x2.toNat)).bind fun t3 => (f21.l10 k t3.2 x1 x2 (IntKind.i64.wrap (x10 + 1)) b0_0 b0_1 b0_2)) else none) else none) else ((f44 k q2 ((at' b0_2 (at' x1 x10)).f0) ((at' b0_2 (at' x1 x10)).f1) ((at' b0_2 (at' x1 x10)).f2) ((at' b0_2 (at' x1 x10)).f3)).bind fun t4 => (f21.l10 k t4.2 x1 x2 (IntKind.i64.wrap (x10 + 1)) b0_0 b0_1 b0_2))) else ((f44 k q2 ((at' b0_2 (at' x1 x10)).f0) ((at' b0_2 (at' x1 x10)).f1) ((at' b0_2 (at' x1 x10)).f2) ((at' b0_2 (at' x1 x10)).f3)).bind fun t5 => (f21.l10 k t5.2 x1 x2 (IntKind.i64.wrap (x10 + 1)) b0_0 b0_1 b0_2))) else ((f44 k q2 ((at' b0_2 (at' x1 x10)).f0) ((at' b0_2 (at' x1 x10)).f1) ((at' b0_2 (at' x1 x10)).f2) ((at' b0_2 (at' x1 x10)).f3)).bind fun t6 => (f21.l10 k t6.2 x1 x2 (IntKind.i64.wrap (x10 + 1)) b0_0 b0_1 b0_2))) else none) else none) else none) else ((f43 k q2).bind fun t7 => (if t7 = true then (if q2.length * 32 ≤ 70368744177664 then (if q2.length ≤ 70368744177664 then some (true, q2, q2, ([] : List S73)) else none) else none) else some (false, ([] : List S80), ([] : List S80), ([] : List S73)))))
end
def f21 (k : Nat) (a0_0 : List S80) (a0_1 : List S80) (a0_2 : List S73) (a1_0 : List Int) (a2_0 : Int) : Option (Bool × (List S80) × (List S80) × (List S73)) := ((f13 k a0_0 a0_1 a0_2).bind fun t1 => (if t1 = true then (if a2_0 < 0 then some (false, ([] : List S80), ([] : List S80), ([] : List S73)) else (f21.l4 k a1_0 a2_0 0 a0_0 a0_1 a0_2)) else some (false, ([] : List S80), ([] : List S80), ([] : List S73))))
def stf21_4 (x1 : List Int) (x2 : Int) (x8 : Int) (b0_0 : List S80) (b0_1 : List S80) (b0_2 : List S73) : St := ⟨[T.dead, T.sl (List.map e_i64 x1) [], T.sc (.int .i64 x2), T.ptr 0 0 0, T.dead, T.dead, T.ptr 1 0 0, T.dead, T.sc (.int .i64 x8), T.dead, T.dead, T.dead, T.dead, T.dead, T.dead, T.dead, T.dead, T.dead, T.dead, T.dead, T.dead, T.dead, T.dead, T.dead, T.dead, T.dead, T.dead, T.dead, T.dead, T.dead, T.dead, T.dead, T.dead, T.dead, T.dead, T.dead, T.dead, T.dead, T.dead, T.dead, T.dead, T.dead, T.dead, T.dead, T.dead, T.dead, T.dead, T.dead, T.dead, T.dead, T.dead, T.dead, T.dead, T.dead, T.dead, T.dead, T.dead, T.dead, T.dead, T.dead, T.dead, T.dead, T.dead, T.dead, T.dead, T.dead, T.dead, T.dead, T.dead, T.dead, T.dead, T.dead, T.dead, T.dead, T.dead, T.dead, T.dead, T.dead, T.dead, T.dead, T.dead, T.dead, T.dead, T.dead, T.dead, T.dead, T.dead, T.dead, T.dead, T.dead, T.dead, T.dead, T.dead, T.dead, T.dead, T.dead, T.dead, T.dead, T.dead, T.dead, T.dead, T.dead, T.dead, T.dead, T.dead, T.dead, T.dead, T.dead], [(0, Ob.mkBox 3 (T.agg [T.sl (List.map e80 b0_0) [], T.sl (List.map e80 b0_1) [], T.sl (List.map e73 b0_2) []])), (1, Ob.mkBox 3 (T.agg [T.nil, T.nil, T.nil]))], 2, 0⟩
def stf21_10 (q2 : List S80) (x1 : List Int) (x2 : Int) (x10 : Int) (b0_0 : List S80) (b0_1 : List S80) (b0_2 : List S73) : St := ⟨[T.dead, T.sl (List.map e_i64 x1) [], T.sc (.int .i64 x2), T.ptr 0 0 0, T.dead, T.dead, T.ptr 1 0 0, T.dead, T.dead, T.win 2 0 q2.length, T.sc (.int .i64 x10), T.dead, T.dead, T.dead, T.dead, T.dead, T.dead, T.dead, T.dead, T.dead, T.dead, T.dead, T.dead, T.dead, T.dead, T.dead, T.dead, T.dead, T.dead, T.dead, T.dead, T.dead, T.dead, T.dead, T.dead, T.dead, T.dead, T.dead, T.dead, T.dead, T.dead, T.dead, T.dead, T.dead, T.dead, T.dead, T.dead, T.dead, T.dead, T.dead, T.dead, T.dead, T.dead, T.dead, T.dead, T.dead, T.dead, T.dead, T.dead, T.dead, T.dead, T.dead, T.dead, T.dead, T.dead, T.dead, T.dead, T.dead, T.dead, T.dead, T.dead, T.dead, T.dead, T.dead, T.dead, T.dead, T.dead, T.dead, T.dead, T.dead, T.dead, T.dead, T.dead, T.dead, T.dead, T.dead, T.dead, T.dead, T.dead, T.dead, T.dead, T.dead, T.dead, T.dead, T.dead, T.dead, T.dead, T.dead, T.dead, T.dead, T.dead, T.dead, T.dead, T.dead, T.dead, T.dead, T.dead, T.dead], [(0, Ob.mkBox 3 (T.agg [T.sl (List.map e80 b0_0) [], T.sl (List.map e80 b0_1) [], T.sl (List.map e73 b0_2) []])), (1, Ob.mkBox 3 (T.agg [T.nil, T.nil, T.nil])), (2, Ob.mkRow 2 (List.map e80 q2))], 3, 0⟩
def f101 (k : Nat) (a0_0 : ByteArray) : Option (Bool) := (if 1 ≤ (a0_0.size : Int) then some (decide ((a0_0.size : Int) ≤ 100)) else some false)
def f62.l3 : Nat → (List S80) → Int → (List S80) → Int → Int → Option (Bool)
  | 0, _, _, _, _, _ => none
  | k + 1, x0, x3, x6, x7, x8 => (if x8 < x7 then (if 0 ≤ x8 then (if x8 < (x6.length : Int) then ((f101 k ((at' x6 x8).f0)).bind fun t1 => (if t1 = true then (if 200000 < (IntKind.i64.wrap (x3 + (((at' x6 x8).f1).size : Int))) then some false else (if 0 < x8 then (if 0 ≤ (IntKind.i64.wrap (x8 - 1)) then (if (IntKind.i64.wrap (x8 - 1)) < (x0.length : Int) then (if strLt ((at' x0 (IntKind.i64.wrap (x8 - 1))).f0) ((at' x6 x8).f0) = true then (f62.l3 k x0 (IntKind.i64.wrap (x3 + (((at' x6 x8).f1).size : Int))) x6 x7 (IntKind.i64.wrap (x8 + 1))) else some false) else none) else none) else (f62.l3 k x0 (IntKind.i64.wrap (x3 + (((at' x6 x8).f1).size : Int))) x6 x7 (IntKind.i64.wrap (x8 + 1))))) else some false)) else none) else none) else some (decide ((x0.length : Int) ≤ 60)))
def f62 (k : Nat) (a0_0 : List S80) : Option (Bool) := (f62.l3 k a0_0 0 a0_0 (a0_0.length : Int) 0)
def stf62_3 (x0 : List S80) (x3 : Int) (x6 : List S80) (x7 : Int) (x8 : Int) : St := ⟨[T.sl (List.map e80 x0) [], T.dead, T.dead, T.sc (.int .i64 x3), T.dead, T.dead, T.sl (List.map e80 x6) [], T.sc (.int .i64 x7), T.sc (.int .i64 x8), T.dead, T.dead, T.dead, T.dead, T.dead, T.dead, T.dead, T.dead, T.dead, T.dead, T.dead, T.dead, T.dead, T.dead, T.dead, T.dead, T.dead, T.dead, T.dead, T.dead, T.dead, T.dead, T.dead, T.dead, T.dead, T.dead, T.dead, T.dead, T.dead, T.dead, T.dead, T.dead, T.dead, T.dead, T.dead, T.dead], [], 0, 0⟩
def f89 (k : Nat) (a0_0 : Int) (a0_1 : ByteArray) (a0_2 : ByteArray) (a0_3 : ByteArray) : Option (Bool) := (if a0_0 = 1 then ((f101 k a0_1).bind fun t1 => (if t1 = true then some (strEq a0_2 (⟨#[]⟩ : ByteArray)) else some false)) else (if a0_0 = 2 then ((f101 k a0_1).bind fun t2 => (if t2 = true then ((f101 k a0_2).bind fun t3 => (if t3 = true then some (strEq a0_3 (⟨#[]⟩ : ByteArray)) else some false)) else some false)) else (if a0_0 = 3 then ((f101 k a0_1).bind fun t4 => (if t4 = true then (if strEq a0_2 (⟨#[]⟩ : ByteArray) = true then some (strEq a0_3 (⟨#[]⟩ : ByteArray)) else some false) else some false)) else some false)))
def f94 (k : Nat) (a0_0 : ByteArray) (a0_1 : ByteArray) (o0_0 : ByteArray) : Option (Bool) := some (strEq a0_0 o0_0)
def f93.l2 : Nat → (List S80) → Int → Int → ByteArray → Option (Int × ByteArray)
  | 0, _, _, _, _ => none
  | k + 1, x0, x7, x8, b0_0 => (if x8 < x7 then (if 0 ≤ x8 then (if x8 < (x0.length : Int) then ((f94 k ((at' x0 x8).f0) ((at' x0 x8).f1) b0_0).bind fun t1 => (if t1 = true then some (x8, b0_0) else (f93.l2 k x0 x7 (IntKind.i64.wrap (x8 + 1)) b0_0))) else none) else none) else some ((-1), b0_0))
def f93 (k : Nat) (a0_0 : List S80) (o0_0 : ByteArray) : Option (Int × ByteArray) := (f93.l2 k a0_0 (a0_0.length : Int) 0 o0_0)
def stf93_2 (x0 : List S80) (x7 : Int) (x8 : Int) (b0_0 : ByteArray) : St := ⟨[T.sl (List.map e80 x0) [], T.fn 94 [T.ptr 0 0 0], T.dead, T.dead, T.dead, T.dead, T.dead, T.sc (.int .i64 x7), T.sc (.int .i64 x8), T.dead, T.dead, T.dead, T.dead, T.dead, T.dead, T.dead, T.dead, T.dead, T.dead], [(0, Ob.mkBox 1 (T.sc (.string b0_0)))], 1, 1⟩
def f53 (k : Nat) (a0_0 : List S80) (a1_0 : ByteArray) : Option (Int) := ((f93 k a0_0 a1_0).bind fun t1 => some t1.1)
def f59 (k : Nat) (a0_0 : List S80) : Option ((List S80)) := (if a0_0.length * 32 ≤ 70368744177664 then (if a0_0.length ≤ 70368744177664 then some a0_0 else none) else none)
def f132 (k : Nat) (a0_0 : ByteArray) (a1_0 : ByteArray) : Option (Int) := some (cmpS a0_0 a1_0)
def f120 (k : Nat) (a0_0 : ByteArray) (a1_0 : ByteArray) : Option (Int) := ((f132 k a0_0 a1_0).bind fun t1 => some t1)
def f119 (k : Nat) (a0_0 : ByteArray) (a0_1 : ByteArray) (a1_0 : ByteArray) : Option (Int) := ((f120 k a0_0 a1_0).bind fun t1 => some t1)
def f118.l3 : Nat → (List S80) → ByteArray → Int → Int → Int → Option (Int × Bool)
  | 0, _, _, _, _, _ => none
  | k + 1, x0, x1, x8, x9, x10 => (if x9 < x10 then (if 0 ≤ (IntKind.i64.wrap (shrI .u64 (IntKind.u64.wrap (IntKind.i64.wrap (x9 + x10))) 1)) then (if (IntKind.i64.wrap (shrI .u64 (IntKind.u64.wrap (IntKind.i64.wrap (x9 + x10))) 1)) < (x0.length : Int) then ((f119 k ((at' x0 (IntKind.i64.wrap (shrI .u64 (IntKind.u64.wrap (IntKind.i64.wrap (x9 + x10))) 1))).f0) ((at' x0 (IntKind.i64.wrap (shrI .u64 (IntKind.u64.wrap (IntKind.i64.wrap (x9 + x10))) 1))).f1) x1).bind fun t1 => (if t1 < 0 then (f118.l3 k x0 x1 x8 (IntKind.i64.wrap ((IntKind.i64.wrap (shrI .u64 (IntKind.u64.wrap (IntKind.i64.wrap (x9 + x10))) 1)) + 1)) x10) else (f118.l3 k x0 x1 x8 x9 (IntKind.i64.wrap (shrI .u64 (IntKind.u64.wrap (IntKind.i64.wrap (x9 + x10))) 1))))) else none) else none) else (if x9 < x8 then (if 0 ≤ x9 then (if x9 < (x0.length : Int) then ((f119 k ((at' x0 x9).f0) ((at' x0 x9).f1) x1).bind fun t2 => some (x9, decide (t2 = 0))) else none) else none) else some (x9, false)))
def f118 (k : Nat) (a0_0 : List S80) (a1_0 : ByteArray) : Option (Int × Bool) := (f118.l3 k a0_0 a1_0 (a0_0.length : Int) 0 (a0_0.length : Int))
def stf118_3 (x0 : List S80) (x1 : ByteArray) (x8 : Int) (x9 : Int) (x10 : Int) : St := ⟨[T.sl (List.map e80 x0) [], T.sc (.string x1), T.fn 119 [], T.dead, T.dead, T.dead, T.dead, T.dead, T.sc (.int .i64 x8), T.sc (.int .i64 x9), T.sc (.int .i64 x10), T.dead, T.dead, T.dead, T.dead, T.dead, T.dead, T.dead, T.dead, T.dead, T.dead, T.dead, T.dead, T.dead, T.dead, T.dead, T.dead, T.dead, T.dead, T.dead, T.dead, T.dead, T.dead, T.dead, T.dead, T.dead, T.dead, T.dead, T.dead, T.dead, T.dead, T.dead, T.dead, T.dead, T.dead, T.dead, T.dead, T.dead, T.dead], [], 0, 0⟩
def f121 (k : Nat) (a1_0 : Int) (o0 : List S80) (o1 : List S80) : Option ((List S80)) := if 0 ≤ a1_0 ∧ a1_0 ≤ (o0.length : Int) ∧ o1.length = 1 ∧ (o0.length + 1) * 32 ≤ 70368744177664 ∧ o0.length + 1 ≤ 70368744177664 then some (o0.take a1_0.toNat ++ (o1 ++ o0.drop a1_0.toNat)) else none
def f99 (k : Nat) (a0_0 : List S80) (a1_0 : ByteArray) (a1_1 : ByteArray) : Option ((List S80)) := ((f59 k a0_0).bind fun t1 => ((f118 k t1 a1_0).bind fun t2 => (if t2.2 = true then (if 0 ≤ t2.1 then (if t2.1 < ((t1.length : Nat) : Int) then some (t1.set t2.1.toNat (⟨a1_0, a1_1⟩ : S80)) else none) else none) else ((f121 k t2.1 t1 ([(⟨a1_0, a1_1⟩ : S80)] : List S80)).bind fun t3 => some t3))))
def f100 (k : Nat) (a1_0 : Int) (a2_0 : Int) (o0 : List S80) : Option ((List S80)) := if 0 ≤ a1_0 ∧ a2_0 = a1_0 + 1 ∧ a2_0 ≤ (o0.length : Int) then some (o0.take a1_0.toNat ++ o0.drop (a1_0.toNat + 1)) else none
def f61 (k : Nat) (a0_0 : Int) (a0_1 : ByteArray) (a0_2 : ByteArray) (a0_3 : ByteArray) (a1_0 : List S80) : Option (((List S80)) ⊕ ((List S80))) := ((f53 k a1_0 a0_1).bind fun t1 => (if a0_0 = 1 then (if 0 ≤ t1 then (if t1 < (a1_0.length : Int) then (if ((at' a1_0 t1).f1).size + a0_3.size ≤ 9223372036854775807 then ((f99 k a1_0 ((at' a1_0 t1).f0) ((at' a1_0 t1).f1 ++ a0_3)).bind fun t2 => some (Sum.inl t2)) else none) else none) else (if a0_3.size ≤ 9223372036854775807 then ((f99 k a1_0 a0_1 ((⟨#[]⟩ : ByteArray) ++ a0_3)).bind fun t3 => some (Sum.inl t3)) else none)) else (if t1 < 0 then some (Sum.inr a1_0) else ((f59 k a1_0).bind fun t4 => ((f100 k t1 (IntKind.i64.wrap (t1 + 1)) t4).bind fun t5 => (if a0_0 = 3 then some (Sum.inl t5) else (if 0 ≤ t1 then (if t1 < (a1_0.length : Int) then ((f99 k t5 a0_2 ((at' a1_0 t1).f1)).bind fun t6 => some (Sum.inl t6)) else none) else none)))))))
def f90.l4 : Nat → (List S80) → (List S80) → Int → Int → Option (Bool)
  | 0, _, _, _, _ => none
  | k + 1, x0, x1, x12, x13 => (if x13 < x12 then (if 0 ≤ x13 then (if x13 < (x0.length : Int) then (if x13 < (x1.length : Int) then (if (strEq ((at' x0 x13).f0) ((at' x1 x13).f0) && strEq ((at' x0 x13).f1) ((at' x1 x13).f1)) = true then (f90.l4 k x0 x1 x12 (IntKind.i64.wrap (x13 + 1))) else some false) else none) else none) else none) else some true)
def f90 (k : Nat) (a0_0 : List S80) (a1_0 : List S80) : Option (Bool) := (if (a0_0.length : Int) = (a1_0.length : Int) then (f90.l4 k a0_0 a1_0 (a0_0.length : Int) 0) else some false)
def stf90_4 (x0 : List S80) (x1 : List S80) (x12 : Int) (x13 : Int) : St := ⟨[T.sl (List.map e80 x0) [], T.sl (List.map e80 x1) [], T.dead, T.dead, T.dead, T.dead, T.dead, T.dead, T.dead, T.dead, T.dead, T.dead, T.sc (.int .i64 x12), T.sc (.int .i64 x13), T.dead, T.dead, T.dead, T.dead, T.dead, T.dead, T.dead, T.dead, T.dead, T.dead, T.dead, T.dead], [], 0, 0⟩
def f49.l5 : Nat → (List S80) → (List S73) → Int → Int → (List S80) → (List S80) → (List S73) → Option (Bool)
  | 0, _, _, _, _, _, _, _ => none
  | k + 1, x3, x27, x28, x29, b0_0, b0_1, b0_2 => (if x29 < x28 then (if 0 ≤ x29 then (if x29 < (x27.length : Int) then ((f89 k ((at' x27 x29).f0) ((at' x27 x29).f1) ((at' x27 x29).f2) ((at' x27 x29).f3)).bind fun t3 => (if t3 = true then ((f61 k ((at' x27 x29).f0) ((at' x27 x29).f1) ((at' x27 x29).f2) ((at' x27 x29).f3) x3).bind fun t4 => match t4 with | Sum.inl t4 => ((f62 k t4).bind fun t5 => (if t5 = true then (f49.l5 k t4 x27 x28 (IntKind.i64.wrap (x29 + 1)) b0_0 b0_1 b0_2) else some false)) | Sum.inr t4 => some false) else some false)) else none) else none) else ((f90 k x3 b0_0).bind fun t6 => some t6))
def f49 (k : Nat) (a0_0 : List S80) (a0_1 : List S80) (a0_2 : List S73) : Option (Bool) := ((f62 k a0_0).bind fun t1 => (if t1 = true then ((f62 k a0_1).bind fun t2 => (if t2 = true then (if 200 < (a0_2.length : Int) then some false else (f49.l5 k a0_1 a0_2 (a0_2.length : Int) 0 a0_0 a0_1 a0_2)) else some false)) else some false))
def stf49_5 (x3 : List S80) (x27 : List S73) (x28 : Int) (x29 : Int) (b0_0 : List S80) (b0_1 : List S80) (b0_2 : List S73) : St := ⟨[T.dead, T.ptr 0 0 0, T.dead, T.sl (List.map e80 x3) [], T.dead, T.dead, T.dead, T.dead, T.dead, T.dead, T.dead, T.dead, T.dead, T.dead, T.dead, T.dead, T.dead, T.dead, T.dead, T.dead, T.dead, T.dead, T.dead, T.dead, T.dead, T.dead, T.dead, T.sl (List.map e73 x27) [], T.sc (.int .i64 x28), T.sc (.int .i64 x29), T.dead, T.dead, T.dead, T.dead, T.dead, T.dead, T.dead, T.dead, T.dead, T.dead, T.dead, T.dead, T.dead, T.dead, T.dead, T.dead, T.dead, T.dead, T.dead, T.dead, T.dead, T.dead, T.dead, T.dead, T.dead], [(0, Ob.mkBox 3 (T.agg [T.sl (List.map e80 b0_0) [], T.sl (List.map e80 b0_1) [], T.sl (List.map e73 b0_2) []]))], 1, 0⟩
def f60 (k : Nat) (a0_0 : Int) (a1_0 : Int) (a2_0 : Int) : Option (Bool) := (if a1_0 ≤ a0_0 then some (decide (a0_0 ≤ a2_0)) else some false)
def f22.l5 : Nat → (List S80) → (List Int) → Int → (List Int) → Int → Int → (List S80) → (List S80) → (List S73) → Option (Bool × (List S80) × (List S80) × (List S73))
  | 0, _, _, _, _, _, _, _, _, _ => none
  | k + 1, q2, x1, x2, x25, x26, x27, b0_0, b0_1, b0_2 => (if x27 < x26 then (if 0 ≤ x27 then (if x27 < (x25.length : Int) then ((f60 k (at' x25 x27) 0 (IntKind.i64.wrap ((b0_2.length : Int) - 1))).bind fun t3 => (if t3 = true then (if 0 < x27 then (if 0 ≤ (IntKind.i64.wrap (x27 - 1)) then (if (IntKind.i64.wrap (x27 - 1)) < (x1.length : Int) then (if (at' x25 x27) ≤ (at' x1 (IntKind.i64.wrap (x27 - 1))) then some (false, ([] : List S80), ([] : List S80), ([] : List S73)) else (if 0 ≤ (at' x25 x27) then (if (at' x25 x27) < (b0_2.length : Int) then (if x27 = (IntKind.i64.wrap ((x1.length : Int) - 1)) then (if 0 ≤ (minI x2 (((at' b0_2 (at' x25 x27)).f3).size : Int)) then (if (minI x2 (((at' b0_2 (at' x25 x27)).f3).size : Int)) ≤ ((((at' b0_2 (at' x25 x27)).f3).size : Nat) : Int) then ((f61 k ((at' b0_2 (at' x25 x27)).f0) ((at' b0_2 (at' x25 x27)).f1) ((at' b0_2 (at' x25 x27)).f2) (((at' b0_2 (at' x25 x27)).f3).extract 0 ((minI x2 (((at' b0_2 (at' x25 x27)).f3).size : Int)).toNat)) q2).bind fun t4 => match t4 with | Sum.inl t4 => (f22.l5 k t4 x1 x2 x25 x26 (IntKind.i64.wrap (x27 + 1)) b0_0 b0_1 b0_2) | Sum.inr t4 => (f22.l5 k q2 x1 x2 x25 x26 (IntKind.i64.wrap (x27 + 1)) b0_0 b0_1 b0_2)) else none) else none) else ((f61 k ((at' b0_2 (at' x25 x27)).f0) ((at' b0_2 (at' x25 x27)).f1) ((at' b0_2 (at' x25 x27)).f2) ((at' b0_2 (at' x25 x27)).f3) q2).bind fun t5 => match t5 with | Sum.inl t5 => (f22.l5 k t5 x1 x2 x25 x26 (IntKind.i64.wrap (x27 + 1)) b0_0 b0_1 b0_2) | Sum.inr t5 => (f22.l5 k q2 x1 x2 x25 x26 (IntKind.i64.wrap (x27 + 1)) b0_0 b0_1 b0_2))) else none) else none)) else none) else none) else (if 0 ≤ (at' x25 x27) then (if (at' x25 x27) < (b0_2.length : Int) then (if x27 = (IntKind.i64.wrap ((x1.length : Int) - 1)) then (if 0 ≤ (minI x2 (((at' b0_2 (at' x25 x27)).f3).size : Int)) then (if (minI x2 (((at' b0_2 (at' x25 x27)).f3).size : Int)) ≤ ((((at' b0_2 (at' x25 x27)).f3).size : Nat) : Int) then ((f61 k ((at' b0_2 (at' x25 x27)).f0) ((at' b0_2 (at' x25 x27)).f1) ((at' b0_2 (at' x25 x27)).f2) (((at' b0_2 (at' x25 x27)).f3).extract 0 ((minI x2 (((at' b0_2 (at' x25 x27)).f3).size : Int)).toNat)) q2).bind fun t6 => match t6 with | Sum.inl t6 => (f22.l5 k t6 x1 x2 x25 x26 (IntKind.i64.wrap (x27 + 1)) b0_0 b0_1 b0_2) | Sum.inr t6 => (f22.l5 k q2 x1 x2 x25 x26 (IntKind.i64.wrap (x27 + 1)) b0_0 b0_1 b0_2)) else none) else none) else ((f61 k ((at' b0_2 (at' x25 x27)).f0) ((at' b0_2 (at' x25 x27)).f1) ((at' b0_2 (at' x25 x27)).f2) ((at' b0_2 (at' x25 x27)).f3) q2).bind fun t7 => match t7 with | Sum.inl t7 => (f22.l5 k t7 x1 x2 x25 x26 (IntKind.i64.wrap (x27 + 1)) b0_0 b0_1 b0_2) | Sum.inr t7 => (f22.l5 k q2 x1 x2 x25 x26 (IntKind.i64.wrap (x27 + 1)) b0_0 b0_1 b0_2))) else none) else none)) else some (false, ([] : List S80), ([] : List S80), ([] : List S73)))) else none) else none) else ((f62 k q2).bind fun t8 => (if t8 = true then ((f59 k q2).bind fun t9 => some (true, q2, t9, ([] : List S73))) else some (false, ([] : List S80), ([] : List S80), ([] : List S73)))))
def f22 (k : Nat) (a0_0 : List S80) (a0_1 : List S80) (a0_2 : List S73) (a1_0 : List Int) (a2_0 : Int) : Option (Bool × (List S80) × (List S80) × (List S73)) := ((f49 k a0_0 a0_1 a0_2).bind fun t1 => (if t1 = true then (if a2_0 < 0 then some (false, ([] : List S80), ([] : List S80), ([] : List S73)) else ((f59 k a0_1).bind fun t2 => (f22.l5 k t2 a1_0 a2_0 a1_0 (a1_0.length : Int) 0 a0_0 a0_1 a0_2))) else some (false, ([] : List S80), ([] : List S80), ([] : List S73))))
def stf22_5 (q2 : List S80) (x1 : List Int) (x2 : Int) (x25 : List Int) (x26 : Int) (x27 : Int) (b0_0 : List S80) (b0_1 : List S80) (b0_2 : List S73) : St := ⟨[T.dead, T.sl (List.map e_i64 x1) [], T.sc (.int .i64 x2), T.ptr 0 0 0, T.dead, T.dead, T.ptr 1 0 0, T.dead, T.win 2 0 q2.length, T.dead, T.dead, T.dead, T.dead, T.dead, T.dead, T.dead, T.dead, T.dead, T.dead, T.dead, T.dead, T.dead, T.dead, T.dead, T.dead, T.sl (List.map e_i64 x25) [], T.sc (.int .i64 x26), T.sc (.int .i64 x27), T.dead, T.dead, T.dead, T.dead, T.dead, T.dead, T.dead, T.dead, T.dead, T.dead, T.dead, T.dead, T.dead, T.dead, T.dead, T.dead, T.dead, T.dead, T.dead, T.dead, T.dead, T.dead, T.dead, T.dead, T.dead, T.dead, T.dead, T.dead, T.dead, T.dead, T.dead, T.dead, T.dead, T.dead, T.dead, T.dead, T.dead, T.dead, T.dead, T.dead, T.dead, T.dead, T.dead, T.dead, T.dead, T.dead, T.dead, T.dead, T.dead, T.dead, T.dead, T.dead, T.dead, T.dead, T.dead, T.dead, T.dead, T.dead, T.dead, T.dead, T.dead], [(0, Ob.mkBox 3 (T.agg [T.sl (List.map e80 b0_0) [], T.sl (List.map e80 b0_1) [], T.sl (List.map e73 b0_2) []])), (1, Ob.mkBox 3 (T.agg [T.nil, T.nil, T.nil])), (2, Ob.mkRow 2 (List.map e80 q2))], 3, 0⟩
def f23.l4 : Nat → (List S80) → (List S80) → Int → Option (Bool)
  | 0, _, _, _ => none
  | k + 1, x0, x1, x5 => (if x5 < (x0.length : Int) then (if 0 ≤ x5 then (if x5 < (x1.length : Int) then (if (strEq ((at' x0 x5).f0) ((at' x1 x5).f0) && strEq ((at' x0 x5).f1) ((at' x1 x5).f1)) = true then (f23.l4 k x0 x1 (IntKind.i64.wrap (x5 + 1))) else some false) else none) else none) else some true)
def f23 (k : Nat) (a0_0 : List S80) (a1_0 : List S80) : Option (Bool) := (if (a0_0.length : Int) = (a1_0.length : Int) then (f23.l4 k a0_0 a1_0 0) else some false)
def stf23_4 (x0 : List S80) (x1 : List S80) (x5 : Int) : St := ⟨[T.sl (List.map e80 x0) [], T.sl (List.map e80 x1) [], T.dead, T.dead, T.dead, T.sc (.int .i64 x5), T.dead, T.dead, T.dead, T.dead, T.dead, T.dead, T.dead, T.dead, T.dead, T.dead, T.dead, T.dead, T.dead, T.dead, T.dead, T.dead, T.dead, T.dead, T.dead, T.dead], [], 0, 0⟩
def f24 (k : Nat) (a0_0 : List S80) (a0_1 : List S80) (a0_2 : List S73) : Option ((List S80) × (List S80) × (List S73)) := ((f49 k a0_0 a0_1 a0_2).bind fun t1 => (if t1 = true then ((f59 k a0_0).bind fun t2 => some (t2, t2, ([] : List S73))) else some (([] : List S80), ([] : List S80), ([] : List S73))))
def f15 (k : Nat) (a0_0 : List S80) (a0_1 : List S80) (a0_2 : List S73) : Option (Bool) := ((f49 k a0_0 a0_1 a0_2).bind fun t1 => some t1)
def f5.l12 : Nat → (List Int) → (List S80) → (List S80) → (List S73) → Bool → Int → (List S80) → (List S80) → (List S73) → Option (Bool)
  | 0, _, _, _, _, _, _, _, _, _ => none
  | k + 1, q2, q3, q4, q5, x9, x11, b0_0, b0_1, b0_2 => (if x11 < (b0_2.length : Int) then (if (q2.length + 1) * 8 ≤ 70368744177664 then (if q2.length + 1 ≤ 70368744177664 then (f5.l12 k (q2 ++ ([x11] : List Int)) q3 q4 q5 x9 (IntKind.i64.wrap (x11 + 1)) b0_0 b0_1 b0_2) else none) else none) else ((f22 k b0_0 b0_1 b0_2 q2 1099511627776).bind fun t6 => ((f22 k b0_0 b0_1 b0_2 ([] : List Int) 0).bind fun t7 => (if t6.1 = true then (if t7.1 = true then ((f23 k t6.2.1 b0_0).bind fun t8 => (if t8 = true then ((f23 k t7.2.1 b0_1).bind fun t9 => (if t9 = true then (if ((t6.2.2.2.length : Nat) : Int) = 0 then ((f24 k b0_0 b0_1 b0_2).bind fun t10 => ((f22 k t10.1 t10.2.1 t10.2.2 ([] : List Int) 0).bind fun t11 => (if t11.1 = true then ((f23 k t11.2.1 b0_0).bind fun t12 => (if t12 = true then (if x9 = true then ((f15 k q3 q4 q5).bind fun t13 => (if t13 = true then some (decide (((q5.length : Nat) : Int) = 0)) else some false)) else some true) else ((f15 k q3 q4 q5).bind fun t14 => (if t14 = true then some false else some false)))) else ((f15 k q3 q4 q5).bind fun t15 => (if t15 = true then some false else some false))))) else some false) else some false)) else some false)) else some false) else some false))))
def f5 (k : Nat) (a0_0 : List Int) : Option (Bool) := ((f19 k a0_0).bind fun t1 => (if t1 = true then some true else ((f20 k a0_0).bind fun t2 => ((f21 k t2.1 t2.2.1 t2.2.2.1 t2.2.2.2.1 t2.2.2.2.2).bind fun t3 => ((f22 k t2.1 t2.2.1 t2.2.2.1 t2.2.2.2.1 t2.2.2.2.2).bind fun t4 => (if (t4.1 == t3.1) = true then ((f13 k t2.1 t2.2.1 t2.2.2.1).bind fun t5 => (if t5 = true then (f5.l12 k ([] : List Int) t4.2.1 t4.2.2.1 t4.2.2.2 t4.1 0 t2.1 t2.2.1 t2.2.2.1) else some (!t4.1))) else some false))))))
def stf5_12 (q2 : List Int) (q3 : List S80) (q4 : List S80) (q5 : List S73) (x9 : Bool) (x11 : Int) (b0_0 : List S80) (b0_1 : List S80) (b0_2 : List S73) : St := ⟨[T.dead, T.dead, T.dead, T.ptr 0 0 0, T.dead, T.dead, T.dead, T.dead, T.ptr 1 0 0, T.sc (.bool x9), T.win 2 0 q2.length, T.sc (.int .i64 x11), T.dead, T.dead, T.dead, T.dead, T.dead, T.dead, T.dead, T.dead, T.dead, T.dead, T.dead, T.dead, T.dead, T.dead, T.dead, T.dead, T.dead, T.dead, T.dead, T.dead, T.dead, T.dead, T.dead, T.dead, T.dead, T.dead, T.dead, T.dead, T.dead, T.dead, T.dead, T.dead, T.dead, T.dead, T.dead, T.dead, T.dead, T.dead, T.dead, T.dead, T.dead, T.dead, T.dead, T.dead, T.dead, T.dead, T.dead, T.dead, T.dead, T.dead, T.dead, T.dead, T.dead, T.dead, T.dead, T.dead, T.dead, T.dead, T.dead, T.dead, T.dead, T.dead, T.dead, T.dead, T.dead, T.dead, T.dead, T.dead, T.dead, T.dead, T.dead, T.dead, T.dead, T.dead, T.dead, T.dead, T.dead, T.dead, T.dead, T.dead, T.dead, T.dead, T.dead, T.dead, T.dead, T.dead, T.dead, T.dead, T.dead, T.dead, T.dead, T.dead, T.dead, T.dead, T.dead, T.dead, T.dead, T.dead, T.dead, T.dead, T.dead, T.dead, T.dead, T.dead, T.dead, T.dead, T.dead, T.dead, T.dead, T.dead, T.dead, T.dead, T.dead, T.dead, T.dead, T.dead, T.dead], [(0, Ob.mkBox 3 (T.agg [T.sl (List.map e80 b0_0) [], T.sl (List.map e80 b0_1) [], T.sl (List.map e73 b0_2) []])), (1, Ob.mkBox 3 (T.agg [T.win 3 0 q3.length, T.win 4 0 q4.length, T.win 5 0 q5.length])), (2, Ob.mkRow 1 (List.map e_i64 q2)), (3, Ob.mkRow 2 (List.map e80 q3)), (4, Ob.mkRow 2 (List.map e80 q4)), (5, Ob.mkRow 4 (List.map e73 q5))], 6, 0⟩
def f25 (k : Nat) (a0_0 : List Int) : Option ((List S80) × (List S80) × (List S73) × ByteArray × ByteArray) := ((f54 k a0_0).bind fun t1 => ((f55 k t1.1 t1.2).bind fun t2 => ((f63 k 4 t2.2.2.2.1 t2.2.2.2.2).bind fun t3 => (if 0 ≤ t3.1 then (if t3.1 < 4 then ((f56 k 12 t2.2.2.2.1 t3.2).bind fun t4 => (if t4.1 = true then ((f63 k 4 t2.2.2.2.1 t4.2).bind fun t5 => (if 0 ≤ (IntKind.i64.wrap (95 + t5.1)) then (if (IntKind.i64.wrap (95 + t5.1)) ≤ (IntKind.i64.wrap (95 + t5.1)) then (if (IntKind.i64.wrap (95 + t5.1)) * 1 ≤ 70368744177664 then (if (IntKind.i64.wrap (95 + t5.1)) ≤ 70368744177664 then ((f64 k t2.2.2.2.1 t5.2).bind fun t6 => some (t2.1, t2.2.1, t2.2.2.1, (strOf (List.replicate (IntKind.i64.wrap (95 + t5.1)).toNat 0)), t6.1)) else none) else none) else none) else none)) else ((f64 k t2.2.2.2.1 t4.2).bind fun t7 => some (t2.1, t2.2.1, t2.2.2.1, (at' ([(⟨#[118, 111, 116, 101]⟩ : ByteArray), (⟨#[108, 111, 103]⟩ : ByteArray), (⟨#[118, 111, 116, 101]⟩ : ByteArray), (⟨#[]⟩ : ByteArray)] : List ByteArray) t3.1), t7.1)))) else none) else none))))
def f26 (k : Nat) (a0_0 : List S80) (a0_1 : List S80) (a0_2 : List S73) (a1_0 : ByteArray) (a2_0 : ByteArray) : Option (Int × (List S80) × (List S80) × (List S73)) := ((f13 k a0_0 a0_1 a0_2).bind fun t1 => (if t1 = true then (if a1_0.size + 4 ≤ 9223372036854775807 then ((f52 k a0_0 (a1_0 ++ (⟨#[46, 110, 101, 119]⟩ : ByteArray))).bind fun t2 => (if 0 ≤ t2 then ((f65 k a0_0 a0_1 a0_2 3 (a1_0 ++ (⟨#[46, 110, 101, 119]⟩ : ByteArray)) (⟨#[]⟩ : ByteArray) (⟨#[]⟩ : ByteArray)).bind fun t3 => (if t3.1 = 0 then ((f65 k t3.2.1 t3.2.2.1 t3.2.2.2 1 (a1_0 ++ (⟨#[46, 110, 101, 119]⟩ : ByteArray)) (⟨#[]⟩ : ByteArray) a2_0).bind fun t4 => (if t4.1 = 0 then ((f65 k t4.2.1 t4.2.2.1 t4.2.2.2 2 (a1_0 ++ (⟨#[46, 110, 101, 119]⟩ : ByteArray)) a1_0 (⟨#[]⟩ : ByteArray)).bind fun t5 => (if t5.1 = 0 then ((f66 k t5.2.1 t5.2.2.1 t5.2.2.2).bind fun t6 => some (0, t6.1, t6.2.1, t6.2.2)) else ((f66 k a0_0 a0_1 a0_2).bind fun t7 => some (t5.1, t7.1, t7.2.1, t7.2.2)))) else ((f66 k a0_0 a0_1 a0_2).bind fun t8 => some (t4.1, t8.1, t8.2.1, t8.2.2)))) else ((f66 k a0_0 a0_1 a0_2).bind fun t9 => some (t3.1, t9.1, t9.2.1, t9.2.2)))) else ((f65 k a0_0 a0_1 a0_2 1 (a1_0 ++ (⟨#[46, 110, 101, 119]⟩ : ByteArray)) (⟨#[]⟩ : ByteArray) a2_0).bind fun t10 => (if t10.1 = 0 then ((f65 k t10.2.1 t10.2.2.1 t10.2.2.2 2 (a1_0 ++ (⟨#[46, 110, 101, 119]⟩ : ByteArray)) a1_0 (⟨#[]⟩ : ByteArray)).bind fun t11 => (if t11.1 = 0 then ((f66 k t11.2.1 t11.2.2.1 t11.2.2.2).bind fun t12 => some (0, t12.1, t12.2.1, t12.2.2)) else ((f66 k a0_0 a0_1 a0_2).bind fun t13 => some (t11.1, t13.1, t13.2.1, t13.2.2)))) else ((f66 k a0_0 a0_1 a0_2).bind fun t14 => some (t10.1, t14.1, t14.2.1, t14.2.2)))))) else none) else some (1, ([] : List S80), ([] : List S80), ([] : List S73))))
def f103 (k : Nat) (a1_0 : Int) (o0 : List S73) (o1 : List S73) : Option ((List S73)) := if 0 ≤ a1_0 ∧ a1_0 ≤ (o0.length : Int) ∧ o1.length = 1 ∧ (o0.length + 1) * 56 ≤ 70368744177664 ∧ o0.length + 1 ≤ 70368744177664 then some (o0.take a1_0.toNat ++ (o1 ++ o0.drop a1_0.toNat)) else none
def f79 (k : Nat) (a0_0 : List S80) (a0_1 : List S80) (a0_2 : List S73) : Option ((List S80) × (List S80) × (List S73)) := ((f59 k a0_0).bind fun t1 => ((f59 k a0_1).bind fun t2 => (if a0_2.length * 56 ≤ 70368744177664 then (if a0_2.length ≤ 70368744177664 then some (t1, t2, a0_2) else none) else none)))
def f104 (k : Nat) (a0_0 : List S80) (a0_1 : List S80) (a0_2 : List S73) (a1_0 : Int) (a1_1 : ByteArray) (a1_2 : ByteArray) (a1_3 : ByteArray) : Option (Int × (List S80) × (List S80) × (List S73)) := ((f89 k a1_0 a1_1 a1_2 a1_3).bind fun t1 => (if t1 = true then ((f61 k a1_0 a1_1 a1_2 a1_3 a0_0).bind fun t2 => match t2 with | Sum.inl t2 => (if (a0_2.length : Int) = 200 then ((f79 k a0_0 a0_1 a0_2).bind fun t3 => some (4, t3.1, t3.2.1, t3.2.2)) else ((f62 k t2).bind fun t4 => (if t4 = true then ((f79 k a0_0 a0_1 a0_2).bind fun t5 => ((f59 k t2).bind fun t6 => (if (t5.2.2.length + 1) * 56 ≤ 70368744177664 then (if t5.2.2.length + 1 ≤ 70368744177664 then some (0, t6, t5.2.1, (t5.2.2 ++ ([(⟨a1_0, a1_1, a1_2, a1_3⟩ : S73)] : List S73))) else none) else none))) else ((f79 k a0_0 a0_1 a0_2).bind fun t7 => some (4, t7.1, t7.2.1, t7.2.2))))) | Sum.inr t2 => ((f79 k a0_0 a0_1 a0_2).bind fun t8 => some (3, t8.1, t8.2.1, t8.2.2))) else ((f79 k a0_0 a0_1 a0_2).bind fun t9 => some (2, t9.1, t9.2.1, t9.2.2))))
def f67.l9 : Nat → (List S73) → (List S80) → (List S80) → (List S73) → Int → Int → (List S80) → (List S80) → (List S73) → Option (Int × (List S80) × (List S80) × (List S73))
  | 0, _, _, _, _, _, _, _, _, _ => none
  | k + 1, q3, q4, q5, q6, x41, x42, b0_0, b0_1, b0_2 => (if x42 < x41 then (if 0 ≤ x42 then (if x42 < ((q3.length : Nat) : Int) then ((f104 k q4 q5 q6 ((at' q3 x42).f0) ((at' q3 x42).f1) ((at' q3 x42).f2) ((at' q3 x42).f3)).bind fun t5 => (if t5.1 = 0 then (f67.l9 k q3 t5.2.1 t5.2.2.1 t5.2.2.2 x41 (IntKind.i64.wrap (x42 + 1)) b0_0 b0_1 b0_2) else ((f79 k b0_0 b0_1 b0_2).bind fun t6 => some (t5.1, t6.1, t6.2.1, t6.2.2)))) else none) else none) else some (0, q4, q5, q6))
def f67 (k : Nat) (a0_0 : List S80) (a0_1 : List S80) (a0_2 : List S73) (a1_0 : ByteArray) (a2_0 : ByteArray) : Option (Int × (List S80) × (List S80) × (List S73)) := ((f49 k a0_0 a0_1 a0_2).bind fun t1 => (if t1 = true then (if a1_0.size + 4 ≤ 9223372036854775807 then ((f53 k a0_0 (a1_0 ++ (⟨#[46, 110, 101, 119]⟩ : ByteArray))).bind fun t2 => (if 0 ≤ t2 then ((f103 k 0 ([(⟨1, (a1_0 ++ (⟨#[46, 110, 101, 119]⟩ : ByteArray)), (⟨#[]⟩ : ByteArray), a2_0⟩ : S73), (⟨2, (a1_0 ++ (⟨#[46, 110, 101, 119]⟩ : ByteArray)), a1_0, (⟨#[]⟩ : ByteArray)⟩ : S73)] : List S73) ([(⟨3, (a1_0 ++ (⟨#[46, 110, 101, 119]⟩ : ByteArray)), (⟨#[]⟩ : ByteArray), (⟨#[]⟩ : ByteArray)⟩ : S73)] : List S73)).bind fun t3 => ((f79 k a0_0 a0_1 a0_2).bind fun t4 => (f67.l9 k t3 t4.1 t4.2.1 t4.2.2 ((t3.length : Nat) : Int) 0 a0_0 a0_1 a0_2))) else ((f79 k a0_0 a0_1 a0_2).bind fun t7 => (f67.l9 k ([(⟨1, (a1_0 ++ (⟨#[46, 110, 101, 119]⟩ : ByteArray)), (⟨#[]⟩ : ByteArray), a2_0⟩ : S73), (⟨2, (a1_0 ++ (⟨#[46, 110, 101, 119]⟩ : ByteArray)), a1_0, (⟨#[]⟩ : ByteArray)⟩ : S73)] : List S73) t7.1 t7.2.1 t7.2.2 2 0 a0_0 a0_1 a0_2)))) else none) else some (1, ([] : List S80), ([] : List S80), ([] : List S73))))
def stf67_9 (q3 : List S73) (q4 : List S80) (q5 : List S80) (q6 : List S73) (x41 : Int) (x42 : Int) (b0_0 : List S80) (b0_1 : List S80) (b0_2 : List S73) : St := ⟨[T.dead, T.dead, T.dead, T.ptr 0 0 0, T.dead, T.dead, T.ptr 1 0 0, T.dead, T.dead, T.dead, T.ptr 2 0 0, T.dead, T.dead, T.dead, T.dead, T.dead, T.dead, T.dead, T.dead, T.dead, T.dead, T.dead, T.dead, T.dead, T.dead, T.dead, T.dead, T.dead, T.dead, T.dead, T.dead, T.dead, T.dead, T.dead, T.dead, T.dead, T.dead, T.dead, T.dead, T.dead, T.win 3 0 q3.length, T.sc (.int .i64 x41), T.sc (.int .i64 x42), T.dead, T.dead, T.dead, T.dead, T.dead, T.dead, T.dead, T.dead, T.dead, T.dead, T.dead, T.dead, T.dead, T.dead, T.dead, T.dead, T.dead], [(0, Ob.mkBox 3 (T.agg [T.sl (List.map e80 b0_0) [], T.sl (List.map e80 b0_1) [], T.sl (List.map e73 b0_2) []])), (1, Ob.mkBox 3 (T.agg [T.nil, T.nil, T.nil])), (2, Ob.mkBox 3 (T.agg [T.win 4 0 q4.length, T.win 5 0 q5.length, T.win 6 0 q6.length])), (3, Ob.mkRow 4 (List.map e73 q3)), (4, Ob.mkRow 2 (List.map e80 q4)), (5, Ob.mkRow 2 (List.map e80 q5)), (6, Ob.mkRow 4 (List.map e73 q6))], 7, 0⟩
def f27 (k : Nat) (a0_0 : List S80) (a0_1 : List S80) (a0_2 : List S73) (a1_0 : ByteArray) (a2_0 : ByteArray) : Option (Int × (List S80) × (List S80) × (List S73)) := ((f67 k a0_0 a0_1 a0_2 a1_0 a2_0).bind fun t1 => some (t1.1, t1.2.1, t1.2.2.1, t1.2.2.2))
def f17 (k : Nat) (a0_0 : List S80) (a0_1 : List S80) (a0_2 : List S73) (a1_0 : ByteArray) : Option (ByteArray × Bool) := ((f13 k a0_0 a0_1 a0_2).bind fun t1 => (if t1 = true then ((f52 k a0_0 a1_0).bind fun t2 => (if t2 < 0 then some ((⟨#[]⟩ : ByteArray), false) else (if 0 ≤ t2 then (if t2 < (a0_0.length : Int) then some ((at' a0_0 t2).f1, true) else none) else none))) else some ((⟨#[]⟩ : ByteArray), false)))
def f18 (k : Nat) (a0_0 : List S80) (a0_1 : List S80) (a0_2 : List S73) (a1_0 : ByteArray) : Option (ByteArray × Bool) := ((f53 k a0_0 a1_0).bind fun t1 => ((f49 k a0_0 a0_1 a0_2).bind fun t2 => (if t2 = true then (if t1 < 0 then some ((⟨#[]⟩ : ByteArray), false) else (if 0 ≤ t1 then (if t1 < (a0_0.length : Int) then some ((at' a0_0 t1).f1, true) else none) else none)) else some ((⟨#[]⟩ : ByteArray), false))))
mutual
def f6.l22 : Nat → (List S80) → (List S80) → (List S73) → (List Int) → ByteArray → ByteArray → ByteArray → Bool → Int → Option (Bool)
  | 0, _, _, _, _, _, _, _, _, _ => none
  | k + 1, q1, q2, q3, x0, x4, x5, x13, x14, x19 => (if x19 < 8 then (f6.l26 k ([] : List Int) q1 q2 q3 x0 x4 x5 x13 x14 x19 0) else some true)
def f6.l26 : Nat → (List Int) → (List S80) → (List S80) → (List S73) → (List Int) → ByteArray → ByteArray → ByteArray → Bool → Int → Int → Option (Bool)
  | 0, _, _, _, _, _, _, _, _, _, _, _ => none
  | k + 1, q1, q2, q3, q4, x0, x4, x5, x13, x14, x19, x21 => (if x21 < ((q4.length : Nat) : Int) then (if 0 ≤ (IntKind.u64.wrap x21) then (if (andI .i64 (shrI .i64 x19 (IntKind.u64.wrap x21)) 1) = 1 then (if (q1.length + 1) * 8 ≤ 70368744177664 then (if q1.length + 1 ≤ 70368744177664 then (f6.l26 k (q1 ++ ([x21] : List Int)) q2 q3 q4 x0 x4 x5 x13 x14 x19 (IntKind.i64.wrap (x21 + 1))) else none) else none) else (f6.l26 k q1 q2 q3 q4 x0 x4 x5 x13 x14 x19 (IntKind.i64.wrap (x21 + 1)))) else none) else ((f22 k q2 q3 q4 q1 ((x0.length : Int).tmod 4)).bind fun t11 => ((f18 k t11.2.1 t11.2.2.1 t11.2.2.2 x4).bind fun t12 => (if t11.1 = true then (if (t12.2 == x14) = true then (if t12.2 = true then (if strEq t12.1 x5 = true then (f6.l22 k q2 q3 q4 x0 x4 x5 x13 x14 (IntKind.i64.wrap (x19 + 1))) else (if x14 = true then (if strEq t12.1 x13 = true then (f6.l22 k q2 q3 q4 x0 x4 x5 x13 x14 (IntKind.i64.wrap (x19 + 1))) else some false) else some false)) else (f6.l22 k q2 q3 q4 x0 x4 x5 x13 x14 (IntKind.i64.wrap (x19 + 1)))) else (if t12.2 = true then (if strEq t12.1 x5 = true then (f6.l22 k q2 q3 q4 x0 x4 x5 x13 x14 (IntKind.i64.wrap (x19 + 1))) else some false) else some false)) else some false))))
end
def f6 (k : Nat) (a0_0 : List Int) : Option (Bool) := ((f19 k a0_0).bind fun t1 => (if t1 = true then some true else ((f25 k a0_0).bind fun t2 => ((f26 k t2.1 t2.2.1 t2.2.2.1 t2.2.2.2.1 t2.2.2.2.2).bind fun t3 => ((f27 k t2.1 t2.2.1 t2.2.2.1 t2.2.2.2.1 t2.2.2.2.2).bind fun t4 => (if t4.1 = t3.1 then ((f13 k t2.1 t2.2.1 t2.2.2.1).bind fun t5 => (if t5 = true then ((f24 k t2.1 t2.2.1 t2.2.2.1).bind fun t6 => (if t2.2.2.2.1.size + 4 ≤ 9223372036854775807 then ((f17 k t6.1 t6.2.1 t6.2.2 (t2.2.2.2.1 ++ (⟨#[46, 110, 101, 119]⟩ : ByteArray))).bind fun t7 => (if t7.2 = true then some true else ((f18 k t6.1 t6.2.1 t6.2.2 t2.2.2.2.1).bind fun t8 => ((f27 k t6.1 t6.2.1 t6.2.2 t2.2.2.2.1 t2.2.2.2.2).bind fun t9 => (if t9.1 = 0 then ((f18 k t9.2.1 t9.2.2.1 t9.2.2.2 t2.2.2.2.1).bind fun t10 => (if t10.2 = true then (if strEq t10.1 t2.2.2.2.2 = true then (f6.l22 k t9.2.1 t9.2.2.1 t9.2.2.2 a0_0 t2.2.2.2.1 t2.2.2.2.2 t8.1 t8.2 0) else some false) else some false)) else some true))))) else none)) else some true)) else some false))))))
def stf6_22 (q1 : List S80) (q2 : List S80) (q3 : List S73) (x0 : List Int) (x4 : ByteArray) (x5 : ByteArray) (x13 : ByteArray) (x14 : Bool) (x19 : Int) : St := ⟨[T.sl (List.map e_u8 x0) [], T.dead, T.dead, T.dead, T.sc (.string x4), T.sc (.string x5), T.dead, T.dead, T.dead, T.dead, T.dead, T.dead, T.dead, T.sc (.string x13), T.sc (.bool x14), T.ptr 0 0 0, T.dead, T.dead, T.dead, T.sc (.int .i64 x19), T.dead, T.dead, T.dead, T.dead, T.dead, T.dead, T.dead, T.dead, T.dead, T.dead, T.dead, T.dead, T.dead, T.dead, T.dead, T.dead, T.dead, T.dead, T.dead, T.dead, T.dead, T.dead, T.dead, T.dead, T.dead, T.dead, T.dead, T.dead, T.dead, T.dead, T.dead, T.dead, T.dead, T.dead, T.dead, T.dead, T.dead, T.dead, T.dead, T.dead, T.dead, T.dead, T.dead, T.dead, T.dead, T.dead, T.dead, T.dead, T.dead, T.dead, T.dead, T.dead, T.dead, T.dead, T.dead, T.dead, T.dead, T.dead, T.dead, T.dead, T.dead, T.dead, T.dead, T.dead, T.dead, T.dead, T.dead, T.dead, T.dead, T.dead, T.dead, T.dead, T.dead, T.dead, T.dead, T.dead, T.dead, T.dead, T.dead, T.dead, T.dead, T.dead, T.dead, T.dead, T.dead, T.dead, T.dead, T.dead, T.dead, T.dead, T.dead, T.dead, T.dead, T.dead, T.dead, T.dead, T.dead, T.dead, T.dead, T.dead, T.dead, T.dead, T.dead, T.dead, T.dead, T.dead, T.dead, T.dead, T.dead, T.dead, T.dead, T.dead, T.dead, T.dead, T.dead, T.dead, T.dead, T.dead, T.dead, T.dead, T.dead, T.dead, T.dead, T.dead, T.dead, T.dead, T.dead, T.dead, T.dead, T.dead, T.dead, T.dead, T.dead, T.dead, T.dead, T.dead, T.dead, T.dead, T.dead, T.dead, T.dead, T.dead], [(0, Ob.mkBox 3 (T.agg [T.win 1 0 q1.length, T.win 2 0 q2.length, T.win 3 0 q3.length])), (1, Ob.mkRow 2 (List.map e80 q1)), (2, Ob.mkRow 2 (List.map e80 q2)), (3, Ob.mkRow 4 (List.map e73 q3))], 4, 0⟩
def stf6_26 (q1 : List Int) (q2 : List S80) (q3 : List S80) (q4 : List S73) (x0 : List Int) (x4 : ByteArray) (x5 : ByteArray) (x13 : ByteArray) (x14 : Bool) (x19 : Int) (x21 : Int) : St := ⟨[T.sl (List.map e_u8 x0) [], T.dead, T.dead, T.dead, T.sc (.string x4), T.sc (.string x5), T.dead, T.dead, T.dead, T.dead, T.dead, T.dead, T.dead, T.sc (.string x13), T.sc (.bool x14), T.ptr 0 0 0, T.dead, T.dead, T.dead, T.sc (.int .i64 x19), T.win 1 0 q1.length, T.sc (.int .i64 x21), T.dead, T.dead, T.dead, T.dead, T.dead, T.dead, T.dead, T.dead, T.dead, T.dead, T.dead, T.dead, T.dead, T.dead, T.dead, T.dead, T.dead, T.dead, T.dead, T.dead, T.dead, T.dead, T.dead, T.dead, T.dead, T.dead, T.dead, T.dead, T.dead, T.dead, T.dead, T.dead, T.dead, T.dead, T.dead, T.dead, T.dead, T.dead, T.dead, T.dead, T.dead, T.dead, T.dead, T.dead, T.dead, T.dead, T.dead, T.dead, T.dead, T.dead, T.dead, T.dead, T.dead, T.dead, T.dead, T.dead, T.dead, T.dead, T.dead, T.dead, T.dead, T.dead, T.dead, T.dead, T.dead, T.dead, T.dead, T.dead, T.dead, T.dead, T.dead, T.dead, T.dead, T.dead, T.dead, T.dead, T.dead, T.dead, T.dead, T.dead, T.dead, T.dead, T.dead, T.dead, T.dead, T.dead, T.dead, T.dead, T.dead, T.dead, T.dead, T.dead, T.dead, T.dead, T.dead, T.dead, T.dead, T.dead, T.dead, T.dead, T.dead, T.dead, T.dead, T.dead, T.dead, T.dead, T.dead, T.dead, T.dead, T.dead, T.dead, T.dead, T.dead, T.dead, T.dead, T.dead, T.dead, T.dead, T.dead, T.dead, T.dead, T.dead, T.dead, T.dead, T.dead, T.dead, T.dead, T.dead, T.dead, T.dead, T.dead, T.dead, T.dead, T.dead, T.dead, T.dead, T.dead, T.dead, T.dead, T.dead], [(0, Ob.mkBox 3 (T.agg [T.win 2 0 q2.length, T.win 3 0 q3.length, T.win 4 0 q4.length])), (1, Ob.mkRow 1 (List.map e_i64 q1)), (2, Ob.mkRow 2 (List.map e80 q2)), (3, Ob.mkRow 2 (List.map e80 q3)), (4, Ob.mkRow 4 (List.map e73 q4))], 5, 0⟩
def f82 (k : Nat) (a0_0 : ByteArray) (a0_1 : ByteArray) (a1_0 : Int) : Option (Int) := (if (IntKind.i64.wrap (a1_0 - (a0_0.size : Int))) < 0 then some (-1) else (if (IntKind.i64.wrap ((IntKind.i64.wrap (a1_0 - (a0_0.size : Int))) - (a0_1.size : Int))) < 0 then some (-1) else some (IntKind.i64.wrap ((IntKind.i64.wrap (a1_0 - (a0_0.size : Int))) - (a0_1.size : Int)))))
def f41.l5 : Nat → (List S106) → Int → Int → Option (Int)
  | 0, _, _, _ => none
  | k + 1, x0, x1, x5 => (if x5 < (x0.length : Int) then (if 0 ≤ x5 then ((f82 k ((at' x0 x5).f0) ((at' x0 x5).f1) x1).bind fun t1 => (if t1 < 0 then some (-1) else (f41.l5 k x0 t1 (IntKind.i64.wrap (x5 + 1))))) else none) else some x1)
def f41 (k : Nat) (a0_0 : List S106) (a1_0 : Int) : Option (Int) := (if (IntKind.i64.wrap (a1_0 - (a0_0.length : Int))) < 0 then some (-1) else (f41.l5 k a0_0 (IntKind.i64.wrap (a1_0 - (a0_0.length : Int))) 0))
def stf41_5 (x0 : List S106) (x1 : Int) (x5 : Int) : St := ⟨[T.sl (List.map e106 x0) [], T.sc (.int .i64 x1), T.dead, T.dead, T.dead, T.sc (.int .i64 x5), T.dead, T.dead, T.dead, T.dead, T.dead, T.dead, T.dead, T.dead, T.dead, T.dead, T.dead, T.dead, T.dead, T.dead, T.dead, T.dead, T.dead, T.dead, T.dead, T.dead, T.dead], [], 0, 0⟩
def f83 (k : Nat) (a0_0 : Int) (a0_1 : ByteArray) (a0_2 : ByteArray) (a0_3 : ByteArray) (a1_0 : Int) : Option (Int) := (if (IntKind.i64.wrap (a1_0 - (a0_1.size : Int))) < 0 then some (-1) else (if (IntKind.i64.wrap ((IntKind.i64.wrap (a1_0 - (a0_1.size : Int))) - (a0_2.size : Int))) < 0 then some (-1) else (if (IntKind.i64.wrap ((IntKind.i64.wrap ((IntKind.i64.wrap (a1_0 - (a0_1.size : Int))) - (a0_2.size : Int))) - (a0_3.size : Int))) < 0 then some (-1) else some (IntKind.i64.wrap ((IntKind.i64.wrap ((IntKind.i64.wrap (a1_0 - (a0_1.size : Int))) - (a0_2.size : Int))) - (a0_3.size : Int))))))
def f42.l5 : Nat → (List S108) → Int → Int → Option (Int)
  | 0, _, _, _ => none
  | k + 1, x0, x1, x5 => (if x5 < (x0.length : Int) then (if 0 ≤ x5 then ((f83 k ((at' x0 x5).f0) ((at' x0 x5).f1) ((at' x0 x5).f2) ((at' x0 x5).f3) x1).bind fun t1 => (if t1 < 0 then some (-1) else (f42.l5 k x0 t1 (IntKind.i64.wrap (x5 + 1))))) else none) else some x1)
def f42 (k : Nat) (a0_0 : List S108) (a1_0 : Int) : Option (Int) := (if (IntKind.i64.wrap (a1_0 - (a0_0.length : Int))) < 0 then some (-1) else (f42.l5 k a0_0 (IntKind.i64.wrap (a1_0 - (a0_0.length : Int))) 0))
def stf42_5 (x0 : List S108) (x1 : Int) (x5 : Int) : St := ⟨[T.sl (List.map e108 x0) [], T.sc (.int .i64 x1), T.dead, T.dead, T.dead, T.sc (.int .i64 x5), T.dead, T.dead, T.dead, T.dead, T.dead, T.dead, T.dead, T.dead, T.dead, T.dead, T.dead, T.dead, T.dead, T.dead, T.dead, T.dead, T.dead, T.dead, T.dead, T.dead, T.dead], [], 0, 0⟩
def f12 (k : Nat) (a0_0 : List S106) (a0_1 : List S106) (a0_2 : List S108) (a1_0 : Int) : Option (Int) := ((f41 k a0_0 a1_0).bind fun t1 => (if t1 < 0 then some (-1) else ((f41 k a0_1 t1).bind fun t2 => (if t2 < 0 then some (-1) else ((f42 k a0_2 t2).bind fun t3 => (if t3 < 0 then some (-1) else some t3))))))
def f87 (k : Nat) (a0_0 : ByteArray) (a0_1 : ByteArray) : Option (ByteArray × ByteArray) := some (a0_0, a0_1)
def f47.l3 : Nat → (List S80) → (List S106) → Int → Option ((List S80))
  | 0, _, _, _ => none
  | k + 1, q0, x0, x4 => (if x4 < (x0.length : Int) then (if 0 ≤ x4 then ((f87 k ((at' x0 x4).f0) ((at' x0 x4).f1)).bind fun t1 => (if x4 < ((q0.length : Nat) : Int) then (f47.l3 k (q0.set x4.toNat (⟨t1.1, t1.2⟩ : S80)) x0 (IntKind.i64.wrap (x4 + 1))) else none)) else none) else some q0)
def f47 (k : Nat) (a0_0 : List S106) : Option ((List S80)) := (if 0 ≤ (a0_0.length : Int) then (if (a0_0.length : Int) ≤ (a0_0.length : Int) then (if (a0_0.length : Int) * 32 ≤ 70368744177664 then (if (a0_0.length : Int) ≤ 70368744177664 then (f47.l3 k (List.replicate (a0_0.length : Int).toNat (⟨(⟨#[]⟩ : ByteArray), (⟨#[]⟩ : ByteArray)⟩ : S80)) a0_0 0) else none) else none) else none) else none)
def stf47_3 (q0 : List S80) (x0 : List S106) (x4 : Int) : St := ⟨[T.sl (List.map e106 x0) [], T.dead, T.dead, T.win 0 0 q0.length, T.sc (.int .i64 x4), T.dead, T.dead, T.dead, T.dead, T.dead, T.dead, T.dead, T.dead, T.dead, T.dead, T.dead, T.dead, T.dead, T.dead, T.dead, T.dead, T.dead, T.dead], [(0, Ob.mkRow 2 (List.map e80 q0))], 1, 0⟩
def f88 (k : Nat) (a0_0 : Int) (a0_1 : ByteArray) (a0_2 : ByteArray) (a0_3 : ByteArray) : Option (Int × ByteArray × ByteArray × ByteArray) := some (a0_0, a0_1, a0_2, a0_3)
def f48.l3 : Nat → (List S73) → (List S108) → Int → Option ((List S73))
  | 0, _, _, _ => none
  | k + 1, q0, x0, x4 => (if x4 < (x0.length : Int) then (if 0 ≤ x4 then ((f88 k ((at' x0 x4).f0) ((at' x0 x4).f1) ((at' x0 x4).f2) ((at' x0 x4).f3)).bind fun t1 => (if x4 < ((q0.length : Nat) : Int) then (f48.l3 k (q0.set x4.toNat (⟨t1.1, t1.2.1, t1.2.2.1, t1.2.2.2⟩ : S73)) x0 (IntKind.i64.wrap (x4 + 1))) else none)) else none) else some q0)
def f48 (k : Nat) (a0_0 : List S108) : Option ((List S73)) := (if 0 ≤ (a0_0.length : Int) then (if (a0_0.length : Int) ≤ (a0_0.length : Int) then (if (a0_0.length : Int) * 56 ≤ 70368744177664 then (if (a0_0.length : Int) ≤ 70368744177664 then (f48.l3 k (List.replicate (a0_0.length : Int).toNat (⟨0, (⟨#[]⟩ : ByteArray), (⟨#[]⟩ : ByteArray), (⟨#[]⟩ : ByteArray)⟩ : S73)) a0_0 0) else none) else none) else none) else none)
def stf48_3 (q0 : List S73) (x0 : List S108) (x4 : Int) : St := ⟨[T.sl (List.map e108 x0) [], T.dead, T.dead, T.win 0 0 q0.length, T.sc (.int .i64 x4), T.dead, T.dead, T.dead, T.dead, T.dead, T.dead, T.dead, T.dead, T.dead, T.dead, T.dead, T.dead, T.dead, T.dead, T.dead, T.dead, T.dead, T.dead], [(0, Ob.mkRow 4 (List.map e73 q0))], 1, 0⟩
def f14 (k : Nat) (a0_0 : List S106) (a0_1 : List S106) (a0_2 : List S108) : Option ((List S80) × (List S80) × (List S73)) := ((f47 k a0_0).bind fun t1 => ((f47 k a0_1).bind fun t2 => ((f48 k a0_2).bind fun t3 => some (t1, t2, t3))))
def f31.l3 : Nat → (List Int) → (List Int) → Int → Option ((List Int))
  | 0, _, _, _ => none
  | k + 1, q0, x0, x4 => (if x4 < (x0.length : Int) then (if 0 ≤ x4 then (if x4 < ((q0.length : Nat) : Int) then (f31.l3 k (q0.set x4.toNat (at' x0 x4)) x0 (IntKind.i64.wrap (x4 + 1))) else none) else none) else some q0)
def f31 (k : Nat) (a0_0 : List Int) : Option ((List Int)) := (if 0 ≤ (a0_0.length : Int) then (if (a0_0.length : Int) ≤ (a0_0.length : Int) then (if (a0_0.length : Int) * 8 ≤ 70368744177664 then (if (a0_0.length : Int) ≤ 70368744177664 then (f31.l3 k (List.replicate (a0_0.length : Int).toNat 0) a0_0 0) else none) else none) else none) else none)
def stf31_3 (q0 : List Int) (x0 : List Int) (x4 : Int) : St := ⟨[T.sl (List.map e_i64 x0) [], T.dead, T.dead, T.win 0 0 q0.length, T.sc (.int .i64 x4), T.dead, T.dead, T.dead, T.dead, T.dead, T.dead, T.dead, T.dead, T.dead, T.dead, T.dead, T.dead, T.dead, T.dead, T.dead, T.dead, T.dead], [(0, Ob.mkRow 1 (List.map e_i64 q0))], 1, 0⟩
def f91 (k : Nat) (a0_0 : ByteArray) (a0_1 : ByteArray) (a1_0 : ByteArray) (a1_1 : ByteArray) : Option (Bool) := (if strEq a0_0 a1_0 = true then (if strEq a0_1 a1_1 = true then some true else some false) else some false)
def f50.l4 : Nat → (List S80) → (List S80) → Int → Option (Bool)
  | 0, _, _, _ => none
  | k + 1, x0, x1, x5 => (if x5 < (x0.length : Int) then (if 0 ≤ x5 then (if x5 < (x1.length : Int) then ((f91 k ((at' x0 x5).f0) ((at' x0 x5).f1) ((at' x1 x5).f0) ((at' x1 x5).f1)).bind fun t1 => (if t1 = true then (f50.l4 k x0 x1 (IntKind.i64.wrap (x5 + 1))) else some false)) else none) else none) else some true)
def f50 (k : Nat) (a0_0 : List S80) (a1_0 : List S80) : Option (Bool) := (if (a0_0.length : Int) = (a1_0.length : Int) then (f50.l4 k a0_0 a1_0 0) else some false)
def stf50_4 (x0 : List S80) (x1 : List S80) (x5 : Int) : St := ⟨[T.sl (List.map e80 x0) [], T.sl (List.map e80 x1) [], T.dead, T.dead, T.dead, T.sc (.int .i64 x5), T.dead, T.dead, T.dead, T.dead, T.dead, T.dead, T.dead, T.dead, T.dead, T.dead, T.dead, T.dead, T.dead, T.dead, T.dead, T.dead, T.dead, T.dead, T.dead, T.dead, T.dead], [], 0, 0⟩
def f92 (k : Nat) (a0_0 : Int) (a0_1 : ByteArray) (a0_2 : ByteArray) (a0_3 : ByteArray) (a1_0 : Int) (a1_1 : ByteArray) (a1_2 : ByteArray) (a1_3 : ByteArray) : Option (Bool) := (if a0_0 = a1_0 then (if strEq a0_1 a1_1 = true then (if strEq a0_2 a1_2 = true then (if strEq a0_3 a1_3 = true then some true else some false) else some false) else some false) else some false)
def f51.l4 : Nat → (List S73) → (List S73) → Int → Option (Bool)
  | 0, _, _, _ => none
  | k + 1, x0, x1, x5 => (if x5 < (x0.length : Int) then (if 0 ≤ x5 then (if x5 < (x1.length : Int) then ((f92 k ((at' x0 x5).f0) ((at' x0 x5).f1) ((at' x0 x5).f2) ((at' x0 x5).f3) ((at' x1 x5).f0) ((at' x1 x5).f1) ((at' x1 x5).f2) ((at' x1 x5).f3)).bind fun t1 => (if t1 = true then (f51.l4 k x0 x1 (IntKind.i64.wrap (x5 + 1))) else some false)) else none) else none) else some true)
def f51 (k : Nat) (a0_0 : List S73) (a1_0 : List S73) : Option (Bool) := (if (a0_0.length : Int) = (a1_0.length : Int) then (f51.l4 k a0_0 a1_0 0) else some false)
def stf51_4 (x0 : List S73) (x1 : List S73) (x5 : Int) : St := ⟨[T.sl (List.map e73 x0) [], T.sl (List.map e73 x1) [], T.dead, T.dead, T.dead, T.sc (.int .i64 x5), T.dead, T.dead, T.dead, T.dead, T.dead, T.dead, T.dead, T.dead, T.dead, T.dead, T.dead, T.dead, T.dead, T.dead, T.dead, T.dead, T.dead, T.dead, T.dead, T.dead, T.dead], [], 0, 0⟩
def f16 (k : Nat) (a0_0 : List S80) (a0_1 : List S80) (a0_2 : List S73) (a1_0 : List S80) (a1_1 : List S80) (a1_2 : List S73) : Option (Bool) := ((f50 k a0_0 a1_0).bind fun t1 => (if t1 = true then ((f50 k a0_1 a1_1).bind fun t2 => (if t2 = true then ((f51 k a0_2 a1_2).bind fun t3 => (if t3 = true then some true else some false)) else some false)) else some false))
def f32.l4 : Nat → (List Int) → (List Int) → Int → Option (Bool)
  | 0, _, _, _ => none
  | k + 1, x0, x1, x5 => (if x5 < (x0.length : Int) then (if 0 ≤ x5 then (if x5 < (x1.length : Int) then (if (at' x0 x5) = (at' x1 x5) then (f32.l4 k x0 x1 (IntKind.i64.wrap (x5 + 1))) else some false) else none) else none) else some true)
def f32 (k : Nat) (a0_0 : List Int) (a1_0 : List Int) : Option (Bool) := (if (a0_0.length : Int) = (a1_0.length : Int) then (f32.l4 k a0_0 a1_0 0) else some false)
def stf32_4 (x0 : List Int) (x1 : List Int) (x5 : Int) : St := ⟨[T.sl (List.map e_i64 x0) [], T.sl (List.map e_i64 x1) [], T.dead, T.dead, T.dead, T.sc (.int .i64 x5), T.dead, T.dead, T.dead, T.dead, T.dead, T.dead, T.dead, T.dead, T.dead, T.dead, T.dead, T.dead, T.dead, T.dead, T.dead, T.dead, T.dead, T.dead, T.dead, T.dead], [], 0, 0⟩
def f105.l4 : Nat → Int → ByteArray → Option (ByteArray)
  | 0, _, _ => none
  | k + 1, x0, x3 => (if 0 < x0 then (if 1 + x3.size ≤ 9223372036854775807 then (f105.l4 k (IntKind.i64.wrap (x0.tdiv 10)) ((strOf ([(IntKind.u8.wrap (IntKind.i64.wrap (48 + (x0.tmod 10))))] : List Int)) ++ x3)) else none) else (if 1 + x3.size ≤ 9223372036854775807 then some ((⟨#[109]⟩ : ByteArray) ++ x3) else none))
def f105 (k : Nat) (a0_0 : Int) : Option (ByteArray) := (if a0_0 ≤ 0 then some (⟨#[109, 48]⟩ : ByteArray) else (f105.l4 k a0_0 (⟨#[]⟩ : ByteArray)))
def stf105_4 (x0 : Int) (x3 : ByteArray) : St := ⟨[T.sc (.int .i64 x0), T.dead, T.dead, T.sc (.string x3), T.dead, T.dead, T.dead, T.dead, T.dead, T.dead, T.dead, T.dead, T.dead, T.dead, T.dead, T.dead, T.dead, T.dead, T.dead, T.dead], [], 0, 0⟩
def f68.l2 : Nat → (List S80) → Int → Int → Option (Int × (List S80))
  | 0, _, _, _ => none
  | k + 1, q0, x1, x5 => (if x5 < ((q0.length : Nat) : Int) then ((f105 k x1).bind fun t1 => (if 0 ≤ x5 then ((f105 k (IntKind.i64.wrap (x1 + 1))).bind fun t2 => (f68.l2 k (q0.set x5.toNat (⟨t1, t2⟩ : S80)) (IntKind.i64.wrap ((IntKind.i64.wrap (x1 + 1)) + 1)) (IntKind.i64.wrap (x5 + 1)))) else none)) else some (x1, q0))
def f68 (k : Nat) (a1_0 : Int) (o0 : List S80) : Option (Int × (List S80)) := (f68.l2 k o0 a1_0 0)
def stf68_2 (q0 : List S80) (x1 : Int) (x5 : Int) : St := ⟨[T.win 0 0 q0.length, T.sc (.int .i64 x1), T.dead, T.dead, T.dead, T.sc (.int .i64 x5), T.dead, T.dead, T.dead, T.dead, T.dead, T.dead, T.dead, T.dead, T.dead, T.dead, T.dead, T.dead, T.dead, T.dead, T.dead, T.dead, T.dead, T.dead, T.dead, T.dead, T.dead, T.dead, T.dead], [(0, Ob.mkRow 2 (List.map e80 q0))], 1, 1⟩
def f69.l2 : Nat → (List S73) → Int → Int → Option (Int × (List S73))
  | 0, _, _, _ => none
  | k + 1, q0, x1, x5 => (if x5 < ((q0.length : Nat) : Int) then (if 0 ≤ x5 then ((f105 k (IntKind.i64.wrap (x1 + 1))).bind fun t1 => ((f105 k (IntKind.i64.wrap ((IntKind.i64.wrap (x1 + 1)) + 1))).bind fun t2 => ((f105 k (IntKind.i64.wrap ((IntKind.i64.wrap ((IntKind.i64.wrap (x1 + 1)) + 1)) + 1))).bind fun t3 => (f69.l2 k (q0.set x5.toNat (⟨x1, t1, t2, t3⟩ : S73)) (IntKind.i64.wrap ((IntKind.i64.wrap ((IntKind.i64.wrap ((IntKind.i64.wrap (x1 + 1)) + 1)) + 1)) + 1)) (IntKind.i64.wrap (x5 + 1)))))) else none) else some (x1, q0))
def f69 (k : Nat) (a1_0 : Int) (o0 : List S73) : Option (Int × (List S73)) := (f69.l2 k o0 a1_0 0)
def stf69_2 (q0 : List S73) (x1 : Int) (x5 : Int) : St := ⟨[T.win 0 0 q0.length, T.sc (.int .i64 x1), T.dead, T.dead, T.dead, T.sc (.int .i64 x5), T.dead, T.dead, T.dead, T.dead, T.dead, T.dead, T.dead, T.dead, T.dead, T.dead, T.dead, T.dead, T.dead, T.dead, T.dead, T.dead, T.dead, T.dead, T.dead, T.dead, T.dead, T.dead, T.dead, T.dead, T.dead, T.dead, T.dead, T.dead, T.dead, T.dead, T.dead, T.dead, T.dead, T.dead, T.dead, T.dead, T.dead, T.dead], [(0, Ob.mkRow 4 (List.map e73 q0))], 1, 1⟩
def f29 (k : Nat) (a1_0 : Int) (o0 : List S80) (o1 : List S80) (o2 : List S73) : Option (Int × (List S80) × (List S80) × (List S73)) := ((f68 k a1_0 o0).bind fun t1 => ((f68 k t1.1 o1).bind fun t2 => ((f69 k t2.1 o2).bind fun t3 => some (t3.1, t1.2, t2.2, t3.2))))
def f33.l2 : Nat → (List Int) → Int → Int → Option (Int × (List Int))
  | 0, _, _, _ => none
  | k + 1, q0, x1, x5 => (if x5 < ((q0.length : Nat) : Int) then (if 0 ≤ x5 then (f33.l2 k (q0.set x5.toNat x1) (IntKind.i64.wrap (x1 + 1)) (IntKind.i64.wrap (x5 + 1))) else none) else some (x1, q0))
def f33 (k : Nat) (a1_0 : Int) (o0 : List Int) : Option (Int × (List Int)) := (f33.l2 k o0 a1_0 0)
def stf33_2 (q0 : List Int) (x1 : Int) (x5 : Int) : St := ⟨[T.win 0 0 q0.length, T.sc (.int .i64 x1), T.dead, T.dead, T.dead, T.sc (.int .i64 x5), T.dead, T.dead, T.dead, T.dead, T.dead, T.dead, T.dead, T.dead, T.dead, T.dead, T.dead, T.dead, T.dead], [(0, Ob.mkRow 1 (List.map e_i64 q0))], 1, 1⟩
def f70.l2 : Nat → (List S80) → Int → Int → Option (Int)
  | 0, _, _, _ => none
  | k + 1, x0, x1, x5 => (if x5 < (x0.length : Int) then (if 0 ≤ x5 then ((f105 k x1).bind fun t1 => (if strEq ((at' x0 x5).f0) t1 = true then ((f105 k (IntKind.i64.wrap (x1 + 1))).bind fun t2 => (if strEq ((at' x0 x5).f1) t2 = true then (f70.l2 k x0 (IntKind.i64.wrap ((IntKind.i64.wrap (x1 + 1)) + 1)) (IntKind.i64.wrap (x5 + 1))) else some (-1))) else some (-1))) else none) else some x1)
def f70 (k : Nat) (a0_0 : List S80) (a1_0 : Int) : Option (Int) := (f70.l2 k a0_0 a1_0 0)
def stf70_2 (x0 : List S80) (x1 : Int) (x5 : Int) : St := ⟨[T.sl (List.map e80 x0) [], T.sc (.int .i64 x1), T.dead, T.dead, T.dead, T.sc (.int .i64 x5), T.dead, T.dead, T.dead, T.dead, T.dead, T.dead, T.dead, T.dead, T.dead, T.dead, T.dead, T.dead, T.dead, T.dead, T.dead, T.dead, T.dead, T.dead, T.dead, T.dead, T.dead, T.dead, T.dead, T.dead, T.dead, T.dead, T.dead], [], 0, 0⟩
def f71.l2 : Nat → (List S73) → Int → Int → Option (Int)
  | 0, _, _, _ => none
  | k + 1, x0, x1, x5 => (if x5 < (x0.length : Int) then (if 0 ≤ x5 then (if (at' x0 x5).f0 = x1 then ((f105 k (IntKind.i64.wrap (x1 + 1))).bind fun t1 => (if strEq ((at' x0 x5).f1) t1 = true then ((f105 k (IntKind.i64.wrap ((IntKind.i64.wrap (x1 + 1)) + 1))).bind fun t2 => (if strEq ((at' x0 x5).f2) t2 = true then ((f105 k (IntKind.i64.wrap ((IntKind.i64.wrap ((IntKind.i64.wrap (x1 + 1)) + 1)) + 1))).bind fun t3 => (if strEq ((at' x0 x5).f3) t3 = true then (f71.l2 k x0 (IntKind.i64.wrap ((IntKind.i64.wrap ((IntKind.i64.wrap ((IntKind.i64.wrap (x1 + 1)) + 1)) + 1)) + 1)) (IntKind.i64.wrap (x5 + 1))) else some (-1))) else some (-1))) else some (-1))) else some (-1)) else none) else some x1)
def f71 (k : Nat) (a0_0 : List S73) (a1_0 : Int) : Option (Int) := (f71.l2 k a0_0 a1_0 0)
def stf71_2 (x0 : List S73) (x1 : Int) (x5 : Int) : St := ⟨[T.sl (List.map e73 x0) [], T.sc (.int .i64 x1), T.dead, T.dead, T.dead, T.sc (.int .i64 x5), T.dead, T.dead, T.dead, T.dead, T.dead, T.dead, T.dead, T.dead, T.dead, T.dead, T.dead, T.dead, T.dead, T.dead, T.dead, T.dead, T.dead, T.dead, T.dead, T.dead, T.dead, T.dead, T.dead, T.dead, T.dead, T.dead, T.dead, T.dead, T.dead, T.dead, T.dead, T.dead, T.dead, T.dead, T.dead, T.dead, T.dead, T.dead, T.dead, T.dead, T.dead, T.dead, T.dead, T.dead, T.dead, T.dead], [], 0, 0⟩
def f30 (k : Nat) (a0_0 : List S80) (a0_1 : List S80) (a0_2 : List S73) (a1_0 : Int) : Option (Int) := ((f70 k a0_0 a1_0).bind fun t1 => (if t1 < 0 then some (-1) else ((f70 k a0_1 t1).bind fun t2 => (if t2 < 0 then some (-1) else ((f71 k a0_2 t2).bind fun t3 => (if t3 < 0 then some (-1) else some t3))))))
def f8 (k : Nat) (a0_0 : List S106) (a0_1 : List S106) (a0_2 : List S108) (a1_0 : List Int) (a2_0 : Int) : Option (Bool) := (if 1048576 < (a1_0.length : Int) then some true else ((f12 k a0_0 a0_1 a0_2 1048576).bind fun t1 => (if t1 < 0 then some true else ((f14 k a0_0 a0_1 a0_2).bind fun t2 => ((f31 k a1_0).bind fun t3 => ((f21 k t2.1 t2.2.1 t2.2.2 t3 a2_0).bind fun t4 => ((f22 k t2.1 t2.2.1 t2.2.2 t3 a2_0).bind fun t5 => ((f16 k t5.2.1 t5.2.2.1 t5.2.2.2 t4.2.1 t4.2.2.1 t4.2.2.2).bind fun t6 => (if t6 = true then (if (t5.1 == t4.1) = true then ((f16 k t2.1 t2.2.1 t2.2.2 t2.1 t2.2.1 t2.2.2).bind fun t7 => (if t7 = true then ((f32 k t3 t3).bind fun t8 => (if t8 = true then ((f29 k 1 t2.1 t2.2.1 t2.2.2).bind fun t9 => ((f33 k t9.1 t3).bind fun t10 => (if t10.1 < 0 then some false else ((f29 k 1 t5.2.1 t5.2.2.1 t5.2.2.2).bind fun t11 => (if t5.2.1.length ≤ t11.2.1.length then (if t5.2.2.1.length ≤ t11.2.2.1.length then (if t5.2.2.2.length ≤ t11.2.2.2.length then ((f30 k (t11.2.1.take t5.2.1.length) (t11.2.2.1.take t5.2.2.1.length) (t11.2.2.2.take t5.2.2.2.length) 1).bind fun t12 => (if t12 < 0 then some false else (if t12 = t11.1 then some true else some false))) else none) else none) else none))))) else some false)) else some false)) else some false) else some false)))))))))
def f136 (k : Nat) (a0_0 : ByteArray) : Option (Int) := (if 0 < (a0_0.size : Int) then (if 1 < (a0_0.size : Int) then (if 2 < (a0_0.size : Int) then (if 3 < (a0_0.size : Int) then some (orI .u32 (orI .u32 (orI .u32 (IntKind.u32.wrap (byteAt a0_0 0)) (shlI .u32 (IntKind.u32.wrap (byteAt a0_0 1)) 8)) (shlI .u32 (IntKind.u32.wrap (byteAt a0_0 2)) 16)) (shlI .u32 (IntKind.u32.wrap (byteAt a0_0 3)) 24)) else none) else none) else none) else none)
mutual
def f131.l3 : Nat → ByteArray → Int → Int → Option (Int)
  | 0, _, _, _ => none
  | k + 1, x0, x3, x4 => (if x4 < (x0.size : Int) then (if 0 ≤ x4 then (f131.l7 k x0 (xorI .u32 x3 (IntKind.u32.wrap (byteAt x0 x4))) x4 0) else none) else some (xorI .u32 (notI .u32) x3))
def f131.l7 : Nat → ByteArray → Int → Int → Int → Option (Int)
  | 0, _, _, _, _ => none
  | k + 1, x0, x3, x4, x5 => (if x5 < 8 then (if (andI .u32 x3 1) = 1 then (f131.l7 k x0 (xorI .u32 (shrI .u32 x3 1) 3988292384) x4 (IntKind.i64.wrap (x5 + 1))) else (f131.l7 k x0 (shrI .u32 x3 1) x4 (IntKind.i64.wrap (x5 + 1)))) else (f131.l3 k x0 x3 (IntKind.i64.wrap (x4 + 1))))
end
def f131 (k : Nat) (a0_0 : ByteArray) : Option (Int) := (f131.l3 k a0_0 4294967295 0)
def stf131_3 (x0 : ByteArray) (x3 : Int) (x4 : Int) : St := ⟨[T.sc (.string x0), T.dead, T.dead, T.sc (.int .u32 x3), T.sc (.int .i64 x4), T.dead, T.dead, T.dead, T.dead, T.dead, T.dead, T.dead, T.dead, T.dead, T.dead, T.dead, T.dead, T.dead, T.dead, T.dead, T.dead, T.dead, T.dead, T.dead, T.dead, T.dead, T.dead, T.dead, T.dead, T.dead, T.dead, T.dead, T.dead], [], 0, 0⟩
def stf131_7 (x0 : ByteArray) (x3 : Int) (x4 : Int) (x5 : Int) : St := ⟨[T.sc (.string x0), T.dead, T.dead, T.sc (.int .u32 x3), T.sc (.int .i64 x4), T.sc (.int .i64 x5), T.dead, T.dead, T.dead, T.dead, T.dead, T.dead, T.dead, T.dead, T.dead, T.dead, T.dead, T.dead, T.dead, T.dead, T.dead, T.dead, T.dead, T.dead, T.dead, T.dead, T.dead, T.dead, T.dead, T.dead, T.dead, T.dead, T.dead], [], 0, 0⟩
def f124 (k : Nat) (a0_0 : ByteArray) : Option (Int × ByteArray × Int × Int) := (if 0 < (a0_0.size : Int) then ((f58 k (IntKind.i64.wrap (byteAt a0_0 0)) 1 100).bind fun t1 => (if t1 = true then (if (a0_0.size : Int) < 5 then some (0, (⟨#[]⟩ : ByteArray), 0, 1) else (if 5 ≤ ((a0_0.size : Nat) : Int) then ((f136 k (a0_0.extract 1 5)).bind fun t2 => (if 20000 < t2 then some (0, (⟨#[]⟩ : ByteArray), 0, 3) else (if (a0_0.size : Int) < (IntKind.i64.wrap (9 + (IntKind.i64.wrap t2))) then some (0, (⟨#[]⟩ : ByteArray), 0, 1) else (if 0 ≤ (IntKind.i64.wrap (9 + (IntKind.i64.wrap t2))) then (if (IntKind.i64.wrap (9 + (IntKind.i64.wrap t2))) ≤ ((a0_0.size : Nat) : Int) then (if 0 ≤ (IntKind.i64.wrap ((IntKind.i64.wrap (9 + (IntKind.i64.wrap t2))) - 4)) then (if (IntKind.i64.wrap ((IntKind.i64.wrap (9 + (IntKind.i64.wrap t2))) - 4)) ≤ max (IntKind.i64.wrap (9 + (IntKind.i64.wrap t2))) 0 then ((f136 k (a0_0.extract ((IntKind.i64.wrap ((IntKind.i64.wrap (9 + (IntKind.i64.wrap t2))) - 4)).toNat) ((IntKind.i64.wrap (9 + (IntKind.i64.wrap t2))).toNat))).bind fun t3 => (if (IntKind.i64.wrap ((IntKind.i64.wrap (9 + (IntKind.i64.wrap t2))) - 4)) ≤ ((a0_0.size : Nat) : Int) then ((f131 k (a0_0.extract 0 ((IntKind.i64.wrap ((IntKind.i64.wrap (9 + (IntKind.i64.wrap t2))) - 4)).toNat))).bind fun t4 => (if t3 = t4 then (if 5 ≤ max (IntKind.i64.wrap ((IntKind.i64.wrap (9 + (IntKind.i64.wrap t2))) - 4)) 0 then some ((IntKind.i64.wrap (byteAt a0_0 0)), (a0_0.extract 5 ((IntKind.i64.wrap ((IntKind.i64.wrap (9 + (IntKind.i64.wrap t2))) - 4)).toNat)), (IntKind.i64.wrap (9 + (IntKind.i64.wrap t2))), 0) else none) else some (0, (⟨#[]⟩ : ByteArray), 0, 4))) else none)) else none) else none) else none) else none)))) else none)) else some (0, (⟨#[]⟩ : ByteArray), 0, 2))) else none)
def f106.l3 : Nat → (List S104) → ByteArray → Int → Option (Int × Int × (List S104))
  | 0, _, _, _ => none
  | k + 1, q0, x0, x6 => (if x6 < (x0.size : Int) then (if ((q0.length : Nat) : Int) = 2000 then some (x6, 5, q0) else (if 0 ≤ x6 then (if x6 ≤ ((x0.size : Nat) : Int) then ((f124 k (x0.extract x6.toNat x0.size)).bind fun t1 => (if t1.2.2.2 = 0 then (if (q0.length + 1) * 24 ≤ 70368744177664 then (if q0.length + 1 ≤ 70368744177664 then (f106.l3 k (q0 ++ ([(⟨t1.1, t1.2.1⟩ : S104)] : List S104)) x0 (IntKind.i64.wrap (x6 + t1.2.2.1))) else none) else none) else some (x6, t1.2.2.2, q0))) else none) else none)) else some (x6, 0, q0))
def f106 (k : Nat) (a0_0 : ByteArray) : Option (Int × Int × (List S104)) := (f106.l3 k ([] : List S104) a0_0 0)
def stf106_3 (q0 : List S104) (x0 : ByteArray) (x6 : Int) : St := ⟨[T.sc (.string x0), T.dead, T.dead, T.dead, T.dead, T.win 0 0 q0.length, T.sc (.int .i64 x6), T.dead, T.dead, T.dead, T.dead, T.dead, T.dead, T.dead, T.dead, T.dead, T.dead, T.dead, T.dead, T.dead, T.dead, T.dead, T.dead, T.dead, T.dead, T.dead, T.dead, T.dead, T.dead, T.dead, T.dead, T.dead, T.dead, T.dead, T.dead, T.dead, T.dead, T.dead, T.dead, T.dead, T.dead, T.dead], [(0, Ob.mkRow 2 (List.map e104 q0))], 1, 0⟩
def f107.l4 : Nat → ByteArray → Int → Int → Int → Option (Int × ByteArray × Bool)
  | 0, _, _, _, _ => none
  | k + 1, x0, x5, x6, x7 => (if x7 < (x0.size : Int) then (if x7 < 6 then (if 0 ≤ x7 then (if (IntKind.i64.wrap (byteAt x0 x7)) < 128 then (if (IntKind.i64.wrap (byteAt x0 x7)) = 0 then (if 0 < x7 then some (0, (⟨#[]⟩ : ByteArray), false) else (if 1000000000000 < (IntKind.i64.wrap (x5 + (IntKind.i64.wrap (((IntKind.i64.wrap (byteAt x0 x7)).tmod 128) * x6)))) then some (0, (⟨#[]⟩ : ByteArray), false) else (if 0 ≤ (IntKind.i64.wrap (x7 + 1)) then (if (IntKind.i64.wrap (x7 + 1)) ≤ ((x0.size : Nat) : Int) then some ((IntKind.i64.wrap (x5 + (IntKind.i64.wrap (((IntKind.i64.wrap (byteAt x0 x7)).tmod 128) * x6)))), (x0.extract ((IntKind.i64.wrap (x7 + 1)).toNat) x0.size), true) else none) else none))) else (if 1000000000000 < (IntKind.i64.wrap (x5 + (IntKind.i64.wrap (((IntKind.i64.wrap (byteAt x0 x7)).tmod 128) * x6)))) then some (0, (⟨#[]⟩ : ByteArray), false) else (if 0 ≤ (IntKind.i64.wrap (x7 + 1)) then (if (IntKind.i64.wrap (x7 + 1)) ≤ ((x0.size : Nat) : Int) then some ((IntKind.i64.wrap (x5 + (IntKind.i64.wrap (((IntKind.i64.wrap (byteAt x0 x7)).tmod 128) * x6)))), (x0.extract ((IntKind.i64.wrap (x7 + 1)).toNat) x0.size), true) else none) else none))) else (f107.l4 k x0 (IntKind.i64.wrap (x5 + (IntKind.i64.wrap (((IntKind.i64.wrap (byteAt x0 x7)).tmod 128) * x6)))) (IntKind.i64.wrap (x6 * 128)) (IntKind.i64.wrap (x7 + 1)))) else none) else some (0, (⟨#[]⟩ : ByteArray), false)) else some (0, (⟨#[]⟩ : ByteArray), false))
def f107 (k : Nat) (a0_0 : ByteArray) : Option (Int × ByteArray × Bool) := (f107.l4 k a0_0 0 1 0)
def stf107_4 (x0 : ByteArray) (x5 : Int) (x6 : Int) (x7 : Int) : St := ⟨[T.sc (.string x0), T.dead, T.dead, T.dead, T.dead, T.sc (.int .i64 x5), T.sc (.int .i64 x6), T.sc (.int .i64 x7), T.dead, T.dead, T.dead, T.dead, T.dead, T.dead, T.dead, T.dead, T.dead, T.dead, T.dead, T.dead, T.dead, T.dead, T.dead, T.dead, T.dead, T.dead, T.dead, T.dead, T.dead, T.dead, T.dead, T.dead, T.dead, T.dead, T.dead, T.dead, T.dead, T.dead, T.dead, T.dead, T.dead, T.dead, T.dead, T.dead, T.dead, T.dead, T.dead, T.dead], [], 0, 0⟩
def f137 (k : Nat) (a0_0 : ByteArray) : Option (ByteArray × ByteArray × Bool) := ((f107 k a0_0).bind fun t1 => (if t1.2.2 = true then (if 20000 < t1.1 then some ((⟨#[]⟩ : ByteArray), (⟨#[]⟩ : ByteArray), false) else (if (t1.2.1.size : Int) < t1.1 then some ((⟨#[]⟩ : ByteArray), (⟨#[]⟩ : ByteArray), false) else (if 0 ≤ t1.1 then (if t1.1 ≤ ((t1.2.1.size : Nat) : Int) then some ((t1.2.1.extract 0 t1.1.toNat), (t1.2.1.extract t1.1.toNat t1.2.1.size), true) else none) else none))) else some ((⟨#[]⟩ : ByteArray), (⟨#[]⟩ : ByteArray), false)))
def f138 (k : Nat) (a0_0 : Int) (a0_1 : Int) (a0_2 : ByteArray) : Option (Bool) := ((f58 k a0_0 1 1000000000000).bind fun t1 => (if t1 = true then ((f58 k a0_1 0 9).bind fun t2 => (if t2 = true then some (decide ((a0_2.size : Int) ≤ 4000)) else some false)) else some false))
def f125 (k : Nat) (a0_0 : Int) (a0_1 : ByteArray) : Option (Int × Int × ByteArray × Bool) := ((f107 k a0_1).bind fun t1 => ((f107 k t1.2.1).bind fun t2 => ((f137 k t2.2.1).bind fun t3 => (if a0_0 = 2 then (if t1.2.2 = true then (if t2.2.2 = true then (if t3.2.2 = true then (if strEq t3.2.1 (⟨#[]⟩ : ByteArray) = true then ((f138 k t1.1 t2.1 t3.1).bind fun t4 => some (t1.1, t2.1, t3.1, t4)) else some (t1.1, t2.1, t3.1, false)) else some (t1.1, t2.1, t3.1, false)) else some (t1.1, t2.1, t3.1, false)) else some (t1.1, t2.1, t3.1, false)) else some (t1.1, t2.1, t3.1, false)))))
def f114.l4 : Nat → (List Int) → Int → Option (ByteArray)
  | 0, _, _ => none
  | k + 1, q0, x0 => (if 128 ≤ x0 then (if (q0.length + 1) * 1 ≤ 70368744177664 then (if q0.length + 1 ≤ 70368744177664 then (f114.l4 k (q0 ++ ([(IntKind.u8.wrap (IntKind.i64.wrap ((x0.tmod 128) + 128)))] : List Int)) (IntKind.i64.wrap (x0.tdiv 128))) else none) else none) else (if (q0.length + 1) * 1 ≤ 70368744177664 then (if q0.length + 1 ≤ 70368744177664 then some (strOf (q0 ++ ([(IntKind.u8.wrap x0)] : List Int))) else none) else none))
def f114 (k : Nat) (a0_0 : Int) : Option (ByteArray) := ((f58 k a0_0 0 1000000000000).bind fun t1 => (if t1 = true then (f114.l4 k ([] : List Int) a0_0) else some (⟨#[]⟩ : ByteArray)))
def stf114_4 (q0 : List Int) (x0 : Int) : St := ⟨[T.sc (.int .i64 x0), T.dead, T.dead, T.win 0 0 q0.length, T.dead, T.dead, T.dead, T.dead, T.dead, T.dead, T.dead, T.dead, T.dead, T.dead, T.dead, T.dead, T.dead, T.dead, T.dead, T.dead, T.dead, T.dead, T.dead, T.dead, T.dead], [(0, Ob.mkRow 1 (List.map e_u8 q0))], 1, 0⟩
def f139 (k : Nat) (a0_0 : ByteArray) : Option (ByteArray) := (if 20000 < (a0_0.size : Int) then some (⟨#[]⟩ : ByteArray) else ((f114 k (a0_0.size : Int)).bind fun t1 => (if t1.size + a0_0.size ≤ 9223372036854775807 then some (t1 ++ a0_0) else none)))
def f130 (k : Nat) (a0_0 : Int) : Option (ByteArray) := some (strOf ([(IntKind.u8.wrap a0_0), (IntKind.u8.wrap (shrI .u32 a0_0 8)), (IntKind.u8.wrap (shrI .u32 a0_0 16)), (IntKind.u8.wrap (shrI .u32 a0_0 24))] : List Int))
def f113 (k : Nat) (a0_0 : Int) (a0_1 : ByteArray) : Option (ByteArray) := ((f58 k a0_0 1 100).bind fun t1 => (if t1 = true then (if 20000 < (a0_1.size : Int) then some (⟨#[]⟩ : ByteArray) else ((f130 k (IntKind.u32.wrap (a0_1.size : Int))).bind fun t2 => (if 1 + t2.size ≤ 9223372036854775807 then (if 1 + t2.size + a0_1.size ≤ 9223372036854775807 then ((f131 k (((strOf ([(IntKind.u8.wrap a0_0)] : List Int)) ++ t2) ++ a0_1)).bind fun t3 => ((f130 k t3).bind fun t4 => (if 1 + t2.size + a0_1.size + t4.size ≤ 9223372036854775807 then some ((((strOf ([(IntKind.u8.wrap a0_0)] : List Int)) ++ t2) ++ a0_1) ++ t4) else none))) else none) else none))) else some (⟨#[]⟩ : ByteArray)))
def f126 (k : Nat) (a0_0 : Int) (a0_1 : Int) (a0_2 : ByteArray) : Option (ByteArray) := ((f138 k a0_0 a0_1 a0_2).bind fun t1 => (if t1 = true then ((f114 k a0_0).bind fun t2 => ((f114 k a0_1).bind fun t3 => (if t2.size + t3.size ≤ 9223372036854775807 then ((f139 k a0_2).bind fun t4 => (if t2.size + t3.size + t4.size ≤ 9223372036854775807 then ((f113 k 2 ((t2 ++ t3) ++ t4)).bind fun t5 => some t5) else none)) else none))) else some (⟨#[]⟩ : ByteArray)))
def f108.l5 : Nat → (List S136) → (List S104) → Int → Int → Int → Option (Int × (List S136))
  | 0, _, _, _, _, _ => none
  | k + 1, q0, q1, x1, x7, x11 => (if x11 < ((q1.length : Nat) : Int) then (if x11 < 500 then (if 0 ≤ x11 then ((f125 k ((at' q1 x11).f0) ((at' q1 x11).f1)).bind fun t2 => (if t2.2.2.2 = true then (if x1 < t2.1 then some (x7, q0) else (if 0 < x11 then (if 0 ≤ (IntKind.i64.wrap (x11 - 1)) then (if (IntKind.i64.wrap (x11 - 1)) < ((q0.length : Nat) : Int) then (if t2.1 < (at' q0 (IntKind.i64.wrap (x11 - 1))).f0 then some (x7, q0) else (if (q0.length + 1) * 32 ≤ 70368744177664 then (if q0.length + 1 ≤ 70368744177664 then ((f126 k t2.1 t2.2.1 t2.2.2.1).bind fun t3 => (f108.l5 k (q0 ++ ([(⟨t2.1, t2.2.1, t2.2.2.1⟩ : S136)] : List S136)) q1 x1 (IntKind.i64.wrap (x7 + (t3.size : Int))) (IntKind.i64.wrap (x11 + 1)))) else none) else none)) else none) else none) else (if (q0.length + 1) * 32 ≤ 70368744177664 then (if q0.length + 1 ≤ 70368744177664 then ((f126 k t2.1 t2.2.1 t2.2.2.1).bind fun t4 => (f108.l5 k (q0 ++ ([(⟨t2.1, t2.2.1, t2.2.2.1⟩ : S136)] : List S136)) q1 x1 (IntKind.i64.wrap (x7 + (t4.size : Int))) (IntKind.i64.wrap (x11 + 1)))) else none) else none))) else some (x7, q0))) else none) else some (x7, q0)) else some (x7, q0))
def f108 (k : Nat) (a0_0 : ByteArray) (a1_0 : Int) : Option (Int × (List S136)) := ((f106 k a0_0).bind fun t1 => (f108.l5 k ([] : List S136) t1.2.2 a1_0 0 0))
def stf108_5 (q0 : List S136) (q1 : List S104) (x1 : Int) (x7 : Int) (x11 : Int) : St := ⟨[T.dead, T.sc (.int .i64 x1), T.dead, T.dead, T.dead, T.dead, T.win 0 0 q0.length, T.sc (.int .i64 x7), T.win 1 0 q1.length, T.dead, T.dead, T.sc (.int .i64 x11), T.dead, T.dead, T.dead, T.dead, T.dead, T.dead, T.dead, T.dead, T.dead, T.dead, T.dead, T.dead, T.dead, T.dead, T.dead, T.dead, T.dead, T.dead, T.dead, T.dead, T.dead, T.dead, T.dead, T.dead, T.dead, T.dead, T.dead, T.dead, T.dead, T.dead, T.dead, T.dead, T.dead, T.dead, T.dead, T.dead, T.dead, T.dead, T.dead, T.dead, T.dead, T.dead, T.dead, T.dead, T.dead, T.dead, T.dead, T.dead, T.dead, T.dead, T.dead, T.dead, T.dead, T.dead, T.dead, T.dead, T.dead, T.dead, T.dead, T.dead, T.dead, T.dead, T.dead], [(0, Ob.mkRow 3 (List.map e136 q0)), (1, Ob.mkRow 2 (List.map e104 q1))], 2, 0⟩
def f72 (k : Nat) (a0_0 : List S80) (a0_1 : List S80) (a0_2 : List S73) : Option (Int × Int × Int × Bool × (List S136)) := ((f52 k a0_0 (⟨#[118, 111, 116, 101]⟩ : ByteArray)).bind fun t1 => (if 0 ≤ t1 then (if t1 < (a0_0.length : Int) then ((f106 k ((at' a0_0 t1).f1)).bind fun t2 => (if t2.2.1 = 0 then (if ((t2.2.2.length : Nat) : Int) = 1 then (if 0 < t2.2.2.length then ((f107 k ((at' t2.2.2 0).f1)).bind fun t3 => ((f107 k t3.2.1).bind fun t4 => (if (at' t2.2.2 0).f0 = 1 then (if t3.2.2 = true then (if t4.2.2 = true then (if strEq t4.2.1 (⟨#[]⟩ : ByteArray) = true then ((f52 k a0_0 (⟨#[108, 111, 103]⟩ : ByteArray)).bind fun t5 => (if 0 ≤ t5 then (if t5 < (a0_0.length : Int) then ((f108 k ((at' a0_0 t5).f1) t3.1).bind fun t6 => some (t3.1, t4.1, t6.1, true, t6.2)) else none) else some (t3.1, t4.1, 0, true, ([] : List S136)))) else some (0, 0, 0, false, ([] : List S136))) else some (0, 0, 0, false, ([] : List S136))) else some (0, 0, 0, false, ([] : List S136))) else some (0, 0, 0, false, ([] : List S136))))) else none) else some (0, 0, 0, false, ([] : List S136))) else some (0, 0, 0, false, ([] : List S136)))) else none) else ((f52 k a0_0 (⟨#[108, 111, 103]⟩ : ByteArray)).bind fun t7 => (if 0 ≤ t7 then (if t7 < (a0_0.length : Int) then ((f108 k ((at' a0_0 t7).f1) 0).bind fun t8 => some (0, 0, t8.1, true, t8.2)) else none) else some (0, 0, 0, true, ([] : List S136))))))
def f34 (k : Nat) (a0_0 : List S80) (a0_1 : List S80) (a0_2 : List S73) : Option (Int × Int × Bool × (List S136)) := ((f13 k a0_0 a0_1 a0_2).bind fun t1 => (if t1 = true then ((f72 k a0_0 a0_1 a0_2).bind fun t2 => (if t2.2.2.2.1 = true then some (t2.1, t2.2.1, true, t2.2.2.2.2) else some (0, 0, false, ([] : List S136)))) else some (0, 0, false, ([] : List S136))))
def f127 (k : Nat) (a1_0 : List Int) : Option (Int) := (if 3 < a1_0.length then (if 0 < a1_0.length then (if 1 < a1_0.length then (if 2 < a1_0.length then some (orI .u32 (orI .u32 (orI .u32 (IntKind.u32.wrap (at' a1_0 0)) (shlI .u32 (IntKind.u32.wrap (at' a1_0 1)) 8)) (shlI .u32 (IntKind.u32.wrap (at' a1_0 2)) 16)) (shlI .u32 (IntKind.u32.wrap (at' a1_0 3)) 24)) else none) else none) else none) else none)
mutual
def f116.l3 : Nat → ByteArray → Int → Int → Int → Option (Int)
  | 0, _, _, _, _ => none
  | k + 1, x0, x3, x7, x8 => (if x8 < x7 then (if 0 ≤ x8 then (if x8 < (x0.size : Int) then (f116.l7 k x0 (xorI .u32 x3 (IntKind.u32.wrap (byteAt x0 x8))) x7 x8 0) else none) else none) else some (xorI .u32 (notI .u32) x3))
def f116.l7 : Nat → ByteArray → Int → Int → Int → Int → Option (Int)
  | 0, _, _, _, _, _ => none
  | k + 1, x0, x3, x7, x8, x17 => (if x17 < 8 then (if (andI .u32 x3 1) = 1 then (f116.l7 k x0 (xorI .u32 (shrI .u32 x3 1) 3988292384) x7 x8 (IntKind.i64.wrap (x17 + 1))) else (f116.l7 k x0 (shrI .u32 x3 1) x7 x8 (IntKind.i64.wrap (x17 + 1)))) else (f116.l3 k x0 x3 x7 (IntKind.i64.wrap (x8 + 1))))
end
def f116 (k : Nat) (a0_0 : ByteArray) : Option (Int) := (f116.l3 k a0_0 4294967295 (a0_0.size : Int) 0)
def stf116_3 (x0 : ByteArray) (x3 : Int) (x7 : Int) (x8 : Int) : St := ⟨[T.sc (.string x0), T.dead, T.dead, T.sc (.int .u32 x3), T.dead, T.dead, T.dead, T.sc (.int .i64 x7), T.sc (.int .i64 x8), T.dead, T.dead, T.dead, T.dead, T.dead, T.dead, T.dead, T.dead, T.dead, T.dead, T.dead, T.dead, T.dead, T.dead, T.dead, T.dead, T.dead, T.dead, T.dead, T.dead, T.dead, T.dead], [], 0, 0⟩
def stf116_7 (x0 : ByteArray) (x3 : Int) (x7 : Int) (x8 : Int) (x17 : Int) : St := ⟨[T.sc (.string x0), T.dead, T.dead, T.sc (.int .u32 x3), T.dead, T.dead, T.dead, T.sc (.int .i64 x7), T.sc (.int .i64 x8), T.dead, T.dead, T.dead, T.dead, T.dead, T.dead, T.dead, T.dead, T.sc (.int .i64 x17), T.dead, T.dead, T.dead, T.dead, T.dead, T.dead, T.dead, T.dead, T.dead, T.dead, T.dead, T.dead, T.dead], [], 0, 0⟩
def f109.l3 : Nat → (List S104) → ByteArray → Int → Option (Int × Int × (List S104))
  | 0, _, _, _ => none
  | k + 1, q0, x0, x6 => (if 0 ≤ x6 then (if x6 ≤ ((x0.size : Nat) : Int) then (if (x0.extract x6.toNat x0.size).size ≤ 70368744177664 then (if (((bytesL (x0.extract x6.toNat x0.size)).length : Nat) : Int) = 0 then some (x6, 0, q0) else (if ((q0.length : Nat) : Int) = 2000 then some (x6, 5, q0) else (if 0 < (bytesL (x0.extract x6.toNat x0.size)).length then (if (at' (bytesL (x0.extract x6.toNat x0.size)) 0) < 1 then some (x6, 2, q0) else (if 100 < (at' (bytesL (x0.extract x6.toNat x0.size)) 0) then some (x6, 2, q0) else (if (((bytesL (x0.extract x6.toNat x0.size)).length : Nat) : Int) < 5 then some (x6, 1, q0) else (if 1 ≤ (((bytesL (x0.extract x6.toNat x0.size)).length : Nat) : Int) then (if 1 + ((bytesL (x0.extract x6.toNat x0.size)).length - 1) ≤ (bytesL (x0.extract x6.toNat x0.size)).length then ((f127 k (((bytesL (x0.extract x6.toNat x0.size)).drop 1).take ((bytesL (x0.extract x6.toNat x0.size)).length - 1))).bind fun t1 => (if 20000 < t1 then some (x6, 3, q0) else (if (((bytesL (x0.extract x6.toNat x0.size)).length : Nat) : Int) < (IntKind.i64.wrap ((IntKind.i64.wrap (5 + (IntKind.i64.wrap t1))) + 4)) then some (x6, 1, q0) else (if 0 ≤ (IntKind.i64.wrap (5 + (IntKind.i64.wrap t1))) then (if (IntKind.i64.wrap (5 + (IntKind.i64.wrap t1))) ≤ (((bytesL (x0.extract x6.toNat x0.size)).length : Nat) : Int) then (if (IntKind.i64.wrap (5 + (IntKind.i64.wrap t1))).toNat + ((bytesL (x0.extract x6.toNat x0.size)).length - (IntKind.i64.wrap (5 + (IntKind.i64.wrap t1))).toNat) ≤ (bytesL (x0.extract x6.toNat x0.size)).length then ((f127 k (((bytesL (x0.extract x6.toNat x0.size)).drop ((IntKind.i64.wrap (5 + (IntKind.i64.wrap t1))).toNat)).take ((bytesL (x0.extract x6.toNat x0.size)).length - (IntKind.i64.wrap (5 + (IntKind.i64.wrap t1))).toNat))).bind fun t2 => ((f116 k (strOf ((bytesL (x0.extract x6.toNat x0.size)).take ((IntKind.i64.wrap (5 + (IntKind.i64.wrap t1))).toNat)))).bind fun t3 => (if t2 = t3 then (if 5 ≤ (((strOf ((bytesL (x0.extract x6.toNat x0.size)).take ((IntKind.i64.wrap (5 + (IntKind.i64.wrap t1))).toNat))).size : Nat) : Int) then (if (q0.length + 1) * 24 ≤ 70368744177664 then (if q0.length + 1 ≤ 70368744177664 then (f109.l3 k (q0 ++ ([(⟨(IntKind.i64.wrap (at' (bytesL (x0.extract x6.toNat x0.size)) 0)), ((strOf ((bytesL (x0.extract x6.toNat x0.size)).take ((IntKind.i64.wrap (5 + (IntKind.i64.wrap t1))).toNat))).extract 5 ((strOf ((bytesL (x0.extract x6.toNat x0.size)).take ((IntKind.i64.wrap (5 + (IntKind.i64.wrap t1))).toNat))).size))⟩ : S104)] : List S104)) x0 (IntKind.i64.wrap (x6 + (IntKind.i64.wrap ((IntKind.i64.wrap (5 + (IntKind.i64.wrap t1))) + 4))))) else none) else none) else none) else some (x6, 4, q0)))) else none) else none) else none)))) else none) else none)))) else none))) else none) else none) else none)
def f109 (k : Nat) (a0_0 : ByteArray) : Option (Int × Int × (List S104)) := (f109.l3 k ([] : List S104) a0_0 0)
def stf109_3 (q0 : List S104) (x0 : ByteArray) (x6 : Int) : St := ⟨[T.sc (.string x0), T.dead, T.dead, T.dead, T.dead, T.win 0 0 q0.length, T.sc (.int .i64 x6), T.dead, T.dead, T.dead, T.dead, T.dead, T.dead, T.dead, T.dead, T.dead, T.dead, T.dead, T.dead, T.dead, T.dead, T.dead, T.dead, T.dead, T.dead, T.dead, T.dead, T.dead, T.dead, T.dead, T.dead, T.dead, T.dead, T.dead, T.dead, T.dead, T.dead, T.dead, T.dead, T.dead, T.dead, T.dead, T.dead, T.dead, T.dead, T.dead, T.dead, T.dead, T.dead, T.dead, T.dead, T.dead, T.dead, T.dead, T.dead, T.dead, T.dead, T.dead, T.dead, T.dead, T.dead, T.dead, T.dead, T.dead, T.dead, T.dead, T.dead, T.dead, T.dead, T.dead, T.dead, T.dead, T.dead, T.dead, T.dead, T.dead, T.dead, T.dead, T.dead, T.dead, T.dead, T.dead, T.dead, T.dead, T.dead, T.dead, T.dead, T.dead, T.dead, T.dead, T.dead, T.dead, T.dead], [(0, Ob.mkRow 2 (List.map e104 q0))], 1, 0⟩
def f78 (k : Nat) (a0_0 : Int) : Option (Bool) := ((f60 k a0_0 0 1000000000000).bind fun t1 => some t1)
def f110.l3 : Nat → ByteArray → Int → Int → Option (Int × ByteArray × Bool)
  | 0, _, _, _ => none
  | k + 1, x0, x5, x6 => (if x6 < (x0.size : Int) then (if x6 < 6 then (if 0 ≤ x6 then (if 0 ≤ (IntKind.i64.wrap (7 * x6)) then (if 128 ≤ (IntKind.i64.wrap (byteAt x0 x6)) then (f110.l3 k x0 (orI .i64 x5 (shlI .i64 ((IntKind.i64.wrap (byteAt x0 x6)).tmod 128) (IntKind.i64.wrap (7 * x6)))) (IntKind.i64.wrap (x6 + 1))) else (if (IntKind.i64.wrap (byteAt x0 x6)) = 0 then (if 0 < x6 then some (0, (⟨#[]⟩ : ByteArray), false) else ((f78 k (orI .i64 x5 (shlI .i64 ((IntKind.i64.wrap (byteAt x0 x6)).tmod 128) (IntKind.i64.wrap (7 * x6))))).bind fun t1 => (if t1 = true then (if 0 ≤ (IntKind.i64.wrap (x6 + 1)) then (if (IntKind.i64.wrap (x6 + 1)) ≤ ((x0.size : Nat) : Int) then some ((orI .i64 x5 (shlI .i64 ((IntKind.i64.wrap (byteAt x0 x6)).tmod 128) (IntKind.i64.wrap (7 * x6)))), (x0.extract ((IntKind.i64.wrap (x6 + 1)).toNat) x0.size), true) else none) else none) else some (0, (⟨#[]⟩ : ByteArray), false)))) else ((f78 k (orI .i64 x5 (shlI .i64 ((IntKind.i64.wrap (byteAt x0 x6)).tmod 128) (IntKind.i64.wrap (7 * x6))))).bind fun t2 => (if t2 = true then (if 0 ≤ (IntKind.i64.wrap (x6 + 1)) then (if (IntKind.i64.wrap (x6 + 1)) ≤ ((x0.size : Nat) : Int) then some ((orI .i64 x5 (shlI .i64 ((IntKind.i64.wrap (byteAt x0 x6)).tmod 128) (IntKind.i64.wrap (7 * x6)))), (x0.extract ((IntKind.i64.wrap (x6 + 1)).toNat) x0.size), true) else none) else none) else some (0, (⟨#[]⟩ : ByteArray), false))))) else none) else none) else some (0, (⟨#[]⟩ : ByteArray), false)) else some (0, (⟨#[]⟩ : ByteArray), false))
def f110 (k : Nat) (a0_0 : ByteArray) : Option (Int × ByteArray × Bool) := (f110.l3 k a0_0 0 0)
def stf110_3 (x0 : ByteArray) (x5 : Int) (x6 : Int) : St := ⟨[T.sc (.string x0), T.dead, T.dead, T.dead, T.dead, T.sc (.int .i64 x5), T.sc (.int .i64 x6), T.dead, T.dead, T.dead, T.dead, T.dead, T.dead, T.dead, T.dead, T.dead, T.dead, T.dead, T.dead, T.dead, T.dead, T.dead, T.dead, T.dead, T.dead, T.dead, T.dead, T.dead, T.dead, T.dead, T.dead, T.dead, T.dead, T.dead, T.dead, T.dead, T.dead, T.dead, T.dead, T.dead, T.dead, T.dead, T.dead, T.dead, T.dead, T.dead, T.dead], [], 0, 0⟩
def f128 (k : Nat) (a0_0 : ByteArray) : Option (ByteArray × ByteArray × Bool) := ((f110 k a0_0).bind fun t1 => (if t1.2.2 = true then (if 20000 < t1.1 then some ((⟨#[]⟩ : ByteArray), (⟨#[]⟩ : ByteArray), false) else (if (t1.2.1.size : Int) < t1.1 then some ((⟨#[]⟩ : ByteArray), (⟨#[]⟩ : ByteArray), false) else (if 0 ≤ t1.1 then (if t1.1 ≤ ((t1.2.1.size : Nat) : Int) then some ((t1.2.1.extract 0 t1.1.toNat), (t1.2.1.extract t1.1.toNat t1.2.1.size), true) else none) else none))) else some ((⟨#[]⟩ : ByteArray), (⟨#[]⟩ : ByteArray), false)))
def f129 (k : Nat) (a0_0 : Int) (a0_1 : Int) (a0_2 : ByteArray) : Option (Bool) := ((f60 k a0_0 1 1000000000000).bind fun t1 => (if t1 = true then ((f60 k a0_1 0 9).bind fun t2 => (if t2 = true then some (decide ((a0_2.size : Int) ≤ 4000)) else some false)) else some false))
def f111 (k : Nat) (a0_0 : Int) (a0_1 : ByteArray) : Option (Int × Int × ByteArray × Bool) := ((f110 k a0_1).bind fun t1 => ((f110 k t1.2.1).bind fun t2 => ((f128 k t2.2.1).bind fun t3 => (if a0_0 = 2 then (if t1.2.2 = true then (if t2.2.2 = true then (if t3.2.2 = true then (if strEq t3.2.1 (⟨#[]⟩ : ByteArray) = true then ((f129 k t1.1 t2.1 t3.1).bind fun t4 => (if t4 = true then some (t1.1, t2.1, t3.1, true) else some (0, 0, (⟨#[]⟩ : ByteArray), false))) else some (0, 0, (⟨#[]⟩ : ByteArray), false)) else some (0, 0, (⟨#[]⟩ : ByteArray), false)) else some (0, 0, (⟨#[]⟩ : ByteArray), false)) else some (0, 0, (⟨#[]⟩ : ByteArray), false)) else some (0, 0, (⟨#[]⟩ : ByteArray), false)))))
mutual
def f73.l20 : Nat → (List S104) → Int → Int → Int → Int → Int → Int → Int → Option (Int × Int × Bool × (List S136))
  | 0, _, _, _, _, _, _, _, _ => none
  | k + 1, q2, x18, x106, x107, b0_0, b0_1, b1_0, b1_1 => (if x107 < x106 then (if 0 ≤ x107 then (if x107 < ((q2.length : Nat) : Int) then ((f111 k ((at' q2 x107).f0) ((at' q2 x107).f1)).bind fun t8 => (if t8.2.2.2 = true then (if t8.1 < x18 then some (b1_0, b1_1, true, ([] : List S136)) else (if b1_0 < t8.1 then some (b1_0, b1_1, true, ([] : List S136)) else (if 1 * 32 ≤ 70368744177664 then (f73.l20v1 k q2 ([(⟨t8.1, t8.2.1, t8.2.2.1⟩ : S136)] : List S136) t8.1 x106 (IntKind.i64.wrap (x107 + 1)) b0_0 b0_1 b1_0 b1_1) else none))) else some (b1_0, b1_1, true, ([] : List S136)))) else none) else none) else some (b1_0, b1_1, true, ([] : List S136)))
def f73.l20v1 : Nat → (List S104) → (List S136) → Int → Int → Int → Int → Int → Int → Int → Option (Int × Int × Bool × (List S136))
  | 0, _, _, _, _, _, _, _, _, _ => none
  | k + 1, q2, q3, x18, x106, x107, b0_0, b0_1, b1_0, b1_1 => (if x107 < x106 then (if 0 ≤ x107 then (if x107 < ((q2.length : Nat) : Int) then ((f111 k ((at' q2 x107).f0) ((at' q2 x107).f1)).bind fun t9 => (if t9.2.2.2 = true then (if t9.1 < x18 then some (b1_0, b1_1, true, q3) else (if b1_0 < t9.1 then some (b1_0, b1_1, true, q3) else (if ((q3.length : Nat) : Int) = 500 then some (b1_0, b1_1, true, q3) else (if (q3.length + 1) * 32 ≤ 70368744177664 then (if q3.length + 1 ≤ 70368744177664 then (f73.l20v1 k q2 (q3 ++ ([(⟨t9.1, t9.2.1, t9.2.2.1⟩ : S136)] : List S136)) t9.1 x106 (IntKind.i64.wrap (x107 + 1)) b0_0 b0_1 b1_0 b1_1) else none) else none)))) else some (b1_0, b1_1, true, q3))) else none) else none) else some (b1_0, b1_1, true, q3))
end
def f73 (k : Nat) (a0_0 : List S80) (a0_1 : List S80) (a0_2 : List S73) : Option (Int × Int × Bool × (List S136)) := ((f49 k a0_0 a0_1 a0_2).bind fun t1 => (if t1 = true then ((f53 k a0_0 (⟨#[118, 111, 116, 101]⟩ : ByteArray)).bind fun t2 => (if 0 ≤ t2 then (if t2 < (a0_0.length : Int) then ((f109 k ((at' a0_0 t2).f1)).bind fun t3 => (if t3.2.1 = 0 then (if ((t3.2.2.length : Nat) : Int) = 1 then (if 0 < t3.2.2.length then (if (at' t3.2.2 0).f0 = 1 then ((f110 k ((at' t3.2.2 0).f1)).bind fun t4 => ((f110 k t4.2.1).bind fun t5 => (if t4.2.2 = true then (if t5.2.2 = true then (if strEq t5.2.1 (⟨#[]⟩ : ByteArray) = true then ((f53 k a0_0 (⟨#[108, 111, 103]⟩ : ByteArray)).bind fun t6 => (if 0 ≤ t6 then (if t6 < (a0_0.length : Int) then ((f109 k ((at' a0_0 t6).f1)).bind fun t7 => (f73.l20 k t7.2.2 0 ((t7.2.2.length : Nat) : Int) 0 0 0 t4.1 t5.1)) else none) else some (t4.1, t5.1, true, ([] : List S136)))) else some (0, 0, false, ([] : List S136))) else some (0, 0, false, ([] : List S136))) else some (0, 0, false, ([] : List S136))))) else some (0, 0, false, ([] : List S136))) else none) else some (0, 0, false, ([] : List S136))) else some (0, 0, false, ([] : List S136)))) else none) else ((f53 k a0_0 (⟨#[108, 111, 103]⟩ : ByteArray)).bind fun t10 => (if 0 ≤ t10 then (if t10 < (a0_0.length : Int) then ((f109 k ((at' a0_0 t10).f1)).bind fun t11 => (f73.l20 k t11.2.2 0 ((t11.2.2.length : Nat) : Int) 0 0 0 0 0)) else none) else some (0, 0, true, ([] : List S136)))))) else some (0, 0, false, ([] : List S136))))
def stf73_20 (q2 : List S104) (x18 : Int) (x106 : Int) (x107 : Int) (b0_0 : Int) (b0_1 : Int) (b1_0 : Int) (b1_1 : Int) : St := ⟨[T.dead, T.dead, T.ptr 0 0 0, T.dead, T.ptr 1 0 0, T.dead, T.dead, T.dead, T.dead, T.dead, T.dead, T.dead, T.dead, T.dead, T.dead, T.dead, T.dead, T.dead, T.sc (.int .i64 x18), T.dead, T.dead, T.dead, T.dead, T.dead, T.dead, T.dead, T.dead, T.dead, T.dead, T.dead, T.dead, T.dead, T.dead, T.dead, T.dead, T.dead, T.dead, T.dead, T.dead, T.dead, T.dead, T.dead, T.dead, T.dead, T.dead, T.dead, T.dead, T.dead, T.dead, T.dead, T.dead, T.dead, T.dead, T.dead, T.dead, T.dead, T.dead, T.dead, T.dead, T.dead, T.dead, T.dead, T.dead, T.dead, T.dead, T.dead, T.dead, T.dead, T.dead, T.dead, T.dead, T.dead, T.dead, T.dead, T.dead, T.dead, T.dead, T.dead, T.dead, T.dead, T.dead, T.dead, T.dead, T.dead, T.dead, T.dead, T.dead, T.dead, T.dead, T.dead, T.dead, T.dead, T.dead, T.dead, T.dead, T.dead, T.dead, T.dead, T.dead, T.dead, T.dead, T.dead, T.dead, T.dead, T.dead, T.win 2 0 q2.length, T.sc (.int .i64 x106), T.sc (.int .i64 x107), T.dead, T.dead, T.dead, T.dead, T.dead, T.dead, T.dead, T.dead, T.dead, T.dead, T.dead, T.dead, T.dead, T.dead, T.dead, T.dead, T.dead, T.dead, T.dead, T.dead, T.dead, T.dead, T.dead, T.dead, T.dead, T.dead, T.dead, T.dead, T.dead, T.dead, T.dead, T.dead, T.dead, T.dead, T.dead, T.dead, T.dead, T.dead, T.dead], [(0, Ob.mkBox 3 (T.agg [T.sc (.int .i64 b0_0), T.sc (.int .i64 b0_1), T.nil])), (1, Ob.mkBox 3 (T.agg [T.sc (.int .i64 b1_0), T.sc (.int .i64 b1_1), T.nil])), (2, Ob.mkRow 2 (List.map e104 q2))], 3, 0⟩
def stf73_20v1 (q2 : List S104) (q3 : List S136) (x18 : Int) (x106 : Int) (x107 : Int) (b0_0 : Int) (b0_1 : Int) (b1_0 : Int) (b1_1 : Int) : St := ⟨[T.dead, T.dead, T.ptr 0 0 0, T.dead, T.ptr 1 0 0, T.dead, T.dead, T.dead, T.dead, T.dead, T.dead, T.dead, T.dead, T.dead, T.dead, T.dead, T.dead, T.dead, T.sc (.int .i64 x18), T.dead, T.dead, T.dead, T.dead, T.dead, T.dead, T.dead, T.dead, T.dead, T.dead, T.dead, T.dead, T.dead, T.dead, T.dead, T.dead, T.dead, T.dead, T.dead, T.dead, T.dead, T.dead, T.dead, T.dead, T.dead, T.dead, T.dead, T.dead, T.dead, T.dead, T.dead, T.dead, T.dead, T.dead, T.dead, T.dead, T.dead, T.dead, T.dead, T.dead, T.dead, T.dead, T.dead, T.dead, T.dead, T.dead, T.dead, T.dead, T.dead, T.dead, T.dead, T.dead, T.dead, T.dead, T.dead, T.dead, T.dead, T.dead, T.dead, T.dead, T.dead, T.dead, T.dead, T.dead, T.dead, T.dead, T.dead, T.dead, T.dead, T.dead, T.dead, T.dead, T.dead, T.dead, T.dead, T.dead, T.dead, T.dead, T.dead, T.dead, T.dead, T.dead, T.dead, T.dead, T.dead, T.dead, T.win 2 0 q2.length, T.sc (.int .i64 x106), T.sc (.int .i64 x107), T.dead, T.dead, T.dead, T.dead, T.dead, T.dead, T.dead, T.dead, T.dead, T.dead, T.dead, T.dead, T.dead, T.dead, T.dead, T.dead, T.dead, T.dead, T.dead, T.dead, T.dead, T.dead, T.dead, T.dead, T.dead, T.dead, T.dead, T.dead, T.dead, T.dead, T.dead, T.dead, T.dead, T.dead, T.dead, T.dead, T.dead, T.dead, T.dead], [(0, Ob.mkBox 3 (T.agg [T.sc (.int .i64 b0_0), T.sc (.int .i64 b0_1), T.nil])), (1, Ob.mkBox 3 (T.agg [T.sc (.int .i64 b1_0), T.sc (.int .i64 b1_1), T.win 3 0 q3.length])), (2, Ob.mkRow 2 (List.map e104 q2)), (3, Ob.mkRow 3 (List.map e136 q3))], 4, 0⟩
def f35 (k : Nat) (a0_0 : List S80) (a0_1 : List S80) (a0_2 : List S73) : Option (Int × Int × Bool × (List S136)) := ((f73 k a0_0 a0_1 a0_2).bind fun t1 => some (t1.1, t1.2.1, t1.2.2.1, t1.2.2.2))
def f112 (k : Nat) (a0_0 : Int) (a0_1 : Int) (a0_2 : ByteArray) (a1_0 : Int) (a1_1 : Int) (a1_2 : ByteArray) : Option (Bool) := (if a0_0 = a1_0 then (if a0_1 = a1_1 then (if strEq a0_2 a1_2 = true then some true else some false) else some false) else some false)
def f74.l4 : Nat → (List S136) → (List S136) → Int → Option (Bool)
  | 0, _, _, _ => none
  | k + 1, x0, x1, x5 => (if x5 < (x0.length : Int) then (if 0 ≤ x5 then (if x5 < (x1.length : Int) then ((f112 k ((at' x0 x5).f0) ((at' x0 x5).f1) ((at' x0 x5).f2) ((at' x1 x5).f0) ((at' x1 x5).f1) ((at' x1 x5).f2)).bind fun t1 => (if t1 = true then (f74.l4 k x0 x1 (IntKind.i64.wrap (x5 + 1))) else some false)) else none) else none) else some true)
def f74 (k : Nat) (a0_0 : List S136) (a1_0 : List S136) : Option (Bool) := (if (a0_0.length : Int) = (a1_0.length : Int) then (f74.l4 k a0_0 a1_0 0) else some false)
def stf74_4 (x0 : List S136) (x1 : List S136) (x5 : Int) : St := ⟨[T.sl (List.map e136 x0) [], T.sl (List.map e136 x1) [], T.dead, T.dead, T.dead, T.sc (.int .i64 x5), T.dead, T.dead, T.dead, T.dead, T.dead, T.dead, T.dead, T.dead, T.dead, T.dead, T.dead, T.dead, T.dead, T.dead, T.dead, T.dead, T.dead, T.dead, T.dead, T.dead, T.dead], [], 0, 0⟩
def f36 (k : Nat) (a0_0 : Int) (a0_1 : Int) (a0_2 : List S136) (a1_0 : Int) (a1_1 : Int) (a1_2 : List S136) : Option (Bool) := (if a0_0 = a1_0 then (if a0_1 = a1_1 then ((f74 k a0_2 a1_2).bind fun t1 => (if t1 = true then some true else some false)) else some false) else some false)
def f75.l2 : Nat → (List S136) → Int → Int → Option (Int × (List S136))
  | 0, _, _, _ => none
  | k + 1, q0, x1, x5 => (if x5 < ((q0.length : Nat) : Int) then (if 0 ≤ x5 then ((f105 k (IntKind.i64.wrap ((IntKind.i64.wrap (x1 + 1)) + 1))).bind fun t1 => (f75.l2 k (q0.set x5.toNat (⟨x1, (IntKind.i64.wrap (x1 + 1)), t1⟩ : S136)) (IntKind.i64.wrap ((IntKind.i64.wrap ((IntKind.i64.wrap (x1 + 1)) + 1)) + 1)) (IntKind.i64.wrap (x5 + 1)))) else none) else some (x1, q0))
def f75 (k : Nat) (a1_0 : Int) (o0 : List S136) : Option (Int × (List S136)) := (f75.l2 k o0 a1_0 0)
def stf75_2 (q0 : List S136) (x1 : Int) (x5 : Int) : St := ⟨[T.win 0 0 q0.length, T.sc (.int .i64 x1), T.dead, T.dead, T.dead, T.sc (.int .i64 x5), T.dead, T.dead, T.dead, T.dead, T.dead, T.dead, T.dead, T.dead, T.dead, T.dead, T.dead, T.dead, T.dead, T.dead, T.dead, T.dead, T.dead, T.dead, T.dead, T.dead, T.dead, T.dead, T.dead, T.dead, T.dead, T.dead, T.dead, T.dead, T.dead], [(0, Ob.mkRow 3 (List.map e136 q0))], 1, 1⟩
def f37 (k : Nat) (a0_0 : Int) (a0_1 : Int) (a1_0 : Int) (o0 : List S136) : Option (Int × (List S136)) := ((f75 k a1_0 o0).bind fun t1 => some (t1.1, t1.2))
def f76.l2 : Nat → (List S136) → Int → Int → Option (Int)
  | 0, _, _, _ => none
  | k + 1, x0, x1, x5 => (if x5 < (x0.length : Int) then (if 0 ≤ x5 then (if (at' x0 x5).f0 = x1 then (if (at' x0 x5).f1 = (IntKind.i64.wrap (x1 + 1)) then ((f105 k (IntKind.i64.wrap ((IntKind.i64.wrap (x1 + 1)) + 1))).bind fun t1 => (if strEq ((at' x0 x5).f2) t1 = true then (f76.l2 k x0 (IntKind.i64.wrap ((IntKind.i64.wrap ((IntKind.i64.wrap (x1 + 1)) + 1)) + 1)) (IntKind.i64.wrap (x5 + 1))) else some (-1))) else some (-1)) else some (-1)) else none) else some x1)
def f76 (k : Nat) (a0_0 : List S136) (a1_0 : Int) : Option (Int) := (f76.l2 k a0_0 a1_0 0)
def stf76_2 (x0 : List S136) (x1 : Int) (x5 : Int) : St := ⟨[T.sl (List.map e136 x0) [], T.sc (.int .i64 x1), T.dead, T.dead, T.dead, T.sc (.int .i64 x5), T.dead, T.dead, T.dead, T.dead, T.dead, T.dead, T.dead, T.dead, T.dead, T.dead, T.dead, T.dead, T.dead, T.dead, T.dead, T.dead, T.dead, T.dead, T.dead, T.dead, T.dead, T.dead, T.dead, T.dead, T.dead, T.dead, T.dead, T.dead, T.dead, T.dead, T.dead, T.dead, T.dead, T.dead, T.dead], [], 0, 0⟩
def f38 (k : Nat) (a0_0 : Int) (a0_1 : Int) (a0_2 : List S136) (a1_0 : Int) : Option (Int) := ((f76 k a0_2 a1_0).bind fun t1 => (if t1 < 0 then some (-1) else some t1))
def f10 (k : Nat) (a0_0 : List S106) (a0_1 : List S106) (a0_2 : List S108) : Option (Bool) := ((f12 k a0_0 a0_1 a0_2 1048576).bind fun t1 => (if t1 < 0 then some true else ((f14 k a0_0 a0_1 a0_2).bind fun t2 => ((f34 k t2.1 t2.2.1 t2.2.2).bind fun t3 => ((f35 k t2.1 t2.2.1 t2.2.2).bind fun t4 => ((f36 k t4.1 t4.2.1 t4.2.2.2 t3.1 t3.2.1 t3.2.2.2).bind fun t5 => (if t5 = true then (if (t4.2.2.1 == t3.2.2.1) = true then ((f16 k t2.1 t2.2.1 t2.2.2 t2.1 t2.2.1 t2.2.2).bind fun t6 => (if t6 = true then ((f29 k 1 t2.1 t2.2.1 t2.2.2).bind fun t7 => (if t7.1 < 0 then some false else ((f37 k t4.1 t4.2.1 1 t4.2.2.2).bind fun t8 => (if t4.2.2.2.length ≤ t8.2.length then ((f38 k t4.1 t4.2.1 (t8.2.take t4.2.2.2.length) 1).bind fun t9 => (if t9 < 0 then some false else (if t9 = t8.1 then some true else some false))) else none)))) else some false)) else some false) else some false)))))))
def f77 (k : Nat) (a0_0 : Int) (a1_0 : Int) : Option (ByteArray) := ((f114 k a0_0).bind fun t1 => ((f114 k a1_0).bind fun t2 => (if t1.size + t2.size ≤ 9223372036854775807 then ((f113 k 1 (t1 ++ t2)).bind fun t3 => some t3) else none)))
def f39 (k : Nat) (a0_0 : List S80) (a0_1 : List S80) (a0_2 : List S73) (a1_0 : Int) (a2_0 : Int) : Option (Int × (List S80) × (List S80) × (List S73)) := ((f13 k a0_0 a0_1 a0_2).bind fun t1 => (if t1 = true then ((f72 k a0_0 a0_1 a0_2).bind fun t2 => (if t2.2.2.2.1 = true then ((f58 k a1_0 t2.1 1000000000000).bind fun t3 => (if t3 = true then ((f58 k a2_0 0 1000000000000).bind fun t4 => (if t4 = true then (if a1_0 = t2.1 then (if t2.2.1 = 0 then ((f77 k a1_0 a2_0).bind fun t5 => ((f26 k a0_0 a0_1 a0_2 (⟨#[118, 111, 116, 101]⟩ : ByteArray) t5).bind fun t6 => (if t6.1 = 0 then ((f28 k t6.2.1 t6.2.2.1 t6.2.2.2).bind fun t7 => some (0, t7.1, t7.2.1, t7.2.2)) else some (t6.1, t6.2.1, t6.2.2.1, t6.2.2.2)))) else (if a2_0 = t2.2.1 then ((f77 k a1_0 a2_0).bind fun t8 => ((f26 k a0_0 a0_1 a0_2 (⟨#[118, 111, 116, 101]⟩ : ByteArray) t8).bind fun t9 => (if t9.1 = 0 then ((f28 k t9.2.1 t9.2.2.1 t9.2.2.2).bind fun t10 => some (0, t10.1, t10.2.1, t10.2.2)) else some (t9.1, t9.2.1, t9.2.2.1, t9.2.2.2)))) else ((f66 k a0_0 a0_1 a0_2).bind fun t11 => some (10, t11.1, t11.2.1, t11.2.2)))) else ((f77 k a1_0 a2_0).bind fun t12 => ((f26 k a0_0 a0_1 a0_2 (⟨#[118, 111, 116, 101]⟩ : ByteArray) t12).bind fun t13 => (if t13.1 = 0 then ((f28 k t13.2.1 t13.2.2.1 t13.2.2.2).bind fun t14 => some (0, t14.1, t14.2.1, t14.2.2)) else some (t13.1, t13.2.1, t13.2.2.1, t13.2.2.2))))) else ((f66 k a0_0 a0_1 a0_2).bind fun t15 => some (10, t15.1, t15.2.1, t15.2.2)))) else ((f66 k a0_0 a0_1 a0_2).bind fun t16 => some (10, t16.1, t16.2.1, t16.2.2)))) else ((f66 k a0_0 a0_1 a0_2).bind fun t17 => some (10, t17.1, t17.2.1, t17.2.2)))) else some (1, ([] : List S80), ([] : List S80), ([] : List S73))))
def f81.l2 : Nat → (List Int) → Int → Option (ByteArray)
  | 0, _, _ => none
  | k + 1, q0, x0 => (if 128 ≤ x0 then (if (q0.length + 1) * 1 ≤ 70368744177664 then (if q0.length + 1 ≤ 70368744177664 then (f81.l2 k (q0 ++ ([(IntKind.u8.wrap (IntKind.i64.wrap ((x0.tmod 128) + 128)))] : List Int)) (IntKind.i64.wrap (x0.tdiv 128))) else none) else none) else (if (q0.length + 1) * 1 ≤ 70368744177664 then (if q0.length + 1 ≤ 70368744177664 then some (strOf (q0 ++ ([(IntKind.u8.wrap x0)] : List Int))) else none) else none))
def f81 (k : Nat) (a0_0 : Int) : Option (ByteArray) := (f81.l2 k ([] : List Int) a0_0)
def stf81_2 (q0 : List Int) (x0 : Int) : St := ⟨[T.sc (.int .i64 x0), T.dead, T.dead, T.win 0 0 q0.length, T.dead, T.dead, T.dead, T.dead, T.dead, T.dead, T.dead, T.dead, T.dead, T.dead, T.dead, T.dead, T.dead, T.dead, T.dead, T.dead, T.dead, T.dead], [(0, Ob.mkRow 1 (List.map e_u8 q0))], 1, 0⟩
def f115 (k : Nat) (a2_0 : Int) (o0 : List Int) : Option ((List Int)) := (if (o0.length + 4) * 1 ≤ 70368744177664 then (if o0.length + 4 ≤ 70368744177664 then some (o0 ++ ([(IntKind.u8.wrap a2_0), (IntKind.u8.wrap (shrI .u32 a2_0 8)), (IntKind.u8.wrap (shrI .u32 a2_0 16)), (IntKind.u8.wrap (shrI .u32 a2_0 24))] : List Int)) else none) else none)
def f80 (k : Nat) (a0_0 : Int) (a0_1 : ByteArray) : Option (ByteArray) := ((f60 k a0_0 1 100).bind fun t1 => (if t1 = true then (if 20000 < (a0_1.size : Int) then some (⟨#[]⟩ : ByteArray) else ((f115 k (IntKind.u32.wrap (a0_1.size : Int)) ([(IntKind.u8.wrap a0_0)] : List Int)).bind fun t2 => (if (t2.length + (bytesL a0_1).length) * 1 ≤ 70368744177664 then (if t2.length + (bytesL a0_1).length ≤ 70368744177664 then ((f116 k (strOf (t2 ++ (bytesL a0_1)))).bind fun t3 => ((f115 k t3 (t2 ++ (bytesL a0_1))).bind fun t4 => some (strOf t4))) else none) else none))) else some (⟨#[]⟩ : ByteArray)))
def f40 (k : Nat) (a0_0 : List S80) (a0_1 : List S80) (a0_2 : List S73) (a1_0 : Int) (a2_0 : Int) : Option (Int × (List S80) × (List S80) × (List S73)) := ((f49 k a0_0 a0_1 a0_2).bind fun t1 => (if t1 = true then ((f73 k a0_0 a0_1 a0_2).bind fun t2 => (if t2.2.2.1 = true then ((f78 k a1_0).bind fun t3 => (if t3 = true then ((f78 k a2_0).bind fun t4 => (if t4 = true then (if a1_0 < t2.1 then ((f79 k a0_0 a0_1 a0_2).bind fun t5 => some (10, t5.1, t5.2.1, t5.2.2)) else (if t2.1 = a1_0 then (if t2.2.1 = 0 then ((f81 k a1_0).bind fun t6 => ((f81 k a2_0).bind fun t7 => (if t6.size + t7.size ≤ 9223372036854775807 then ((f80 k 1 (t6 ++ t7)).bind fun t8 => ((f67 k a0_0 a0_1 a0_2 (⟨#[118, 111, 116, 101]⟩ : ByteArray) t8).bind fun t9 => (if t9.1 = 0 then ((f24 k t9.2.1 t9.2.2.1 t9.2.2.2).bind fun t10 => some (0, t10.1, t10.2.1, t10.2.2)) else ((f79 k a0_0 a0_1 a0_2).bind fun t11 => some (t9.1, t11.1, t11.2.1, t11.2.2))))) else none))) else (if t2.2.1 = a2_0 then ((f81 k a1_0).bind fun t12 => ((f81 k a2_0).bind fun t13 => (if t12.size + t13.size ≤ 9223372036854775807 then ((f80 k 1 (t12 ++ t13)).bind fun t14 => ((f67 k a0_0 a0_1 a0_2 (⟨#[118, 111, 116, 101]⟩ : ByteArray) t14).bind fun t15 => (if t15.1 = 0 then ((f24 k t15.2.1 t15.2.2.1 t15.2.2.2).bind fun t16 => some (0, t16.1, t16.2.1, t16.2.2)) else ((f79 k a0_0 a0_1 a0_2).bind fun t17 => some (t15.1, t17.1, t17.2.1, t17.2.2))))) else none))) else ((f79 k a0_0 a0_1 a0_2).bind fun t18 => some (10, t18.1, t18.2.1, t18.2.2)))) else ((f81 k a1_0).bind fun t19 => ((f81 k a2_0).bind fun t20 => (if t19.size + t20.size ≤ 9223372036854775807 then ((f80 k 1 (t19 ++ t20)).bind fun t21 => ((f67 k a0_0 a0_1 a0_2 (⟨#[118, 111, 116, 101]⟩ : ByteArray) t21).bind fun t22 => (if t22.1 = 0 then ((f24 k t22.2.1 t22.2.2.1 t22.2.2.2).bind fun t23 => some (0, t23.1, t23.2.1, t23.2.2)) else ((f79 k a0_0 a0_1 a0_2).bind fun t24 => some (t22.1, t24.1, t24.2.1, t24.2.2))))) else none))))) else ((f79 k a0_0 a0_1 a0_2).bind fun t25 => some (10, t25.1, t25.2.1, t25.2.2)))) else ((f79 k a0_0 a0_1 a0_2).bind fun t26 => some (10, t26.1, t26.2.1, t26.2.2)))) else ((f79 k a0_0 a0_1 a0_2).bind fun t27 => some (10, t27.1, t27.2.1, t27.2.2)))) else some (1, ([] : List S80), ([] : List S80), ([] : List S73))))
def f11 (k : Nat) (a0_0 : List S106) (a0_1 : List S106) (a0_2 : List S108) (a1_0 : Int) (a2_0 : Int) : Option (Bool) := ((f12 k a0_0 a0_1 a0_2 1048576).bind fun t1 => (if t1 < 0 then some true else ((f14 k a0_0 a0_1 a0_2).bind fun t2 => ((f39 k t2.1 t2.2.1 t2.2.2 a1_0 a2_0).bind fun t3 => ((f40 k t2.1 t2.2.1 t2.2.2 a1_0 a2_0).bind fun t4 => ((f16 k t4.2.1 t4.2.2.1 t4.2.2.2 t3.2.1 t3.2.2.1 t3.2.2.2).bind fun t5 => (if t5 = true then (if t4.1 = t3.1 then ((f16 k t2.1 t2.2.1 t2.2.2 t2.1 t2.2.1 t2.2.2).bind fun t6 => (if t6 = true then ((f29 k 1 t2.1 t2.2.1 t2.2.2).bind fun t7 => (if t7.1 < 0 then some false else ((f29 k 1 t4.2.1 t4.2.2.1 t4.2.2.2).bind fun t8 => (if t4.2.1.length ≤ t8.2.1.length then (if t4.2.2.1.length ≤ t8.2.2.1.length then (if t4.2.2.2.length ≤ t8.2.2.2.length then ((f30 k (t8.2.1.take t4.2.1.length) (t8.2.2.1.take t4.2.2.1.length) (t8.2.2.2.take t4.2.2.2.length) 1).bind fun t9 => (if t9 < 0 then some false else (if t9 = t8.1 then some true else some false))) else none) else none) else none)))) else some false)) else some false) else some false)))))))
end Go.Proofs.Ytfjoamlgbegpgaa.P
namespace Go.Proofs.Ytfjoamlgbegpgaa.P
open Go Go.Proofs.Ytfjoamlgbegpgaa.PM Go.Proofs
theorem rdF_nat (l : List S80) (i : Nat) (h : i < l.length) : at' l (i : Int) = l[i] := at_nat l i h
theorem rdO_nat (l : List S73) (i : Nat) (h : i < l.length) : at' l (i : Int) = l[i] := at_nat l i h
theorem wr {n : Int} (h1 : -9223372036854775808 ≤ n) (h2 : n ≤ 9223372036854775807) : IntKind.i64.wrap n = n := wrap_i64 h1 h2
theorem bless_lt : ∀ (x y : List UInt8), Op.bytesLess x y = decide (x < y)
  | [], [] => by simp [Op.bytesLess]
  | [], _ :: _ => by simp [Op.bytesLess]
  | _ :: _, [] => by simp [Op.bytesLess]
  | a :: x, b :: y => by
    rw [Op.bytesLess, bless_lt x y]
    rw [Bool.eq_iff_iff]
    simp [List.cons_lt_cons_iff]
theorem bless_irrefl (x : List UInt8) : Op.bytesLess x x = false := by
  rw [bless_lt]
  exact decide_eq_false (List.lt_irrefl x)
theorem bless_trans {x y z : List UInt8} (h : Op.bytesLess x y = true) (k : Op.bytesLess y z = true) : Op.bytesLess x z = true := by
  rw [bless_lt, decide_eq_true_eq] at *
  exact List.lt_trans h k
theorem bless_asymm {x y : List UInt8} (h : Op.bytesLess x y = true) : Op.bytesLess y x = false := by
  rw [bless_lt, decide_eq_true_eq] at h
  rw [bless_lt]
  exact decide_eq_false (List.lt_asymm h)
theorem bless_tri (x y : List UInt8) : Op.bytesLess x y = true ∨ x = y ∨ Op.bytesLess y x = true := by
  rw [bless_lt, bless_lt, decide_eq_true_eq, decide_eq_true_eq]
  by_cases h : x < y
  · exact .inl h
  · rcases List.le_iff_lt_or_eq.1 (List.not_lt.1 h) with h | h
    · exact .inr (.inr h)
    · exact .inr (.inl h.symm)
theorem cmp_neg (a b : List UInt8) : Lib.compareBytes a b < 0 ↔ Op.bytesLess a b = true := by
  induction a generalizing b with
  | nil => cases b <;> simp [Lib.compareBytes, Op.bytesLess]
  | cons x a ih =>
    cases b with
    | nil => simp [Lib.compareBytes, Op.bytesLess]
    | cons y b =>
      have := ih b
      rw [Op.bytesLess, Lib.compareBytes]
      by_cases h1 : x < y
      · simp [h1]
      · by_cases h2 : x = y
        · subst h2
          simpa [h1] using this
        · have h3 : y < x := by
            rw [UInt8.lt_iff_toNat_lt] at h1 ⊢
            have : x.toNat ≠ y.toNat := fun h => h2 (UInt8.toNat_inj.1 h)
            omega
          simp [h1, h2, h3]
theorem cmp_zero (a b : List UInt8) : Lib.compareBytes a b = 0 ↔ a = b := by
  induction a generalizing b with
  | nil => cases b <;> simp [Lib.compareBytes]
  | cons x a ih =>
    cases b with
    | nil => simp [Lib.compareBytes]
    | cons y b =>
      have := ih b
      rw [Lib.compareBytes]
      by_cases h1 : x < y
      · have : x ≠ y := fun h => by subst h; exact absurd h1 (by rw [UInt8.lt_iff_toNat_lt]; omega)
        simp [h1, this]
      · by_cases h3 : y < x
        · have : x ≠ y := fun h => by subst h; exact absurd h3 (by rw [UInt8.lt_iff_toNat_lt]; omega)
          simp [h1, h3, this]
        · have h2 : x = y := by
            rw [UInt8.lt_iff_toNat_lt] at h1 h3
            exact UInt8.toNat_inj.1 (by omega)
          subst h2
          simp [h1, this]
theorem bs_toList (s : ByteArray) : s.toList = s.data.toList := ByteArray.toList_eq s
theorem bs_inj {a b : ByteArray} : a.toList = b.toList ↔ a = b := by
  constructor
  · intro h
    rw [bs_toList, bs_toList] at h
    exact ByteArray.ext (Array.toList_inj.1 h)
  · rintro rfl
    rfl
def idxP {α : Type} (p : α → Bool) (xs : List α) : Int := match xs.findIdx? p with
  | some i => (i : Int)
  | none => -1
theorem idxP_any {α : Type} (p : α → Bool) (xs : List α) : decide (0 ≤ idxP p xs) = xs.any p := by
  unfold idxP
  cases h : xs.findIdx? p with
  | none =>
    rw [List.findIdx?_eq_none_iff] at h
    have : xs.any p = false := by
      rw [List.any_eq_false]
      intro x hx
      simp [h x hx]
    rw [this]
    rfl
  | some i =>
    rw [List.findIdx?_eq_some_iff_getElem] at h
    obtain ⟨hi, hp, _⟩ := h
    have : xs.any p = true := List.any_eq_true.2 ⟨_, List.getElem_mem hi, hp⟩
    rw [this]
    exact decide_eq_true (by show (0 : Int) ≤ (i : Int); omega)
theorem getD_mem {α : Type} (z : α) (xs : List α) (i : Int) (h0 : 0 ≤ i) (h1 : i < xs.length) : xs.getD i.toNat z ∈ xs := by
  have h : i.toNat < xs.length := by omega
  rw [List.getD_eq_getElem?_getD, List.getElem?_eq_getElem h]
  exact List.getElem_mem h
theorem idxG_hit {α : Type} (z : α) (p : α → Bool) (xs : List α) (i : Int) (h0 : 0 ≤ i) (h1 : i < xs.length) (hp : p (xs.getD i.toNat z) = true) (hn : ∀ j : Nat, j < i.toNat → p (xs.getD j z) = false) : idxP p xs = i := by
  have h : i.toNat < xs.length := by omega
  have e : xs.findIdx? p = some i.toNat := by
    rw [List.findIdx?_eq_some_iff_getElem]
    refine ⟨h, ?_, ?_⟩
    · rw [List.getD_eq_getElem?_getD, List.getElem?_eq_getElem h] at hp
      exact hp
    · intro j hj
      have := hn j hj
      rw [List.getD_eq_getElem?_getD, List.getElem?_eq_getElem (by omega)] at this
      simp at this ⊢
      exact this
  unfold idxP
  rw [e]
  show ((i.toNat : Nat) : Int) = i
  omega
theorem idxG_miss {α : Type} (z : α) (p : α → Bool) (xs : List α) (i : Int) (h1 : (xs.length : Int) ≤ i) (hn : ∀ j : Nat, j < i.toNat → p (xs.getD j z) = false) : idxP p xs = -1 := by
  have e : xs.findIdx? p = none := by
    rw [List.findIdx?_eq_none_iff]
    intro x hx
    obtain ⟨j, hj, rfl⟩ := List.getElem_of_mem hx
    have := hn j (by omega)
    rw [List.getD_eq_getElem?_getD, List.getElem?_eq_getElem hj] at this
    exact this
  unfold idxP
  rw [e]
theorem missG_step {α : Type} (z : α) (p : α → Bool) (xs : List α) (i : Int) (h0 : 0 ≤ i) (hp : p (xs.getD i.toNat z) = false) (hn : ∀ j : Nat, j < i.toNat → p (xs.getD j z) = false) : ∀ j : Nat, j < (i + 1).toNat → p (xs.getD j z) = false := by
  intro j hj
  by_cases e : (j : Int) = i
  · rw [show j = i.toNat by omega]; exact hp
  · exact hn j (by omega)
def cntLt {α : Type} (cf : α → Int) (xs : List α) : Nat := xs.countP (fun x => decide (cf x < 0))
def hitAt {α : Type} (z : α) (cf : α → Int) (xs : List α) : Bool := decide (cntLt cf xs < xs.length) && decide (cf (xs.getD (cntLt cf xs) z) = 0)
theorem countP_bound {α : Type} (p : α → Bool) (z : α) (l : List α) (i : Nat) (hi : i ≤ l.length) (h1 : ∀ t, t < i → p (l.getD t z) = true) (h2 : ∀ t, i ≤ t → t < l.length → p (l.getD t z) = false) : l.countP p = i := by
  conv => lhs; rw [← List.take_append_drop i l]
  rw [List.countP_append]
  have e1 : (l.take i).countP p = i := by
    rw [List.countP_eq_length.2]
    · rw [List.length_take]; omega
    · intro a ha
      obtain ⟨t, ht, rfl⟩ := List.getElem_of_mem ha
      rw [List.length_take] at ht
      have := h1 t (by omega)
      rw [List.getD_eq_getElem?_getD, List.getElem?_eq_getElem (by omega)] at this
      rw [List.getElem_take]
      exact this
  have e2 : (l.drop i).countP p = 0 := by
    rw [List.countP_eq_zero]
    intro a ha
    obtain ⟨t, ht, rfl⟩ := List.getElem_of_mem ha
    rw [List.length_drop] at ht
    have := h2 (i + t) (by omega) (by omega)
    rw [List.getD_eq_getElem?_getD, List.getElem?_eq_getElem (by omega)] at this
    rw [List.getElem_drop]
    simpa using this
  omega
def nameIs (n : ByteArray) (x : S80) : Bool := x.f0.toList == n.toList
def nameCmp (n : ByteArray) (x : S80) : Int := Lib.compareBytes x.f0.data.toList n.data.toList
def risesF (l : List S80) : Prop := l.Pairwise (fun a b => Op.bytesLess a.f0.toList b.f0.toList = true)
instance (l : List S80) : Decidable (risesF l) := by unfold risesF; infer_instance
def putF (l : List S80) (n d : ByteArray) : List S80 :=
  if hitAt (default : S80) (nameCmp n) l = true then l.set (cntLt (nameCmp n) l) ⟨n, d⟩ else l.take (cntLt (nameCmp n) l) ++ (⟨n, d⟩ :: l.drop (cntLt (nameCmp n) l))
theorem risesF_mono {l : List S80} (h : risesF l) (n : ByteArray) (a b : Nat) (hab : a ≤ b) (hb : b < l.length) (hlt : nameCmp n (l.getD b (default : S80)) < 0) : nameCmp n (l.getD a (default : S80)) < 0 := by
  by_cases he : a = b
  · rw [he]; exact hlt
  · have ha : a < l.length := by omega
    have hp := List.pairwise_iff_getElem.1 h a b ha hb (by omega)
    unfold nameCmp at hlt ⊢
    rw [cmp_neg] at hlt ⊢
    rw [List.getD_eq_getElem?_getD, List.getElem?_eq_getElem hb] at hlt
    rw [List.getD_eq_getElem?_getD, List.getElem?_eq_getElem ha]
    rw [bs_toList, bs_toList] at hp
    exact bless_trans hp hlt
theorem cntLt_le {α : Type} (cf : α → Int) (l : List α) : cntLt cf l ≤ l.length := List.countP_le_length
def onF (l : List S80) (k : Int) (n t d : ByteArray) : List S80 × Bool :=
  if k = 1 then (putF l n (if 0 ≤ idxP (nameIs n) l then (at' l (idxP (nameIs n) l)).f1 ++ d else d), true)
  else if 0 ≤ idxP (nameIs n) l then
    if k = 3 then (l.take (idxP (nameIs n) l).toNat ++ l.drop ((idxP (nameIs n) l).toNat + 1), true)
    else (putF (l.take (idxP (nameIs n) l).toNat ++ l.drop ((idxP (nameIs n) l).toNat + 1)) t (at' l (idxP (nameIs n) l)).f1, true)
  else (l, false)
theorem idxP_lt {α : Type} (p : α → Bool) (l : List α) : idxP p l < (l.length : Int) := by
  unfold idxP
  cases h : l.findIdx? p with
  | none => simp <;> omega
  | some i =>
    rw [List.findIdx?_eq_some_iff_getElem] at h
    obtain ⟨hi, _⟩ := h
    simpa using hi
theorem idxP_ge {α : Type} (p : α → Bool) (l : List α) : -1 ≤ idxP p l := by
  unfold idxP
  cases h : l.findIdx? p with
  | none => simp
  | some i => simp <;> omega
theorem idxP_at {α : Type} (p : α → Bool) (z : α) (l : List α) (h : 0 ≤ idxP p l) : p (l.getD (idxP p l).toNat z) = true := by
  unfold idxP at h ⊢
  cases hf : l.findIdx? p with
  | none => rw [hf] at h; simp at h
  | some i =>
    rw [List.findIdx?_eq_some_iff_getElem] at hf
    obtain ⟨hi, hp, _⟩ := hf
    simp only [Int.toNat_natCast]
    rw [List.getD_eq_getElem?_getD, List.getElem?_eq_getElem hi]
    exact hp
theorem risesF_cut {l : List S80} (h : risesF l) (i : Nat) : risesF (l.take i ++ l.drop (i + 1)) := by
  refine List.Pairwise.sublist ?_ h
  conv => rhs; rw [← List.take_append_drop i l]
  refine List.Sublist.append (List.Sublist.refl _) ?_
  rw [← List.drop_drop]
  exact List.drop_sublist _ _
def nameB (n : ByteArray) : Bool := decide (1 ≤ n.size) && decide (n.size ≤ 100)
def upB : Option ByteArray → ByteArray → Bool
  | none, _ => true
  | some q, n => Op.bytesLess q.toList n.toList
def namesB (p : Option ByteArray) : List S80 → Bool
  | [] => true
  | x :: r => nameB x.f0 && (upB p x.f0 && namesB (some x.f0) r)
def sumF (l : List S80) : Nat := (l.map (fun x => x.f1.size)).sum
def filesB (l : List S80) : Bool := namesB none l && (decide (sumF l ≤ 200000) && decide (l.length ≤ 60))
def smallF (l : List S80) : Prop := ∀ x ∈ l, x.f1.size ≤ 1099511627776
def prevF (l : List S80) (i : Nat) : Option ByteArray := if i = 0 then none else some (at' l ((i - 1 : Nat) : Int)).f0
theorem prevF_succ (l : List S80) (i : Nat) (h : i < l.length) : prevF l (i + 1) = some l[i].f0 := by
  unfold prevF
  rw [if_neg (by omega), Nat.add_sub_cancel, rdF_nat l i h]
theorem namesB_step (l : List S80) (i : Nat) (h : i < l.length) : namesB (prevF l i) (l.drop i) = (nameB l[i].f0 && ((if i = 0 then true else Op.bytesLess (at' l ((i - 1 : Nat) : Int)).f0.toList l[i].f0.toList) && namesB (prevF l (i + 1)) (l.drop (i + 1)))) := by
  rw [List.drop_eq_getElem_cons h, namesB, prevF_succ l i h]
  unfold prevF
  by_cases hi : i = 0
  · rw [if_pos hi, if_pos hi]
    rfl
  · rw [if_neg hi, if_neg hi]
    rfl
theorem sumF_step (l : List S80) (i : Nat) (h : i < l.length) : sumF (l.drop i) = l[i].f1.size + sumF (l.drop (i + 1)) := by
  rw [List.drop_eq_getElem_cons h]
  unfold sumF
  rw [List.map_cons, List.sum_cons]
theorem sumF_end (l : List S80) (i : Nat) (h : l.length ≤ i) : sumF (l.drop i) = 0 := by
  rw [List.drop_of_length_le h]
  rfl
theorem namesB_end (l : List S80) (i : Nat) (h : l.length ≤ i) : namesB (prevF l i) (l.drop i) = true := by
  rw [List.drop_of_length_le h]
  rfl
theorem namesB_rise : ∀ (l : List S80) (p : Option ByteArray), namesB p l = true → risesF l ∧ ∀ q, p = some q → ∀ x ∈ l, Op.bytesLess q.toList x.f0.toList = true
  | [], p, _ => ⟨List.Pairwise.nil, fun _ _ x hx => by cases hx⟩
  | x :: r, p, h => by
    rw [namesB, Bool.and_eq_true, Bool.and_eq_true] at h
    obtain ⟨_, h1, h2⟩ := h
    obtain ⟨i1, i2⟩ := namesB_rise r _ h2
    refine ⟨List.Pairwise.cons (fun y hy => i2 _ rfl y hy) i1, ?_⟩
    rintro q rfl y hy
    rcases List.mem_cons.1 hy with rfl | hy
    · exact h1
    · exact bless_trans h1 (i2 _ rfl y hy)
theorem mem_sumF (l : List S80) (x : S80) (hx : x ∈ l) : x.f1.size ≤ sumF l := by
  induction l with
  | nil => cases hx
  | cons y r ih =>
    unfold sumF at ih ⊢
    rw [List.map_cons, List.sum_cons]
    rcases List.mem_cons.1 hx with rfl | hx
    · omega
    · have := ih hx
      omega
theorem filesB_said {l : List S80} (h : filesB l = true) : risesF l ∧ l.length ≤ 60 ∧ ∀ x ∈ l, x.f1.size ≤ 200000 := by
  unfold filesB at h
  rw [Bool.and_eq_true, Bool.and_eq_true, decide_eq_true_eq, decide_eq_true_eq] at h
  exact ⟨(namesB_rise l none h.1).1, h.2.2, fun x hx => by have := mem_sumF l x hx; omega⟩
def eqF (a b : S80) : Bool := (a.f0.toList == b.f0.toList) && (a.f1.toList == b.f1.toList)
def sameF : List S80 → List S80 → Bool
  | [], [] => true
  | a :: l, b :: m => eqF a b && sameF l m
  | _, _ => false
theorem sameF_iff : ∀ (l m : List S80), sameF l m = true ↔ l = m
  | [], [] => by simp [sameF]
  | [], _ :: _ => by simp [sameF]
  | _ :: _, [] => by simp [sameF]
  | a :: l, b :: m => by
    rw [sameF, Bool.and_eq_true, sameF_iff l m]
    unfold eqF
    rw [Bool.and_eq_true, beq_iff_eq, beq_iff_eq, bs_inj, bs_inj]
    constructor
    · rintro ⟨⟨h1, h2⟩, rfl⟩
      cases a
      cases b
      simp_all
    · intro h
      injection h with h1 h2
      subst h1
      exact ⟨⟨rfl, rfl⟩, h2⟩
theorem sameF_len : ∀ (l m : List S80), l.length ≠ m.length → sameF l m = false
  | [], [], h => absurd rfl h
  | [], _ :: _, _ => rfl
  | _ :: _, [], _ => rfl
  | a :: l, b :: m, h => by rw [sameF, sameF_len l m (by simpa using h), Bool.and_false]
theorem sameF_step (l m : List S80) (i : Nat) (h : i < l.length) (h' : i < m.length) : sameF (l.drop i) (m.drop i) = (eqF l[i] m[i] && sameF (l.drop (i + 1)) (m.drop (i + 1))) := by
  rw [List.drop_eq_getElem_cons h, List.drop_eq_getElem_cons h', sameF]
def emptyB (s : ByteArray) : Bool := s.toList == ([] : List UInt8)
def formB (k : Int) (n t d : ByteArray) : Bool :=
  if k = 1 then nameB n && emptyB t else if k = 2 then nameB n && (nameB t && emptyB d) else if k = 3 then nameB n && (emptyB t && emptyB d) else false
def putS (n d : ByteArray) : Bool → List S80 → List S80
  | done, [] => if done then [] else [⟨n, d⟩]
  | done, x :: r => (if !done && !(Op.bytesLess x.f0.toList n.toList) then [⟨n, d⟩] else []) ++ ((if nameIs n x then [] else [x]) ++ putS n d (done || !(Op.bytesLess x.f0.toList n.toList)) r)
def runB (live : List S80) : List S80 → List S73 → Bool
  | now, [] => sameF now live
  | now, op :: r => formB op.f0 op.f1 op.f2 op.f3 && ((onF now op.f0 op.f1 op.f2 op.f3).2 && (filesB (onF now op.f0 op.f1 op.f2 op.f3).1 && runB live (onF now op.f0 op.f1 op.f2 op.f3).1 r))
def diskB (live safe : List S80) (ops : List S73) : Bool := filesB live && (filesB safe && (decide (ops.length ≤ 200) && runB live safe ops))
theorem onF_small {now : List S80} (hn : ∀ x ∈ now, x.f1.size ≤ 200000) (k : Int) (n t d : ByteArray) (hd : d.size ≤ 1099511627776) : (onF now k n t d).2 = true → ∀ x ∈ (onF now k n t d).1, x.f1.size ≤ 1099512000000 := by
  have hput : ∀ (l : List S80) (m e : ByteArray), (∀ x ∈ l, x.f1.size ≤ 200000) → e.size ≤ 1099512000000 → ∀ x ∈ putF l m e, x.f1.size ≤ 1099512000000 := by
    intro l m e hl he x hx
    unfold putF at hx
    split at hx
    · rcases List.mem_or_eq_of_mem_set hx with hx | rfl
      · have := hl x hx; omega
      · exact he
    · rcases List.mem_append.1 hx with hx | hx
      · have := hl x (List.mem_of_mem_take hx); omega
      · rcases List.mem_cons.1 hx with rfl | hx
        · exact he
        · have := hl x (List.mem_of_mem_drop hx); omega
  have hcut : ∀ x ∈ now.take (idxP (nameIs n) now).toNat ++ now.drop ((idxP (nameIs n) now).toNat + 1), x.f1.size ≤ 200000 := by
    intro x hx
    rcases List.mem_append.1 hx with hx | hx
    · exact hn x (List.mem_of_mem_take hx)
    · exact hn x (List.mem_of_mem_drop hx)
  have hat : 0 ≤ idxP (nameIs n) now → (at' now (idxP (nameIs n) now)).f1.size ≤ 200000 := fun h => hn _ (getD_mem (default : S80) now _ h (idxP_lt _ _))
  unfold onF
  split
  · intro _
    refine hput now n _ hn ?_
    split
    · rw [ByteArray.size_append]
      have := hat (by assumption)
      omega
    · omega
  · split
    · split
      · intro _ x hx
        have := hcut x hx
        omega
      · intro _
        refine hput _ t _ hcut ?_
        have := hat (by assumption)
        omega
    · intro h
      cases h
theorem putS_true (n d : ByteArray) : ∀ l : List S80, putS n d true l = l.filter (fun x => !nameIs n x)
  | [] => rfl
  | x :: r => by
    rw [putS, List.filter_cons, Bool.true_or, putS_true n d r]
    cases nameIs n x <;> simp
theorem nameIs_iff (n : ByteArray) (x : S80) : nameIs n x = true ↔ x.f0 = n := by
  unfold nameIs
  rw [beq_iff_eq, bs_inj]
theorem nameCmp_neg (n : ByteArray) (x : S80) : nameCmp n x < 0 ↔ Op.bytesLess x.f0.toList n.toList = true := by
  unfold nameCmp
  rw [cmp_neg, bs_toList, bs_toList]
theorem nameCmp_zero (n : ByteArray) (x : S80) : nameCmp n x = 0 ↔ x.f0 = n := by
  unfold nameCmp
  rw [cmp_zero, ← bs_toList, ← bs_toList, bs_inj]
theorem cntLt_none {l : List S80} (n : ByteArray) (h : ∀ y ∈ l, Op.bytesLess y.f0.toList n.toList = false) : cntLt (nameCmp n) l = 0 := by
  unfold cntLt
  rw [List.countP_eq_zero]
  intro y hy
  have := h y hy
  simp only [decide_eq_true_eq, nameCmp_neg, this]
  simp
theorem filter_above {l : List S80} (n : ByteArray) (h : ∀ y ∈ l, Op.bytesLess n.toList y.f0.toList = true) : l.filter (fun x => !nameIs n x) = l := by
  rw [List.filter_eq_self]
  intro y hy
  have := h y hy
  rw [Bool.not_eq_true', Bool.eq_false_iff]
  intro he
  rw [nameIs_iff] at he
  rw [he, bless_irrefl] at this
  cases this
theorem putS_putF (n d : ByteArray) : ∀ l : List S80, risesF l → putS n d false l = putF l n d
  | [], _ => by
    unfold putF cntLt hitAt
    simp [putS]
  | x :: r, h => by
    have hr : risesF r := (List.pairwise_cons.1 h).2
    have hx := (List.pairwise_cons.1 h).1
    rw [putS]
    cases hl : Op.bytesLess x.f0.toList n.toList with
    | true =>
      have hni : nameIs n x = false := by
        rw [Bool.eq_false_iff]
        intro he
        rw [nameIs_iff] at he
        rw [he, bless_irrefl] at hl
        cases hl
      have hc : cntLt (nameCmp n) (x :: r) = cntLt (nameCmp n) r + 1 := by
        unfold cntLt
        exact List.countP_cons_of_pos (p := fun y => decide (nameCmp n y < 0)) (decide_eq_true ((nameCmp_neg n x).2 hl))
      have hh : hitAt (default : S80) (nameCmp n) (x :: r) = hitAt (default : S80) (nameCmp n) r := by
        unfold hitAt
        rw [hc, List.getD_cons_succ, List.length_cons]
        congr 1
        exact decide_eq_decide.2 (by omega)
      rw [hni, show (false || !true) = false from rfl, putS_putF n d r hr]
      unfold putF
      rw [hh, hc]
      cases hitAt (default : S80) (nameCmp n) r <;> simp
    | false =>
      have hnone : ∀ y ∈ r, Op.bytesLess y.f0.toList n.toList = false := by
        intro y hy
        rw [Bool.eq_false_iff]
        intro hlt
        have := bless_trans (hx y hy) hlt
        rw [hl] at this
        cases this
      have hc : cntLt (nameCmp n) (x :: r) = 0 := cntLt_none n (fun y hy => by
        rcases List.mem_cons.1 hy with rfl | hy
        · exact hl
        · exact hnone y hy)
      have hh : hitAt (default : S80) (nameCmp n) (x :: r) = nameIs n x := by
        unfold hitAt
        rw [hc, List.getD_cons_zero, decide_eq_true (by simp), Bool.true_and, Bool.eq_iff_iff, decide_eq_true_eq, nameCmp_zero, nameIs_iff]
      have hab : ∀ y ∈ r, Op.bytesLess n.toList y.f0.toList = true := by
        intro y hy
        rcases bless_tri x.f0.toList n.toList with h1 | h1 | h1
        · rw [hl] at h1; cases h1
        · rw [← h1]; exact hx y hy
        · exact bless_trans h1 (hx y hy)
      have hput : putS n d true r = r := by rw [putS_true, filter_above n hab]
      unfold putF
      rw [hh, hc]
      simp only [Bool.not_false, Bool.false_or, Bool.true_and, if_true, hput]
      cases nameIs n x <;> simp
theorem cut_filter (n : ByteArray) (l : List S80) (h : risesF l) (h0 : 0 ≤ idxP (nameIs n) l) : l.filter (fun x => !nameIs n x) = l.take (idxP (nameIs n) l).toNat ++ l.drop ((idxP (nameIs n) l).toNat + 1) := by
  have hlt : (idxP (nameIs n) l).toNat < l.length := by
    have := idxP_lt (nameIs n) l
    omega
  have hat := idxP_at (nameIs n) (default : S80) l h0
  generalize (idxP (nameIs n) l).toNat = i at *
  rw [List.getD_eq_getElem?_getD, List.getElem?_eq_getElem hlt] at hat
  change nameIs n l[i] = true at hat
  rw [nameIs_iff] at hat
  have e : l = l.take i ++ (l[i] :: l.drop (i + 1)) := by rw [← List.drop_eq_getElem_cons hlt, List.take_append_drop]
  have hp : risesF (l.take i ++ (l[i] :: l.drop (i + 1))) := by rw [← e]; exact h
  obtain ⟨_, p2, p3⟩ := List.pairwise_append.1 hp
  have q := (List.pairwise_cons.1 p2).1
  conv => lhs; rw [e]
  rw [List.filter_append, List.filter_cons, show nameIs n l[i] = true from (nameIs_iff n _).2 hat]
  have e1 : (l.take i).filter (fun x => !nameIs n x) = l.take i := by
    rw [List.filter_eq_self]
    intro y hy
    have := p3 y hy l[i] List.mem_cons_self
    rw [Bool.not_eq_true', Bool.eq_false_iff]
    intro he
    rw [nameIs_iff] at he
    rw [he, hat, bless_irrefl] at this
    cases this
  have e2 : (l.drop (i + 1)).filter (fun x => !nameIs n x) = l.drop (i + 1) := filter_above n (fun y hy => by rw [← hat]; exact q y hy)
  rw [e1]
  simp only [Bool.not_true]
  rw [if_neg (by simp), e2]
def doS (l : List S80) (k : Int) (n t d : ByteArray) : List S80 × Bool :=
  if k = 1 then (putF l n (if 0 ≤ idxP (nameIs n) l then (at' l (idxP (nameIs n) l)).f1 ++ d else d), true)
  else if 0 ≤ idxP (nameIs n) l then
    if k = 2 then (putF (l.take (idxP (nameIs n) l).toNat ++ l.drop ((idxP (nameIs n) l).toNat + 1)) t (at' l (idxP (nameIs n) l)).f1, true)
    else (l.take (idxP (nameIs n) l).toNat ++ l.drop ((idxP (nameIs n) l).toNat + 1), true)
  else (l, false)
theorem doS_onF (l : List S80) (k : Int) (n t d : ByteArray) (h : formB k n t d = true) : doS l k n t d = onF l k n t d := by
  have hk : k = 1 ∨ k = 2 ∨ k = 3 := by
    unfold formB at h
    by_cases h1 : k = 1
    · exact .inl h1
    · by_cases h2 : k = 2
      · exact .inr (.inl h2)
      · by_cases h3 : k = 3
        · exact .inr (.inr h3)
        · rw [if_neg h1, if_neg h2, if_neg h3] at h
          cases h
  unfold doS onF
  rcases hk with rfl | rfl | rfl <;> simp
theorem doS_ok (l : List S80) (k : Int) (n t d : ByteArray) : (doS l k n t d).2 = (onF l k n t d).2 := by
  unfold doS onF
  by_cases h1 : k = 1
  · simp [h1]
  · by_cases h : 0 ≤ idxP (nameIs n) l
    · by_cases h2 : k = 2 <;> by_cases h3 : k = 3 <;> simp [h1, h, h2, h3]
    · simp [h1, h]
theorem doS_small {now : List S80} (hn : ∀ x ∈ now, x.f1.size ≤ 200000) (k : Int) (n t d : ByteArray) (hf : formB k n t d = true) (hd : d.size ≤ 1099511627776) (ho : (doS now k n t d).2 = true) : ∀ x ∈ (doS now k n t d).1, x.f1.size ≤ 1099512000000 := by
  rw [doS_onF now k n t d hf] at ho ⊢
  exact onF_small hn k n t d hd ho
end Go.Proofs.Ytfjoamlgbegpgaa.P
namespace Go.Proofs.Ytfjoamlgbegpgaa.P
open Go Go.Proofs.Ytfjoamlgbegpgaa.PM Go.Proofs
theorem strLt_eq (a b : ByteArray) : strLt a b = Op.bytesLess a.toList b.toList := rfl
theorem isFileName_ev (n : ByteArray) : Ev (fun k => f101 k n) (nameB n) := by
  unfold f101 nameB
  refine Ev.ite (fun h => Ev.ret' ?_) (fun h => Ev.ret' ?_)
  · rw [decide_eq_true (by omega : 1 ≤ n.size), Bool.true_and]
    exact decide_eq_decide.2 (by omega)
  · rw [decide_eq_false (by omega : ¬ 1 ≤ n.size), Bool.false_and]
theorem l4Name_ev (n : ByteArray) : Ev (fun k => f84 k n) (nameB n) := isFileName_ev n
theorem areFiles_loop (l : List S80) (hs : ∀ x ∈ l, x.f1.size ≤ 1099512000000) (hl : l.length ≤ 4611686018427387904) (d : Nat) : ∀ (i b : Nat), l.length - i = d → i ≤ l.length → b ≤ 200000 →
    Ev (fun k => f62.l3 k l (b : Int) l (l.length : Int) (i : Int)) (namesB (prevF l i) (l.drop i) && (decide (b + sumF (l.drop i) ≤ 200000) && decide (l.length ≤ 60))) := by
  induction d with
  | zero =>
    intro i b hd hi hb
    refine Ev.step (fun k => by rw [f62.l3]) (Ev.neg (by omega) (Ev.ret' ?_))
    rw [namesB_end l i (by omega), sumF_end l i (by omega), Bool.true_and, Nat.add_zero, decide_eq_true hb, Bool.true_and]
    exact decide_eq_decide.2 (by omega)
  | succ d ih =>
    intro i b hd hi hb
    have hlt : i < l.length := by omega
    have hsz := hs _ (List.getElem_mem hlt)
    refine Ev.step (fun k => by rw [f62.l3]) (Ev.pos (by omega) (Ev.pos (by omega) (Ev.pos (by omega) ?_)))
    rw [namesB_step l i hlt, sumF_step l i hlt, rdF_nat l i hlt]
    refine Ev.bind (isFileName_ev _) ?_
    cases hn : nameB l[i].f0 with
    | false => exact Ev.neg (by simp) (Ev.ret' (by simp))
    | true =>
      refine Ev.pos rfl ?_
      rw [wr (n := (b : Int) + (l[i].f1.size : Int)) (by omega) (by omega)]
      by_cases hbig : 200000 < (b : Int) + (l[i].f1.size : Int)
      · refine Ev.pos hbig (Ev.ret' ?_)
        rw [decide_eq_false (by omega : ¬ b + (l[i].f1.size + sumF (l.drop (i + 1))) ≤ 200000)]
        simp
      · refine Ev.neg hbig ?_
        have hih := ih (i + 1) (b + l[i].f1.size) (by omega) (by omega) (by omega)
        rw [show ((b + l[i].f1.size : Nat) : Int) = (b : Int) + (l[i].f1.size : Int) by omega, Nat.add_assoc] at hih
        rw [show ((i + 1 : Nat) : Int) = IntKind.i64.wrap ((i : Int) + 1) by rw [wr (by omega) (by omega)]; omega] at hih
        by_cases h0 : (0 : Int) < (i : Int)
        · refine Ev.pos h0 ?_
          have e1 : IntKind.i64.wrap ((i : Int) - 1) = ((i - 1 : Nat) : Int) := by rw [wr (by omega) (by omega)]; omega
          rw [e1, if_neg (by omega)]
          refine Ev.pos (by omega) (Ev.pos (by omega) ?_)
          rw [strLt_eq]
          cases hc : Op.bytesLess (at' l ((i - 1 : Nat) : Int)).f0.toList l[i].f0.toList with
          | true => exact Ev.pos rfl (Ev.eq hih (by simp))
          | false => exact Ev.neg (by simp) (Ev.ret' (by simp))
        · refine Ev.neg h0 ?_
          rw [if_pos (by omega)]
          exact Ev.eq hih (by simp)
theorem areFiles_ev (l : List S80) (hs : ∀ x ∈ l, x.f1.size ≤ 1099512000000) (hl : l.length ≤ 4611686018427387904) : Ev (fun k => f62 k l) (filesB l) := by
  have := areFiles_loop l hs hl _ 0 0 rfl (Nat.zero_le _) (by omega)
  rw [Nat.zero_add] at this
  exact this
theorem l4Files_loop (l : List S80) (hs : ∀ x ∈ l, x.f1.size ≤ 1099512000000) (hl : l.length ≤ 60) (d : Nat) : ∀ (i b : Nat), l.length - i = d → i ≤ l.length → b ≤ i * 1099512000000 →
    Ev (fun k => f43.l5 k l (b : Int) (i : Int)) (namesB (prevF l i) (l.drop i) && decide (b + sumF (l.drop i) ≤ 200000)) := by
  induction d with
  | zero =>
    intro i b hd hi hb
    refine Ev.step (fun k => by rw [f43.l5]) (Ev.neg (by omega) (Ev.ret' ?_))
    rw [namesB_end l i (by omega), sumF_end l i (by omega), Bool.true_and, Nat.add_zero]
    exact decide_eq_decide.2 (by omega)
  | succ d ih =>
    intro i b hd hi hb
    have hlt : i < l.length := by omega
    have hsz := hs _ (List.getElem_mem hlt)
    refine Ev.step (fun k => by rw [f43.l5]) (Ev.pos (by omega) (Ev.pos (by omega) ?_))
    rw [namesB_step l i hlt, sumF_step l i hlt, rdF_nat l i hlt]
    refine Ev.bind (l4Name_ev _) ?_
    cases hn : nameB l[i].f0 with
    | false => exact Ev.neg (by simp) (Ev.ret' (by simp))
    | true =>
      refine Ev.pos rfl ?_
      rw [wr (n := (b : Int) + (l[i].f1.size : Int)) (by omega) (by omega)]
      have hih := ih (i + 1) (b + l[i].f1.size) (by omega) (by omega) (by omega)
      rw [show ((b + l[i].f1.size : Nat) : Int) = (b : Int) + (l[i].f1.size : Int) by omega, Nat.add_assoc] at hih
      rw [show ((i + 1 : Nat) : Int) = IntKind.i64.wrap ((i : Int) + 1) by rw [wr (by omega) (by omega)]; omega] at hih
      by_cases h0 : (0 : Int) < (i : Int)
      · refine Ev.pos h0 ?_
        have e1 : IntKind.i64.wrap ((i : Int) - 1) = ((i - 1 : Nat) : Int) := by rw [wr (by omega) (by omega)]; omega
        rw [e1, if_neg (by omega)]
        refine Ev.pos (by omega) (Ev.pos (by omega) ?_)
        have hor : (strLt l[i].f0 (at' l ((i - 1 : Nat) : Int)).f0 || strEq l[i].f0 (at' l ((i - 1 : Nat) : Int)).f0) = !(Op.bytesLess (at' l ((i - 1 : Nat) : Int)).f0.toList l[i].f0.toList) := by
          generalize (at' l ((i - 1 : Nat) : Int)).f0 = p
          generalize l[i].f0 = q
          rw [strLt_eq]
          rcases bless_tri p.toList q.toList with h | h | h
          · rw [h, bless_asymm h]
            have : strEq q p = false := by
              rw [Bool.eq_false_iff]; intro e
              rw [(strEq_iff _ _).1 e, bless_irrefl] at h; cases h
            rw [this]; rfl
          · rw [bs_inj] at h; subst h
            rw [bless_irrefl, strEq_self]; rfl
          · rw [h, bless_asymm h]; rfl
        rw [hor]
        cases hc : Op.bytesLess (at' l ((i - 1 : Nat) : Int)).f0.toList l[i].f0.toList with
        | true => exact Ev.neg (by simp) (Ev.eq hih (by simp))
        | false => exact Ev.pos rfl (Ev.ret' (by simp))
      · refine Ev.neg h0 ?_
        rw [if_pos (by omega)]
        exact Ev.eq hih (by simp)
theorem l4Files_ev (l : List S80) (hs : ∀ x ∈ l, x.f1.size ≤ 1099512000000) : Ev (fun k => f43 k l) (filesB l) := by
  unfold f43 filesB
  by_cases h : 60 < (l.length : Int)
  · refine Ev.pos h (Ev.ret' ?_)
    rw [decide_eq_false (by omega : ¬ l.length ≤ 60)]
    simp
  · refine Ev.neg h ?_
    have := l4Files_loop l hs (by omega) _ 0 0 rfl (Nat.zero_le _) (by omega)
    rw [Nat.zero_add] at this
    exact Ev.eq this (by rw [decide_eq_true (by omega : l.length ≤ 60), Bool.and_true]; rfl)
theorem eqF_eq (a b : S80) : (strEq a.f0 b.f0 && strEq a.f1 b.f1) = eqF a b := rfl
theorem equal_loop (l m : List S80) (hm : l.length = m.length) (hl : l.length ≤ 4611686018427387904) (d : Nat) : ∀ i : Nat, l.length - i = d → i ≤ l.length → Ev (fun k => f90.l4 k l m (l.length : Int) (i : Int)) (sameF (l.drop i) (m.drop i)) := by
  induction d with
  | zero =>
    intro i hd hi
    refine Ev.step (fun k => by rw [f90.l4]) (Ev.neg (by omega) (Ev.ret' ?_))
    rw [List.drop_of_length_le (by omega), List.drop_of_length_le (by omega), sameF]
  | succ d ih =>
    intro i hd hi
    have h1 : i < l.length := by omega
    have h2 : i < m.length := by omega
    refine Ev.step (fun k => by rw [f90.l4]) (Ev.pos (by omega) (Ev.pos (by omega) (Ev.pos (by omega) (Ev.pos (by omega) ?_))))
    have hn := ih (i + 1) (by omega) (by omega)
    rw [show ((i + 1 : Nat) : Int) = IntKind.i64.wrap ((i : Int) + 1) by rw [wr (by omega) (by omega)]; omega] at hn
    rw [rdF_nat l i h1, rdF_nat m i h2, eqF_eq, sameF_step l m i h1 h2]
    cases he : eqF l[i] m[i] with
    | false => exact Ev.neg (by simp) (Ev.ret' (by simp))
    | true => exact Ev.pos rfl (Ev.eq hn (by simp))
theorem equal_ev (l m : List S80) (hl : l.length ≤ 4611686018427387904) : Ev (fun k => f90 k l m) (sameF l m) := by
  unfold f90
  by_cases h : l.length = m.length
  · exact Ev.pos (by omega) (equal_loop l m h hl _ 0 rfl (Nat.zero_le _))
  · exact Ev.neg (by omega) (Ev.ret' (sameF_len l m h).symm)
theorem l4Same_loop (l m : List S80) (hm : l.length = m.length) (hl : l.length ≤ 4611686018427387904) (d : Nat) : ∀ i : Nat, l.length - i = d → i ≤ l.length → Ev (fun k => f46.l4 k l m (i : Int)) (sameF (l.drop i) (m.drop i)) := by
  induction d with
  | zero =>
    intro i hd hi
    refine Ev.step (fun k => by rw [f46.l4]) (Ev.neg (by omega) (Ev.ret' ?_))
    rw [List.drop_of_length_le (by omega), List.drop_of_length_le (by omega), sameF]
  | succ d ih =>
    intro i hd hi
    have h1 : i < l.length := by omega
    have h2 : i < m.length := by omega
    refine Ev.step (fun k => by rw [f46.l4]) (Ev.pos (by omega) (Ev.pos (by omega) (Ev.pos (by omega) ?_)))
    have hn := ih (i + 1) (by omega) (by omega)
    rw [show ((i + 1 : Nat) : Int) = IntKind.i64.wrap ((i : Int) + 1) by rw [wr (by omega) (by omega)]; omega] at hn
    rw [rdF_nat l i h1, rdF_nat m i h2, eqF_eq, sameF_step l m i h1 h2]
    cases he : eqF l[i] m[i] with
    | false => exact Ev.neg (by simp) (Ev.ret' (by simp))
    | true => exact Ev.pos rfl (Ev.eq hn (by simp))
theorem l4Same_ev (l m : List S80) (hl : l.length ≤ 4611686018427387904) : Ev (fun k => f46 k l m) (sameF l m) := by
  unfold f46
  by_cases h : l.length = m.length
  · exact Ev.pos (by omega) (l4Same_loop l m h hl _ 0 rfl (Nat.zero_le _))
  · exact Ev.neg (by omega) (Ev.ret' (sameF_len l m h).symm)
theorem empty_eq (s : ByteArray) : strEq s (⟨#[]⟩ : ByteArray) = emptyB s := by
  unfold strEq emptyB
  rw [show (⟨#[]⟩ : ByteArray).toList = [] by rw [ByteArray.toList_eq]]
theorem isFormed_ev (k : Int) (n t d : ByteArray) : Ev (fun q => f89 q k n t d) (formB k n t d) := by
  unfold f89 formB
  simp only [empty_eq]
  by_cases h1 : k = 1
  · rw [if_pos h1]
    refine Ev.pos h1 (Ev.bind (isFileName_ev _) ?_)
    cases nameB n
    · exact Ev.neg (by simp) (Ev.ret' rfl)
    · exact Ev.pos rfl (Ev.ret' (by simp))
  rw [if_neg h1]
  by_cases h2 : k = 2
  · rw [if_pos h2]
    refine Ev.neg h1 (Ev.pos h2 (Ev.bind (isFileName_ev _) ?_))
    cases nameB n
    · exact Ev.neg (by simp) (Ev.ret' rfl)
    · refine Ev.pos rfl (Ev.bind (isFileName_ev _) ?_)
      cases nameB t
      · exact Ev.neg (by simp) (Ev.ret' (by simp))
      · exact Ev.pos rfl (Ev.ret' (by simp))
  rw [if_neg h2]
  by_cases h3 : k = 3
  · rw [if_pos h3]
    refine Ev.neg h1 (Ev.neg h2 (Ev.pos h3 (Ev.bind (isFileName_ev _) ?_)))
    cases nameB n
    · exact Ev.neg (by simp) (Ev.ret' rfl)
    · refine Ev.pos rfl ?_
      cases emptyB t
      · exact Ev.neg (by simp) (Ev.ret' (by simp))
      · exact Ev.pos rfl (Ev.ret' (by simp))
  · rw [if_neg h3]
    exact Ev.neg h1 (Ev.neg h2 (Ev.neg h3 (Ev.ret _)))
theorem l4Form_ev (k : Int) (n t d : ByteArray) : Ev (fun q => f45 q k n t d) (formB k n t d) := by
  unfold f45
  simp only [empty_eq]
  have hin : Ev (fun q => f58 q k 1 3) (decide (1 ≤ k) && decide (k ≤ 3)) := by
    unfold f58
    refine Ev.ite (fun h => Ev.ret' ?_) (fun h => Ev.ret' ?_)
    · rw [decide_eq_true h]; rfl
    · rw [decide_eq_false h]; rfl
  refine Ev.bind hin ?_
  by_cases hk : 1 ≤ k ∧ k ≤ 3
  · rw [decide_eq_true hk.1, decide_eq_true hk.2]
    refine Ev.pos rfl (Ev.bind (l4Name_ev _) ?_)
    unfold formB
    have h123 : k = 1 ∨ k = 2 ∨ k = 3 := by omega
    rcases h123 with rfl | rfl | rfl
    · cases nameB n
      · exact Ev.neg (by simp) (Ev.ret' (by simp))
      · refine Ev.pos rfl (Ev.neg (by omega) ?_)
        cases emptyB t
        · exact Ev.neg (by simp) (Ev.ret' (by simp))
        · exact Ev.pos rfl (Ev.pos rfl (Ev.ret' (by simp)))
    · cases nameB n
      · exact Ev.neg (by simp) (Ev.ret' (by simp))
      · refine Ev.pos rfl (Ev.pos rfl (Ev.bind (l4Name_ev _) ?_))
        cases nameB t
        · exact Ev.neg (by simp) (Ev.ret' (by simp))
        · exact Ev.pos rfl (Ev.ret' (by simp))
    · cases nameB n
      · exact Ev.neg (by simp) (Ev.ret' (by simp))
      · refine Ev.pos rfl (Ev.neg (by omega) ?_)
        cases emptyB t
        · exact Ev.neg (by simp) (Ev.ret' (by simp))
        · exact Ev.pos rfl (Ev.neg (by omega) (Ev.ret' (by simp)))
  · have hf : (decide (1 ≤ k) && decide (k ≤ 3)) = false := by
      rw [Bool.and_eq_false_iff, decide_eq_false_iff_not, decide_eq_false_iff_not]
      omega
    rw [hf]
    refine Ev.neg (by simp) (Ev.ret' ?_)
    unfold formB
    rw [if_neg (by omega), if_neg (by omega), if_neg (by omega)]
theorem l4At_loop (l : List S80) (n : ByteArray) (hl : l.length ≤ 4611686018427387904) (d : Nat) : ∀ i : Nat, l.length - i = d → i ≤ l.length → (∀ j : Nat, j < i → nameIs n (l.getD j default) = false) →
    Ev (fun k => f52.l2 k l n (i : Int)) (idxP (nameIs n) l) := by
  induction d with
  | zero =>
    intro i hd hi hn
    refine Ev.step (fun k => by rw [f52.l2]) (Ev.neg (by omega) (Ev.ret' ?_))
    rw [idxG_miss default (nameIs n) l (i : Int) (by omega) (fun j hj => hn j (by omega))]
  | succ d ih =>
    intro i hd hi hn
    have h1 : i < l.length := by omega
    refine Ev.step (fun k => by rw [f52.l2]) (Ev.pos (by omega) (Ev.pos (by omega) ?_))
    have e : at' l (i : Int) = l.getD i default := by unfold at'; rw [Int.toNat_natCast]
    have hs : strEq (at' l (i : Int)).f0 n = nameIs n (l.getD i default) := by rw [e]; rfl
    rw [hs]
    cases hc : nameIs n (l.getD i default) with
    | true =>
      refine Ev.pos rfl (Ev.ret' ?_)
      rw [idxG_hit default (nameIs n) l (i : Int) (by omega) (by omega) (by rw [Int.toNat_natCast]; exact hc) (fun j hj => hn j (by omega))]
    | false =>
      refine Ev.neg (by simp) ?_
      rw [show IntKind.i64.wrap ((i : Int) + 1) = ((i + 1 : Nat) : Int) by rw [wr (by omega) (by omega)]; omega]
      refine ih (i + 1) (by omega) (by omega) (fun j hj => ?_)
      by_cases hji : j = i
      · rw [hji]; exact hc
      · exact hn j (by omega)
theorem l4At_ev (l : List S80) (n : ByteArray) (hl : l.length ≤ 4611686018427387904) : Ev (fun k => f52 k l n) (idxP (nameIs n) l) :=
  l4At_loop l n hl _ 0 rfl (Nat.zero_le _) (fun j hj => absurd hj (Nat.not_lt_zero j))
theorem fileOf_loop (l : List S80) (n : ByteArray) (hl : l.length ≤ 4611686018427387904) (d : Nat) : ∀ i : Nat, l.length - i = d → i ≤ l.length → (∀ j : Nat, j < i → nameIs n (l.getD j default) = false) →
    Ev (fun k => f93.l2 k l (l.length : Int) (i : Int) n) (idxP (nameIs n) l, n) := by
  induction d with
  | zero =>
    intro i hd hi hn
    refine Ev.step (fun k => by rw [f93.l2]) (Ev.neg (by omega) (Ev.ret' ?_))
    rw [idxG_miss default (nameIs n) l (i : Int) (by omega) (fun j hj => hn j (by omega))]
  | succ d ih =>
    intro i hd hi hn
    have h1 : i < l.length := by omega
    refine Ev.step (fun k => by rw [f93.l2]) (Ev.pos (by omega) (Ev.pos (by omega) (Ev.pos (by omega) ?_)))
    have e : at' l (i : Int) = l.getD i default := by unfold at'; rw [Int.toNat_natCast]
    have hs : strEq (at' l (i : Int)).f0 n = nameIs n (l.getD i default) := by rw [e]; rfl
    refine Ev.bind (a := nameIs n (l.getD i default)) (by unfold f94; exact Ev.ret' hs) ?_
    cases hc : nameIs n (l.getD i default) with
    | true =>
      refine Ev.pos rfl (Ev.ret' ?_)
      rw [idxG_hit default (nameIs n) l (i : Int) (by omega) (by omega) (by rw [Int.toNat_natCast]; exact hc) (fun j hj => hn j (by omega))]
    | false =>
      refine Ev.neg (by simp) ?_
      rw [show IntKind.i64.wrap ((i : Int) + 1) = ((i + 1 : Nat) : Int) by rw [wr (by omega) (by omega)]; omega]
      refine ih (i + 1) (by omega) (by omega) (fun j hj => ?_)
      by_cases hji : j = i
      · rw [hji]; exact hc
      · exact hn j (by omega)
theorem fileOf_ev (l : List S80) (n : ByteArray) (hl : l.length ≤ 4611686018427387904) : Ev (fun k => f53 k l n) (idxP (nameIs n) l) := by
  unfold f53 f93
  exact Ev.bind (fileOf_loop l n hl _ 0 rfl (Nat.zero_le _) (fun j hj => absurd hj (Nat.not_lt_zero j))) (Ev.ret _)
theorem l4Cut_loop (l : List S80) (n : ByteArray) (hl : l.length ≤ 1073741824) (d : Nat) : ∀ (i : Nat) (out : List S80), l.length - i = d → i ≤ l.length → out.length ≤ i →
    Ev (fun k => f86.l3 k out l n (i : Int)) (out ++ (l.drop i).filter (fun x => !nameIs n x)) := by
  induction d with
  | zero =>
    intro i out hd hi ho
    refine Ev.step (fun k => by rw [f86.l3]) (Ev.neg (by omega) (Ev.ret' ?_))
    rw [List.drop_of_length_le (by omega)]
    simp
  | succ d ih =>
    intro i out hd hi ho
    have h1 : i < l.length := by omega
    refine Ev.step (fun k => by rw [f86.l3]) (Ev.pos (by omega) (Ev.pos (by omega) ?_))
    rw [rdF_nat l i h1, List.drop_eq_getElem_cons h1, List.filter_cons, show IntKind.i64.wrap ((i : Int) + 1) = ((i + 1 : Nat) : Int) by rw [wr (by omega) (by omega)]; omega]
    have hs : strEq l[i].f0 n = nameIs n l[i] := rfl
    rw [hs]
    cases hc : nameIs n l[i] with
    | true => exact Ev.pos rfl (ih (i + 1) out (by omega) (by omega) (by omega))
    | false =>
      refine Ev.neg (by simp) (Ev.pos (by omega) (Ev.pos (by omega) ?_))
      exact Ev.eq (ih (i + 1) (out ++ [l[i]]) (by omega) (by omega) (by simp; omega)) (by simp)
theorem l4Cut_ev (l : List S80) (n : ByteArray) (hl : l.length ≤ 1073741824) : Ev (fun k => f86 k l n) (l.filter (fun x => !nameIs n x)) :=
  l4Cut_loop l n hl _ 0 [] rfl (Nat.zero_le _) (Nat.le_refl _)
theorem l4Put_loop (l : List S80) (n dd : ByteArray) (hl : l.length ≤ 1073741824) (d : Nat) : ∀ (i : Nat) (out : List S80) (done : Bool), l.length - i = d → i ≤ l.length → out.length ≤ 2 * i →
    Ev (fun k => f85.l4 k out l n dd done (i : Int)) (out ++ putS n dd done (l.drop i)) := by
  induction d with
  | zero =>
    intro i out done hd hi ho
    refine Ev.step (fun k => by rw [f85.l4]) (Ev.neg (by omega) ?_)
    rw [List.drop_of_length_le (by omega), putS]
    cases done with
    | true => exact Ev.pos rfl (Ev.ret' (by simp))
    | false => exact Ev.neg (by simp) (Ev.pos (by omega) (Ev.pos (by omega) (Ev.ret' (by simp))))
  | succ d ih =>
    intro i out done hd hi ho
    have h1 : i < l.length := by omega
    refine Ev.step (fun k => by rw [f85.l4]) (Ev.pos (by omega) ?_)
    rw [rdF_nat l i h1, List.drop_eq_getElem_cons h1, putS, show IntKind.i64.wrap ((i : Int) + 1) = ((i + 1 : Nat) : Int) by rw [wr (by omega) (by omega)]; omega]
    have hs : strEq l[i].f0 n = nameIs n l[i] := rfl
    rw [hs, strLt_eq]
    cases done with
    | true =>
      refine Ev.pos rfl (Ev.pos (by omega) ?_)
      cases hc : nameIs n l[i] with
      | true => exact Ev.pos rfl (Ev.eq (ih (i + 1) out true (by omega) (by omega) (by omega)) (by simp))
      | false => exact Ev.neg (by simp) (Ev.pos (by omega) (Ev.pos (by omega) (Ev.eq (ih (i + 1) (out ++ [l[i]]) true (by omega) (by omega) (by simp; omega)) (by simp))))
    | false =>
      refine Ev.neg (by simp) (Ev.pos (by omega) ?_)
      cases hb : Op.bytesLess l[i].f0.toList n.toList with
      | true =>
        refine Ev.pos rfl ?_
        cases hc : nameIs n l[i] with
        | true => exact Ev.pos rfl (Ev.eq (ih (i + 1) out false (by omega) (by omega) (by omega)) (by simp))
        | false => exact Ev.neg (by simp) (Ev.pos (by omega) (Ev.pos (by omega) (Ev.eq (ih (i + 1) (out ++ [l[i]]) false (by omega) (by omega) (by simp; omega)) (by simp))))
      | false =>
        refine Ev.neg (by simp) (Ev.pos (by omega) (Ev.pos (by omega) ?_))
        cases hc : nameIs n l[i] with
        | true => exact Ev.pos rfl (Ev.eq (ih (i + 1) (out ++ [⟨n, dd⟩]) true (by omega) (by omega) (by simp; omega)) (by simp))
        | false => exact Ev.neg (by simp) (Ev.pos (by omega) (Ev.pos (by omega) (Ev.eq (ih (i + 1) (out ++ [⟨n, dd⟩] ++ [l[i]]) true (by omega) (by omega) (by simp; omega)) (by simp))))
theorem l4Put_ev (l : List S80) (n d : ByteArray) (hl : l.length ≤ 1073741824) : Ev (fun k => f85 k l n d) (putS n d false l) :=
  l4Put_loop l n d hl _ 0 [] false rfl (Nat.zero_le _) (Nat.le_refl _)
end Go.Proofs.Ytfjoamlgbegpgaa.P
namespace Go.Proofs.Ytfjoamlgbegpgaa.P
open Go Go.Proofs.Ytfjoamlgbegpgaa.PM Go.Proofs
theorem mid_eq (s : Nat) (h : s ≤ 4611686018427387904) : IntKind.i64.wrap (shrI .u64 (IntKind.u64.wrap (IntKind.i64.wrap (s : Int))) 1) = ((s / 2 : Nat) : Int) := by
  rw [wr (n := (s : Int)) (by omega) (by omega)]
  have hu : IntKind.u64.wrap (s : Int) = (s : Int) := IntWalk.u64_in _ ⟨by omega, by omega⟩
  rw [hu]
  have : shrI .u64 (s : Int) 1 = ((s / 2 : Nat) : Int) := by
    unfold shrI
    show Int.fdiv (s : Int) (2 ^ (min (1 : Int).toNat 64)) = _
    rw [show (2 : Int) ^ (min (1 : Int).toNat 64) = 2 from rfl, Int.fdiv_eq_ediv_of_nonneg _ (by omega)]
    omega
  rw [this, wr (by omega) (by omega)]
theorem cmp_ev (x : S80) (n : ByteArray) : Ev (fun k => f119 k x.f0 x.f1 n) (nameCmp n x) := by
  unfold f119 f120 f132
  exact Ev.bind (Ev.bind (Ev.ret _) (Ev.ret _)) (Ev.ret' rfl)
theorem at_getD (l : List S80) (i : Nat) : at' l (i : Int) = l.getD i default := by unfold at'; rw [Int.toNat_natCast]
theorem bs_loop (l : List S80) (n : ByteArray) (hr : risesF l) (hl : l.length ≤ 1073741824) (d : Nat) : ∀ lo hi : Nat, hi - lo ≤ d → lo ≤ hi → hi ≤ l.length → (∀ t, t < lo → nameCmp n (l.getD t default) < 0) → (∀ t, hi ≤ t → t < l.length → 0 ≤ nameCmp n (l.getD t default)) →
    Ev (fun k => f118.l3 k l n (l.length : Int) (lo : Int) (hi : Int)) ((cntLt (nameCmp n) l : Nat), hitAt default (nameCmp n) l) := by
  have fin : ∀ lo hi : Nat, lo = hi → hi ≤ l.length → (∀ t, t < lo → nameCmp n (l.getD t default) < 0) → (∀ t, hi ≤ t → t < l.length → 0 ≤ nameCmp n (l.getD t default)) →
      Ev (fun k => f118.l3 k l n (l.length : Int) (lo : Int) (hi : Int)) ((cntLt (nameCmp n) l : Nat), hitAt default (nameCmp n) l) := by
    rintro lo hi rfl hh h1 h2
    have hc : cntLt (nameCmp n) l = lo := countP_bound _ default l lo hh (fun t ht => decide_eq_true (h1 t ht)) (fun t h3 h4 => decide_eq_false (by have := h2 t h3 h4; omega))
    refine Ev.step (fun k => by rw [f118.l3]) (Ev.neg (by omega) ?_)
    unfold hitAt
    rw [hc]
    by_cases hlt : lo < l.length
    · refine Ev.pos (by omega) (Ev.pos (by omega) (Ev.pos (by omega) (Ev.bind (cmp_ev _ n) (Ev.ret' ?_))))
      rw [decide_eq_true hlt, Bool.true_and, at_getD]
    · refine Ev.neg (by omega) (Ev.ret' ?_)
      rw [decide_eq_false hlt, Bool.false_and]
  induction d with
  | zero => intro lo hi hd h1 h2 h3 h4; exact fin lo hi (by omega) h2 h3 h4
  | succ d ih =>
    intro lo hi hd h1 h2 h3 h4
    by_cases he : lo = hi
    · exact fin lo hi he h2 h3 h4
    · refine Ev.step (fun k => by rw [f118.l3]) (Ev.pos (by omega) ?_)
      have hm := mid_eq (lo + hi) (by omega)
      rw [show ((lo + hi : Nat) : Int) = (lo : Int) + (hi : Int) by omega] at hm
      rw [hm]
      generalize hmd : (lo + hi) / 2 = m
      have hm1 : lo ≤ m := by omega
      have hm2 : m < hi := by omega
      refine Ev.pos (by omega) (Ev.pos (by omega) (Ev.bind (cmp_ev _ n) ?_))
      rw [at_getD]
      by_cases hx : nameCmp n (l.getD m default) < 0
      · refine Ev.pos hx ?_
        rw [show IntKind.i64.wrap ((m : Int) + 1) = ((m + 1 : Nat) : Int) by rw [wr (by omega) (by omega)]; omega]
        exact ih (m + 1) hi (by omega) (by omega) h2 (fun t ht => risesF_mono hr n t m (by omega) (by omega) hx) h4
      · refine Ev.neg hx (ih lo m (by omega) hm1 (by omega) h3 (fun t h5 h6 => ?_))
        refine Int.not_lt.1 fun h => hx ?_
        exact risesF_mono hr n m t h5 h6 h
theorem bs_ev (l : List S80) (n : ByteArray) (hr : risesF l) (hl : l.length ≤ 1073741824) : Ev (fun k => f118 k l n) ((cntLt (nameCmp n) l : Nat), hitAt default (nameCmp n) l) := by
  unfold f118
  exact bs_loop l n hr hl _ 0 l.length (Nat.le_refl _) (Nat.zero_le _) (Nat.le_refl _) (fun t ht => absurd ht (Nat.not_lt_zero t)) (fun t h1 h2 => by omega)
theorem copyFiles_ev (l : List S80) (hl : l.length ≤ 1073741824) : Ev (fun k => f59 k l) l := by
  unfold f59
  exact Ev.pos (by omega) (Ev.pos (by omega) (Ev.ret _))
theorem withFile_ev (l : List S80) (n d : ByteArray) (hr : risesF l) (hl : l.length ≤ 1073741824) : Ev (fun k => f99 k l n d) (putF l n d) := by
  unfold f99
  refine Ev.bind (copyFiles_ev l hl) (Ev.bind (bs_ev l n hr hl) ?_)
  have hc : cntLt (nameCmp n) l ≤ l.length := cntLt_le _ _
  unfold putF
  cases hh : hitAt default (nameCmp n) l with
  | true =>
    have hlt : cntLt (nameCmp n) l < l.length := by
      unfold hitAt at hh
      rw [Bool.and_eq_true, decide_eq_true_eq] at hh
      exact hh.1
    exact Ev.pos rfl (Ev.pos (by show (0 : Int) ≤ ((cntLt (nameCmp n) l : Nat) : Int); omega) (Ev.pos (by show ((cntLt (nameCmp n) l : Nat) : Int) < _; omega) (Ev.ret' (by simp))))
  | false =>
    refine Ev.neg (by simp) (Ev.bind (a := l.take (cntLt (nameCmp n) l) ++ (⟨n, d⟩ :: l.drop (cntLt (nameCmp n) l))) ?_ (Ev.ret' (by simp)))
    unfold f121
    exact Ev.pos ⟨by show (0 : Int) ≤ ((cntLt (nameCmp n) l : Nat) : Int); omega, by show ((cntLt (nameCmp n) l : Nat) : Int) ≤ _; omega, rfl, by omega, by omega⟩ (Ev.ret' (by simp))
theorem cut_ev (l : List S80) (i : Int) (h0 : 0 ≤ i) (h1 : i < l.length) (hl : l.length ≤ 1073741824) : Ev (fun k => f100 k i (IntKind.i64.wrap (i + 1)) l) (l.take i.toNat ++ l.drop (i.toNat + 1)) := by
  unfold f100
  rw [wr (n := i + 1) (by omega) (by omega)]
  exact Ev.pos ⟨h0, rfl, by omega⟩ (Ev.ret _)
def onS (l : List S80) (k : Int) (n t d : ByteArray) : List S80 ⊕ List S80 := if (onF l k n t d).2 = true then .inl (onF l k n t d).1 else .inr l
theorem empty_app (d : ByteArray) : (⟨#[]⟩ : ByteArray) ++ d = d := by
  apply ByteArray.ext
  simp [ByteArray.data_append]
theorem at_name (l : List S80) (n : ByteArray) (h : 0 ≤ idxP (nameIs n) l) : (at' l (idxP (nameIs n) l)).f0 = n := by
  have := idxP_at (nameIs n) (default : S80) l h
  rw [nameIs_iff] at this
  exact this
theorem on_ev (l : List S80) (k : Int) (n t d : ByteArray) (hr : risesF l) (hl : l.length ≤ 1073741823) (hs : ∀ x ∈ l, x.f1.size ≤ 1099512000000) (hd : d.size ≤ 1099511627776) : Ev (fun q => f61 q k n t d l) (onS l k n t d) := by
  unfold f61
  refine Ev.bind (fileOf_ev l n (by omega)) ?_
  have hlt := idxP_lt (nameIs n) l
  have hge := idxP_ge (nameIs n) l
  unfold onS onF
  by_cases h1 : k = 1
  · refine Ev.pos h1 ?_
    rw [if_pos h1, if_pos rfl]
    by_cases h0 : 0 ≤ idxP (nameIs n) l
    · have hsz := hs _ (getD_mem default l _ h0 hlt)
      change (at' l (idxP (nameIs n) l)).f1.size ≤ _ at hsz
      rw [if_pos h0]
      refine Ev.pos h0 (Ev.pos hlt (Ev.pos (by omega) ?_))
      rw [at_name l n h0]
      exact Ev.bind (withFile_ev l n _ hr (by omega)) (Ev.ret _)
    · rw [if_neg h0]
      refine Ev.neg h0 (Ev.pos (by omega) ?_)
      rw [empty_app]
      exact Ev.bind (withFile_ev l n _ hr (by omega)) (Ev.ret _)
  · refine Ev.neg h1 ?_
    rw [if_neg h1]
    by_cases h0 : 0 ≤ idxP (nameIs n) l
    · rw [if_pos h0]
      refine Ev.neg (by omega) (Ev.bind (copyFiles_ev l (by omega)) (Ev.bind (cut_ev l _ h0 hlt (by omega)) ?_))
      by_cases h3 : k = 3
      · rw [if_pos h3]
        exact Ev.pos h3 (Ev.ret' (by simp))
      · rw [if_neg h3]
        refine Ev.neg h3 (Ev.pos h0 (Ev.pos hlt (Ev.bind (withFile_ev _ t _ (risesF_cut hr _) ?_) (Ev.ret' (by simp)))))
        rw [List.length_append, List.length_take, List.length_drop]; omega
    · rw [if_neg h0]
      exact Ev.pos (by omega) (Ev.ret' (by simp))
theorem putF_len (l : List S80) (n d : ByteArray) : (putF l n d).length ≤ l.length + 1 := by
  unfold putF
  split
  · rw [List.length_set]; omega
  · have := cntLt_le (nameCmp n) l
    rw [List.length_append, List.length_take, List.length_cons, List.length_drop]; omega
theorem onF_len (l : List S80) (k : Int) (n t d : ByteArray) : (onF l k n t d).1.length ≤ l.length + 1 := by
  have hc : (l.take (idxP (nameIs n) l).toNat ++ l.drop ((idxP (nameIs n) l).toNat + 1)).length ≤ l.length := by
    rw [List.length_append, List.length_take, List.length_drop]; omega
  unfold onF
  split
  · exact putF_len _ _ _
  · split
    · split
      · exact Nat.le_succ_of_le hc
      · exact Nat.le_trans (putF_len _ _ _) (by omega)
    · exact Nat.le_succ _
theorem isDisk_loop (live safe : List S80) (ops : List S73) (ho : ∀ x ∈ ops, x.f3.size ≤ 1099511627776) (hl : ops.length ≤ 200) (d : Nat) : ∀ (i : Nat) (now : List S80), ops.length - i = d → i ≤ ops.length → filesB now = true →
    Ev (fun k => f49.l5 k now ops (ops.length : Int) (i : Int) live safe ops) (runB live now (ops.drop i)) := by
  induction d with
  | zero =>
    intro i now hd hi hf
    obtain ⟨_, h60, _⟩ := filesB_said hf
    refine Ev.step (fun k => by rw [f49.l5]) (Ev.neg (by omega) (Ev.bind (equal_ev now live (by omega)) (Ev.ret' ?_)))
    rw [List.drop_of_length_le (by omega), runB]
  | succ d ih =>
    intro i now hd hi hf
    obtain ⟨hris, h60, hsz⟩ := filesB_said hf
    have h1 : i < ops.length := by omega
    refine Ev.step (fun k => by rw [f49.l5]) (Ev.pos (by omega) (Ev.pos (by omega) (Ev.pos (by omega) ?_)))
    rw [rdO_nat ops i h1, List.drop_eq_getElem_cons h1, runB]
    have hop := ho _ (List.getElem_mem h1)
    generalize ops[i] = op at *
    refine Ev.bind (isFormed_ev _ _ _ _) ?_
    cases hfm : formB op.f0 op.f1 op.f2 op.f3 with
    | false => exact Ev.neg (by simp) (Ev.ret' (by simp))
    | true =>
      refine Ev.pos rfl (Ev.bind (on_ev now op.f0 op.f1 op.f2 op.f3 hris (by omega) (fun x hx => by have := hsz x hx; omega) hop) ?_)
      unfold onS
      cases hok : (onF now op.f0 op.f1 op.f2 op.f3).2 with
      | false => exact Ev.ret' (by simp)
      | true =>
        rw [if_pos rfl]
        have hsm := onF_small hsz op.f0 op.f1 op.f2 op.f3 hop hok
        have hln : (onF now op.f0 op.f1 op.f2 op.f3).1.length ≤ 4611686018427387904 := by
          have := onF_len now op.f0 op.f1 op.f2 op.f3
          omega
        refine Ev.bind (areFiles_ev _ hsm hln) ?_
        cases hfn : filesB (onF now op.f0 op.f1 op.f2 op.f3).1 with
        | false => exact Ev.neg (by simp) (Ev.ret' (by simp))
        | true =>
          refine Ev.pos rfl ?_
          rw [show IntKind.i64.wrap ((i : Int) + 1) = ((i + 1 : Nat) : Int) by rw [wr (by omega) (by omega)]; omega]
          exact Ev.eq (ih (i + 1) _ (by omega) (by omega) hfn) (by simp)
theorem isDisk_ev (live safe : List S80) (ops : List S73) (h0 : smallF live) (h1 : smallF safe) (ho : ∀ x ∈ ops, x.f3.size ≤ 1099511627776) (l0 : live.length ≤ 1048576) (l1 : safe.length ≤ 1048576) : Ev (fun k => f49 k live safe ops) (diskB live safe ops) := by
  unfold f49 diskB
  refine Ev.bind (areFiles_ev live (fun x hx => by have := h0 x hx; omega) (by omega)) ?_
  cases hf0 : filesB live with
  | false => exact Ev.neg (by simp) (Ev.ret' (by simp))
  | true =>
    refine Ev.pos rfl (Ev.bind (areFiles_ev safe (fun x hx => by have := h1 x hx; omega) (by omega)) ?_)
    cases hf1 : filesB safe with
    | false => exact Ev.neg (by simp) (Ev.ret' (by simp))
    | true =>
      refine Ev.pos rfl ?_
      by_cases hl : 200 < (ops.length : Int)
      · exact Ev.pos hl (Ev.ret' (by rw [decide_eq_false (by omega : ¬ ops.length ≤ 200)]; simp))
      · refine Ev.neg hl (Ev.eq (isDisk_loop live safe ops ho (by omega) _ 0 safe rfl (Nat.zero_le _) hf1) ?_)
        rw [decide_eq_true (by omega : ops.length ≤ 200)]; simp
theorem l4Do_ev (l : List S80) (k : Int) (n t d : ByteArray) (hr : risesF l) (hl : l.length ≤ 1073741823) (hs : ∀ x ∈ l, x.f1.size ≤ 1099512000000) (hd : d.size ≤ 1099511627776) : Ev (fun q => f44 q l k n t d) ((doS l k n t d).2, (doS l k n t d).1) := by
  unfold f44
  refine Ev.bind (l4At_ev l n (by omega)) ?_
  unfold doS
  have hlt := idxP_lt (nameIs n) l
  by_cases h1 : k = 1
  · rw [if_pos h1]
    refine Ev.pos h1 ?_
    by_cases h0 : 0 ≤ idxP (nameIs n) l
    · rw [if_pos h0]
      have hsz := hs _ (getD_mem default l _ h0 hlt)
      change (at' l (idxP (nameIs n) l)).f1.size ≤ _ at hsz
      refine Ev.pos h0 (Ev.pos hlt (Ev.pos (by omega) (Ev.bind (l4Put_ev l n _ (by omega)) (Ev.ret' ?_))))
      rw [putS_putF n _ l hr]
    · rw [if_neg h0]
      refine Ev.neg h0 (Ev.bind (l4Put_ev l n _ (by omega)) (Ev.ret' ?_))
      rw [putS_putF n _ l hr]
  · rw [if_neg h1]
    refine Ev.neg h1 ?_
    by_cases h0 : 0 ≤ idxP (nameIs n) l
    · rw [if_pos h0]
      refine Ev.neg (by omega) (Ev.bind (l4Cut_ev l n (by omega)) ?_)
      rw [cut_filter n l hr h0]
      by_cases h2 : k = 2
      · rw [if_pos h2]
        refine Ev.pos h2 (Ev.pos h0 (Ev.pos hlt (Ev.bind (l4Put_ev _ t _ ?_) (Ev.ret' ?_))))
        · rw [List.length_append, List.length_take, List.length_drop]; omega
        · rw [putS_putF t _ _ (risesF_cut hr _)]
      · rw [if_neg h2]
        exact Ev.neg h2 (Ev.ret _)
    · rw [if_neg h0]
      exact Ev.pos (by omega) (Ev.pos (by omega) (Ev.pos (by omega) (Ev.ret _)))
theorem DiskOk_loop (live safe : List S80) (ops : List S73) (ho : ∀ x ∈ ops, x.f3.size ≤ 1099511627776) (hl : ops.length ≤ 200) (d : Nat) : ∀ (i : Nat) (now : List S80), ops.length - i = d → i ≤ ops.length → filesB now = true →
    Ev (fun k => f13.l5 k now (i : Int) live safe ops) (runB live now (ops.drop i)) := by
  induction d with
  | zero =>
    intro i now hd hi hf
    obtain ⟨_, h60, _⟩ := filesB_said hf
    refine Ev.step (fun k => by rw [f13.l5]) (Ev.neg (by omega) (Ev.bind (l4Same_ev now live (by omega)) (Ev.ret' ?_)))
    rw [List.drop_of_length_le (by omega), runB]
  | succ d ih =>
    intro i now hd hi hf
    obtain ⟨hris, h60, hsz⟩ := filesB_said hf
    have h1 : i < ops.length := by omega
    refine Ev.step (fun k => by rw [f13.l5]) (Ev.pos (by omega) (Ev.pos (by omega) ?_))
    rw [rdO_nat ops i h1, List.drop_eq_getElem_cons h1, runB]
    have hop := ho _ (List.getElem_mem h1)
    generalize ops[i] = op at *
    refine Ev.bind (l4Do_ev now op.f0 op.f1 op.f2 op.f3 hris (by omega) (fun x hx => by have := hsz x hx; omega) hop) ?_
    cases hok : (onF now op.f0 op.f1 op.f2 op.f3).2 with
    | false =>
      rw [← doS_ok] at hok
      refine Ev.neg (by rw [hok]; simp) (Ev.ret' ?_)
      simp
    | true =>
      have hok' := hok
      rw [← doS_ok] at hok'
      refine Ev.pos hok' (Ev.bind (l4Form_ev _ _ _ _) ?_)
      cases hfm : formB op.f0 op.f1 op.f2 op.f3 with
      | false => exact Ev.neg (by simp) (Ev.ret' (by simp))
      | true =>
        refine Ev.pos rfl (Ev.bind (l4Files_ev _ (doS_small hsz _ _ _ _ hfm hop hok')) ?_)
        show Ev (fun n => if filesB (doS now op.f0 op.f1 op.f2 op.f3).1 = true then f13.l5 n (doS now op.f0 op.f1 op.f2 op.f3).1 (IntKind.i64.wrap ((i : Int) + 1)) live safe ops else some false) _
        rw [doS_onF now _ _ _ _ hfm]
        cases hfn : filesB (onF now op.f0 op.f1 op.f2 op.f3).1 with
        | false => exact Ev.neg (by simp) (Ev.ret' (by simp))
        | true =>
          refine Ev.pos rfl ?_
          rw [show IntKind.i64.wrap ((i : Int) + 1) = ((i + 1 : Nat) : Int) by rw [wr (by omega) (by omega)]; omega]
          exact Ev.eq (ih (i + 1) _ (by omega) (by omega) hfn) (by simp)
theorem DiskOk_ev (live safe : List S80) (ops : List S73) (h0 : smallF live) (h1 : smallF safe) (ho : ∀ x ∈ ops, x.f3.size ≤ 1099511627776) : Ev (fun k => f13 k live safe ops) (diskB live safe ops) := by
  unfold f13 diskB
  refine Ev.bind (l4Files_ev live (fun x hx => by have := h0 x hx; omega)) ?_
  cases hf0 : filesB live with
  | false => exact Ev.neg (by simp) (Ev.ret' (by simp))
  | true =>
    refine Ev.pos rfl (Ev.bind (l4Files_ev safe (fun x hx => by have := h1 x hx; omega)) ?_)
    cases hf1 : filesB safe with
    | false => exact Ev.neg (by simp) (Ev.ret' (by simp))
    | true =>
      refine Ev.pos rfl ?_
      by_cases hl : 200 < (ops.length : Int)
      · exact Ev.pos hl (Ev.ret' (by rw [decide_eq_false (by omega : ¬ ops.length ≤ 200)]; simp))
      · refine Ev.neg hl (Ev.eq (DiskOk_loop live safe ops ho (by omega) _ 0 safe rfl (Nat.zero_le _) hf1) ?_)
        rw [decide_eq_true (by omega : ops.length ≤ 200)]; simp
end Go.Proofs.Ytfjoamlgbegpgaa.P
namespace Go.Proofs.Ytfjoamlgbegpgaa.P
open Go Go.Proofs.Ytfjoamlgbegpgaa.PM Go.Proofs
theorem cut_point (P : Nat → Bool) : ∀ n : Nat, (∀ a b, a ≤ b → b < n → P b = true → P a = true) → ∃ i, i ≤ n ∧ (∀ t, t < i → P t = true) ∧ ∀ t, i ≤ t → t < n → P t = false
  | 0, _ => ⟨0, Nat.le_refl _, fun t ht => absurd ht (Nat.not_lt_zero t), fun t _ ht => absurd ht (Nat.not_lt_zero t)⟩
  | n + 1, h => by
    cases hp : P n with
    | true => exact ⟨n + 1, Nat.le_refl _, fun t ht => h t n (by omega) (by omega) hp, fun t h1 h2 => by omega⟩
    | false =>
      obtain ⟨i, h1, h2, h3⟩ := cut_point P n (fun a b h1 h2 h3 => h a b h1 (by omega) h3)
      refine ⟨i, by omega, h2, fun t h4 h5 => ?_⟩
      by_cases e : t = n
      · rw [e]; exact hp
      · exact h3 t h4 (by omega)
theorem risesF_put {l : List S80} (hr : risesF l) (n d : ByteArray) : risesF (putF l n d) := by
  obtain ⟨i, h1, h2, h3⟩ := cut_point (fun t => decide (nameCmp n (l.getD t default) < 0)) l.length (fun a b hab hb hp => decide_eq_true (risesF_mono hr n a b hab hb (of_decide_eq_true hp)))
  have hc : cntLt (nameCmp n) l = i := countP_bound _ default l i h1 (fun t ht => h2 t ht) (fun t h4 h5 => h3 t h4 h5)
  have hlow : ∀ t (ht : t < l.length), t < i → Op.bytesLess l[t].f0.toList n.toList = true := fun t ht hti => by
    have := of_decide_eq_true (h2 t hti)
    rw [nameCmp_neg, List.getD_eq_getElem?_getD, List.getElem?_eq_getElem ht] at this
    exact this
  have hnot : ∀ t (ht : t < l.length), i ≤ t → Op.bytesLess l[t].f0.toList n.toList = false := fun t ht hti => by
    have := of_decide_eq_false (h3 t hti ht)
    rw [nameCmp_neg, List.getD_eq_getElem?_getD, List.getElem?_eq_getElem ht] at this
    rw [Bool.eq_false_iff]
    exact this
  unfold putF
  rw [hc]
  cases hh : hitAt default (nameCmp n) l with
  | true =>
    rw [if_pos rfl]
    unfold hitAt at hh
    rw [hc, Bool.and_eq_true, decide_eq_true_eq, decide_eq_true_eq, nameCmp_zero] at hh
    obtain ⟨hi, hn⟩ := hh
    rw [List.getD_eq_getElem?_getD, List.getElem?_eq_getElem hi] at hn
    have hn' : l[i].f0 = n := hn
    have key : ∀ t (ht : t < (l.set i ⟨n, d⟩).length), ((l.set i ⟨n, d⟩)[t]).f0 = (l[t]'(by simpa using ht)).f0 := fun t ht => by
      rw [List.getElem_set]
      split
      · rename_i e; subst e; exact hn'.symm
      · rfl
    unfold risesF
    rw [List.pairwise_iff_getElem]
    intro a b ha hb hab
    rw [key a ha, key b hb]
    exact List.pairwise_iff_getElem.1 hr a b _ _ hab
  | false =>
    rw [if_neg (by simp)]
    have hup : ∀ y ∈ l.drop i, Op.bytesLess n.toList y.f0.toList = true := fun y hy => by
      obtain ⟨t, ht, rfl⟩ := List.getElem_of_mem hy
      rw [List.length_drop] at ht
      rw [List.getElem_drop]
      have hlt : i + t < l.length := by omega
      rcases bless_tri (l[i + t]'hlt).f0.toList n.toList with h | h | h
      · rw [hnot (i + t) hlt (by omega)] at h; cases h
      · exfalso
        rw [bs_inj] at h
        by_cases h0 : t = 0
        · subst h0
          have hi : i < l.length := by omega
          unfold hitAt at hh
          rw [hc, decide_eq_true hi, Bool.true_and, decide_eq_false_iff_not, nameCmp_zero, List.getD_eq_getElem?_getD, List.getElem?_eq_getElem hi] at hh
          exact hh h
        · have hp := List.pairwise_iff_getElem.1 hr i (i + t) (by omega) hlt (by omega)
          rw [h] at hp
          have := hnot i (by omega) (Nat.le_refl _)
          rw [hp] at this; cases this
      · exact h
    have hdn : ∀ x ∈ l.take i, Op.bytesLess x.f0.toList n.toList = true := fun x hx => by
      obtain ⟨t, ht, rfl⟩ := List.getElem_of_mem hx
      rw [List.length_take] at ht
      rw [List.getElem_take]
      exact hlow t (by omega) (by omega)
    unfold risesF
    rw [List.pairwise_append]
    refine ⟨List.Pairwise.sublist (List.take_sublist _ _) hr, List.pairwise_cons.2 ⟨hup, List.Pairwise.sublist (List.drop_sublist _ _) hr⟩, fun x hx y hy => ?_⟩
    rcases List.mem_cons.1 hy with rfl | hy
    · exact hdn x hx
    · exact bless_trans (hdn x hx) (hup y hy)
theorem risesF_on {l : List S80} (hr : risesF l) (k : Int) (n t d : ByteArray) : risesF (onF l k n t d).1 := by
  unfold onF
  split
  · exact risesF_put hr _ _
  · split
    · split
      · exact risesF_cut hr _
      · exact risesF_put (risesF_cut hr _) _ _
    · exact hr
theorem onF_no {l : List S80} {k : Int} {n t d : ByteArray} (h : (onF l k n t d).2 = false) : (onF l k n t d).1 = l := by
  unfold onF at h ⊢
  split at h
  · cases h
  · rename_i h1
    split at h
    · split at h <;> cases h
    · rename_i h0
      rw [if_neg h1, if_neg h0]
theorem put_sizes {l : List S80} {B : Nat} (hs : ∀ x ∈ l, x.f1.size ≤ B) (n d : ByteArray) (hd : d.size ≤ B) : ∀ x ∈ putF l n d, x.f1.size ≤ B := by
  intro x hx
  unfold putF at hx
  split at hx
  · rcases List.mem_or_eq_of_mem_set hx with h | rfl
    · exact hs x h
    · exact hd
  · rcases List.mem_append.1 hx with h | h
    · exact hs x (List.mem_of_mem_take h)
    · rcases List.mem_cons.1 h with rfl | h
      · exact hd
      · exact hs x (List.mem_of_mem_drop h)
theorem on_sizes {l : List S80} {B D : Nat} (hs : ∀ x ∈ l, x.f1.size ≤ B) (k : Int) (n t d : ByteArray) (hd : d.size ≤ D) : ∀ x ∈ (onF l k n t d).1, x.f1.size ≤ B + D := by
  have hb : ∀ x ∈ l, x.f1.size ≤ B + D := fun x hx => by have := hs x hx; omega
  have hlt := idxP_lt (nameIs n) l
  have hat : 0 ≤ idxP (nameIs n) l → (at' l (idxP (nameIs n) l)).f1.size ≤ B := fun h => hs _ (getD_mem default l _ h hlt)
  have hcut : ∀ x ∈ l.take (idxP (nameIs n) l).toNat ++ l.drop ((idxP (nameIs n) l).toNat + 1), x.f1.size ≤ B + D := fun x hx => by
    rcases List.mem_append.1 hx with h | h
    · exact hb x (List.mem_of_mem_take h)
    · exact hb x (List.mem_of_mem_drop h)
  unfold onF
  split
  · refine put_sizes hb _ _ ?_
    split
    · rename_i h
      rw [ByteArray.size_append]
      have := hat h
      omega
    · omega
  · split
    · rename_i h
      split
      · exact hcut
      · exact put_sizes hcut _ _ (by have := hat h; omega)
    · exact hb
def keepB (keep : List Int) (m : Nat) (i : Nat) : Bool := (decide (0 ≤ at' keep (i : Int)) && decide (at' keep (i : Int) ≤ (m : Int) - 1)) && (decide (i = 0) || decide (at' keep ((i : Int) - 1) < at' keep (i : Int)))
def cutD (torn : Int) (last : Prop) [Decidable last] (d : ByteArray) : ByteArray := if last then d.extract 0 (minI torn (d.size : Int)).toNat else d
def stepK (ops : List S73) (keep : List Int) (torn : Int) (now : List S80) (i : Nat) : List S80 :=
  (onF now (at' ops (at' keep (i : Int))).f0 (at' ops (at' keep (i : Int))).f1 (at' ops (at' keep (i : Int))).f2 (cutD torn (i + 1 = keep.length) (at' ops (at' keep (i : Int))).f3)).1
def runK (ops : List S73) (keep : List Int) (torn : Int) (now : List S80) (i : Nat) : List S80 := (List.range' i (keep.length - i)).foldl (stepK ops keep torn) now
theorem runK_end {ops : List S73} {keep : List Int} {torn : Int} {now : List S80} {i : Nat} (h : keep.length ≤ i) : runK ops keep torn now i = now := by
  unfold runK
  rw [Nat.sub_eq_zero_of_le h]; rfl
theorem runK_step {ops : List S73} {keep : List Int} {torn : Int} {now : List S80} {i : Nat} (h : i < keep.length) : runK ops keep torn now i = runK ops keep torn (stepK ops keep torn now i) (i + 1) := by
  unfold runK
  obtain ⟨d, hd⟩ : ∃ d, keep.length - i = d + 1 := ⟨keep.length - i - 1, by omega⟩
  rw [hd, show keep.length - (i + 1) = d from by omega, List.range'_succ, List.foldl_cons]
abbrev CR := Bool × List S80 × List S80 × List S73
def noC : CR := (false, [], [], [])
def finC (now : List S80) : CR := if filesB now = true then (true, now, now, []) else noC
structure InvK (now : List S80) (j : Nat) : Prop where
  r : risesF now
  n : now.length ≤ 60 + j
  s : ∀ x ∈ now, x.f1.size ≤ 200000 + j * 1048576
theorem cutD_size (torn : Int) (last : Prop) [Decidable last] (d : ByteArray) : (cutD torn last d).size ≤ d.size := by
  unfold cutD
  split
  · rw [ByteArray.size_extract]; omega
  · exact Nat.le_refl _
theorem at_mem73 {ops : List S73} {i : Int} (h0 : 0 ≤ i) (h1 : i < ops.length) : at' ops i ∈ ops := getD_mem default ops i h0 h1
theorem InvK.step {ops : List S73} {keep : List Int} {torn : Int} {now : List S80} {i : Nat} (h : InvK now i) (hd : (at' ops (at' keep (i : Int))).f3.size ≤ 1048576) : InvK (stepK ops keep torn now i) (i + 1) := by
  unfold stepK
  refine ⟨risesF_on h.r _ _ _ _, ?_, ?_⟩
  · have := onF_len now (at' ops (at' keep (i : Int))).f0 (at' ops (at' keep (i : Int))).f1 (at' ops (at' keep (i : Int))).f2 (cutD torn (i + 1 = keep.length) (at' ops (at' keep (i : Int))).f3)
    have := h.n
    omega
  · intro x hx
    have := on_sizes h.s _ _ _ _ (Nat.le_trans (cutD_size torn (i + 1 = keep.length) (at' ops (at' keep (i : Int))).f3) hd) x hx
    omega
theorem fin_impl (now : List S80) {j : Nat} (h : InvK now j) (hj : j ≤ 1048576) : Ev (fun k => ((f62 k now).bind fun t8 => (if t8 = true then ((f59 k now).bind fun t9 => some (true, now, t9, ([] : List S73))) else some (false, ([] : List S80), ([] : List S80), ([] : List S73))))) (finC now) := by
  have hn := h.n
  refine Ev.bind (areFiles_ev now (fun x hx => by have := h.s x hx; omega) (by omega)) ?_
  unfold finC noC
  cases hf : filesB now with
  | true => exact Ev.pos rfl (Ev.bind (copyFiles_ev now (by omega)) (Ev.ret _))
  | false => exact Ev.neg (by simp) (Ev.ret _)
theorem impl_loop (live safe : List S80) (ops : List S73) (keep : List Int) (torn : Int) (ht : 0 ≤ torn) (hm : ops.length ≤ 1048576) (hk : keep.length ≤ 1048576) (ho : ∀ x ∈ ops, x.f3.size ≤ 1048576) (d : Nat) : ∀ (i : Nat) (now : List S80), keep.length - i = d → i ≤ keep.length → InvK now i →
    Ev (fun k => f22.l5 k now keep torn keep (keep.length : Int) (i : Int) live safe ops) (if allFrom (keepB keep ops.length) i keep.length = true then finC (runK ops keep torn now i) else noC) := by
  induction d with
  | zero =>
    intro i now hd hi hI
    refine Ev.step (fun k => by rw [f22.l5]) (Ev.neg (by omega) ?_)
    rw [allFrom_end _ (by omega), if_pos rfl, runK_end (by omega)]
    exact fin_impl now hI (by omega)
  | succ d ih =>
    intro i now hd hi hI
    have hlt : i < keep.length := by omega
    refine Ev.step (fun k => by rw [f22.l5]) (Ev.pos (by omega) (Ev.pos (by omega) (Ev.pos (by omega) ?_)))
    rw [allFrom_step _ hlt]
    have hin : Ev (fun q => f60 q (at' keep (i : Int)) 0 (IntKind.i64.wrap ((ops.length : Int) - 1))) (decide (0 ≤ at' keep (i : Int)) && decide (at' keep (i : Int) ≤ (ops.length : Int) - 1)) := by
      rw [wr (n := (ops.length : Int) - 1) (by omega) (by omega)]
      unfold f60
      refine Ev.ite (fun h => Ev.ret' ?_) (fun h => Ev.ret' ?_)
      · rw [decide_eq_true h]; rfl
      · rw [decide_eq_false h]; rfl
    refine Ev.bind hin ?_
    unfold keepB
    by_cases hr : 0 ≤ at' keep (i : Int) ∧ at' keep (i : Int) ≤ (ops.length : Int) - 1
    · rw [decide_eq_true hr.1, decide_eq_true hr.2, Bool.true_and]
      refine Ev.pos rfl ?_
      have hop := ho _ (at_mem73 (ops := ops) hr.1 (by omega))
      have hn := ih (i + 1) (stepK ops keep torn now i) (by omega) (by omega) (hI.step hop)
      rw [show ((i + 1 : Nat) : Int) = IntKind.i64.wrap ((i : Int) + 1) by rw [wr (by omega) (by omega)]; omega] at hn
      have hsz := hI.s
      have hln := hI.n
      have hon : ∀ dd : ByteArray, dd.size ≤ 1048576 → Ev (fun q => f61 q (at' ops (at' keep (i : Int))).f0 (at' ops (at' keep (i : Int))).f1 (at' ops (at' keep (i : Int))).f2 dd now) (onS now (at' ops (at' keep (i : Int))).f0 (at' ops (at' keep (i : Int))).f1 (at' ops (at' keep (i : Int))).f2 dd) := fun dd hdd =>
        on_ev now _ _ _ _ hI.r (by omega) (fun x hx => by have := hsz x hx; omega) (by omega)
      have fin : ∀ dd : ByteArray, dd = cutD torn (i + 1 = keep.length) (at' ops (at' keep (i : Int))).f3 → Ev (fun k => match onS now (at' ops (at' keep (i : Int))).f0 (at' ops (at' keep (i : Int))).f1 (at' ops (at' keep (i : Int))).f2 dd with
          | Sum.inl t => f22.l5 k t keep torn keep (keep.length : Int) (IntKind.i64.wrap ((i : Int) + 1)) live safe ops
          | Sum.inr _ => f22.l5 k now keep torn keep (keep.length : Int) (IntKind.i64.wrap ((i : Int) + 1)) live safe ops) (if allFrom (keepB keep ops.length) (i + 1) keep.length = true then finC (runK ops keep torn (stepK ops keep torn now i) (i + 1)) else noC) := by
        intro dd hdd
        unfold onS
        cases hok : (onF now (at' ops (at' keep (i : Int))).f0 (at' ops (at' keep (i : Int))).f1 (at' ops (at' keep (i : Int))).f2 dd).2 with
        | true =>
          rw [if_pos rfl]
          have : (onF now (at' ops (at' keep (i : Int))).f0 (at' ops (at' keep (i : Int))).f1 (at' ops (at' keep (i : Int))).f2 dd).1 = stepK ops keep torn now i := by unfold stepK; rw [hdd]
          rw [this]
          exact hn
        | false =>
          rw [if_neg (by simp)]
          have : stepK ops keep torn now i = now := by
            unfold stepK
            rw [← hdd]
            exact onF_no hok
          rw [this] at hn ⊢
          exact hn
      have hext : ∀ s : ByteArray, s.size ≤ 1048576 → (s.extract 0 (minI torn (s.size : Int)).toNat).size ≤ 1048576 := fun s hs => by rw [ByteArray.size_extract]; omega
      have hmin : ∀ s : ByteArray, 0 ≤ minI torn (s.size : Int) ∧ minI torn (s.size : Int) ≤ ((s.size : Nat) : Int) := fun s => by
        unfold minI
        split <;> omega
      have hlast : IntKind.i64.wrap ((keep.length : Int) - 1) = (keep.length : Int) - 1 := wr (by omega) (by omega)
      by_cases h0 : i = 0
      · rw [decide_eq_true h0, Bool.true_or, Bool.true_and, runK_step hlt]
        refine Ev.neg (by omega) (Ev.pos hr.1 (Ev.pos (by omega) ?_))
        rw [hlast]
        by_cases hl : i + 1 = keep.length
        · refine Ev.pos (by omega) (Ev.pos (hmin _).1 (Ev.pos (hmin _).2 (Ev.bind (hon _ (hext _ hop)) (fin _ ?_))))
          unfold cutD; rw [if_pos hl]
        · refine Ev.neg (by omega) (Ev.bind (hon _ hop) (fin _ ?_))
          unfold cutD; rw [if_neg hl]
      · have e1 : IntKind.i64.wrap ((i : Int) - 1) = (i : Int) - 1 := wr (by omega) (by omega)
        refine Ev.pos (by omega) ?_
        rw [e1]
        refine Ev.pos (by omega) (Ev.pos (by omega) ?_)
        by_cases hrise : at' keep ((i : Int) - 1) < at' keep (i : Int)
        · rw [decide_eq_true hrise, Bool.or_true, Bool.true_and, runK_step hlt]
          refine Ev.neg (by omega) (Ev.pos hr.1 (Ev.pos (by omega) ?_))
          rw [hlast]
          by_cases hl : i + 1 = keep.length
          · refine Ev.pos (by omega) (Ev.pos (hmin _).1 (Ev.pos (hmin _).2 (Ev.bind (hon _ (hext _ hop)) (fin _ ?_))))
            unfold cutD; rw [if_pos hl]
          · refine Ev.neg (by omega) (Ev.bind (hon _ hop) (fin _ ?_))
            unfold cutD; rw [if_neg hl]
        · rw [decide_eq_false hrise, decide_eq_false h0]
          exact Ev.pos (by omega) (Ev.ret' (by simp [noC]))
    · have hf : (decide (0 ≤ at' keep (i : Int)) && decide (at' keep (i : Int) ≤ (ops.length : Int) - 1)) = false := by
        rw [Bool.and_eq_false_iff, decide_eq_false_iff_not, decide_eq_false_iff_not]
        omega
      rw [hf]
      exact Ev.neg (by simp) (Ev.ret' (by simp [noC]))
def crashR (live safe : List S80) (ops : List S73) (keep : List Int) (torn : Int) : CR :=
  if diskB live safe ops = true then (if torn < 0 then noC else if allFrom (keepB keep ops.length) 0 keep.length = true then finC (runK ops keep torn safe 0) else noC) else noC
theorem diskB_said {live safe : List S80} {ops : List S73} (h : diskB live safe ops = true) : filesB safe = true ∧ ops.length ≤ 200 ∧ runB live safe ops = true := by
  unfold diskB at h
  simp only [Bool.and_eq_true, decide_eq_true_eq] at h
  exact h.2
theorem inv0 {safe : List S80} (h : filesB safe = true) : InvK safe 0 := by
  obtain ⟨h1, h2, h3⟩ := filesB_said h
  exact ⟨h1, by omega, fun x hx => by have := h3 x hx; omega⟩
theorem impl_crash (live safe : List S80) (ops : List S73) (keep : List Int) (torn : Int) (h0 : smallF live) (h1 : smallF safe) (l0 : live.length ≤ 1048576) (l1 : safe.length ≤ 1048576) (hm : ops.length ≤ 1048576) (hk : keep.length ≤ 1048576) (ho : ∀ x ∈ ops, x.f3.size ≤ 1048576) :
    Ev (fun k => f22 k live safe ops keep torn) (crashR live safe ops keep torn) := by
  unfold f22 crashR
  refine Ev.bind (isDisk_ev live safe ops h0 h1 (fun x hx => by have := ho x hx; omega) l0 l1) ?_
  cases hd : diskB live safe ops with
  | false => exact Ev.neg (by simp) (Ev.ret' (by simp [noC]))
  | true =>
    rw [if_pos rfl]
    refine Ev.pos rfl ?_
    by_cases ht : torn < 0
    · rw [if_pos ht]; exact Ev.pos ht (Ev.ret _)
    · rw [if_neg ht]
      refine Ev.neg ht (Ev.bind (copyFiles_ev safe (by omega)) ?_)
      exact impl_loop live safe ops keep torn (by omega) hm hk ho _ 0 safe rfl (Nat.zero_le _) (inv0 (diskB_said hd).1)
theorem runB_form {live : List S80} : ∀ (ops : List S73) (now : List S80), runB live now ops = true → ∀ op ∈ ops, formB op.f0 op.f1 op.f2 op.f3 = true
  | [], _, _ => fun op h => by cases h
  | o :: r, now, h => by
    rw [runB, Bool.and_eq_true, Bool.and_eq_true, Bool.and_eq_true] at h
    intro op hop
    rcases List.mem_cons.1 hop with rfl | hop
    · exact h.1
    · exact runB_form r _ h.2.2.2 op hop
theorem emptyB_size {s : ByteArray} (h : emptyB s = true) : s = ⟨#[]⟩ := by
  rw [← empty_eq] at h
  exact (strEq_iff _ _).1 h
theorem form_cut {k : Int} {n t d : ByteArray} (h : formB k n t d = true) (hk : k ≠ 1) : d = ⟨#[]⟩ := by
  unfold formB at h
  rw [if_neg hk] at h
  split at h
  · simp only [Bool.and_eq_true] at h
    exact emptyB_size h.2.2
  · split at h
    · simp only [Bool.and_eq_true] at h
      exact emptyB_size h.2.2
    · cases h
theorem form_any {n t d d' : ByteArray} (h : formB 1 n t d = true) : formB 1 n t d' = true := by
  unfold formB at h ⊢
  rw [if_pos rfl] at h ⊢
  exact h
theorem extract_all (s : ByteArray) : s.extract 0 s.size = s := ByteArray.extract_zero_size
theorem spec_run (live safe : List S80) (ops : List S73) (keep : List Int) (torn : Int) (ht : 0 ≤ torn) (hm : ops.length ≤ 1048576) (hk : keep.length ≤ 1048576) (ho : ∀ x ∈ ops, x.f3.size ≤ 1048576) (hf : ∀ op ∈ ops, formB op.f0 op.f1 op.f2 op.f3 = true) (hkeep : ∀ i : Nat, i < keep.length → 0 ≤ at' keep (i : Int) ∧ at' keep (i : Int) < ops.length) (d : Nat) : ∀ (i : Nat) (now : List S80), keep.length - i = d → i ≤ keep.length → InvK now i →
    Ev (fun k => f21.l10 k now keep torn (i : Int) live safe ops) (finC (runK ops keep torn now i)) := by
  induction d with
  | zero =>
    intro i now hd hi hI
    have hn := hI.n
    refine Ev.step (fun k => by rw [f21.l10]) (Ev.neg (by omega) ?_)
    rw [runK_end (by omega)]
    refine Ev.bind (l4Files_ev now (fun x hx => by have := hI.s x hx; omega)) ?_
    unfold finC noC
    cases hfb : filesB now with
    | true => exact Ev.pos rfl (Ev.pos (by omega) (Ev.pos (by omega) (Ev.ret _)))
    | false => exact Ev.neg (by simp) (Ev.ret _)
  | succ d ih =>
    intro i now hd hi hI
    have hlt : i < keep.length := by omega
    obtain ⟨k0, k1⟩ := hkeep i hlt
    have hmem := at_mem73 (ops := ops) k0 k1
    have hop := ho _ hmem
    have hfm := hf _ hmem
    have hn := ih (i + 1) (stepK ops keep torn now i) (by omega) (by omega) (hI.step hop)
    rw [show ((i + 1 : Nat) : Int) = IntKind.i64.wrap ((i : Int) + 1) by rw [wr (by omega) (by omega)]; omega] at hn
    rw [runK_step hlt]
    have hsz := hI.s
    have hln := hI.n
    have hdo : ∀ dd : ByteArray, dd.size ≤ 1048576 → formB (at' ops (at' keep (i : Int))).f0 (at' ops (at' keep (i : Int))).f1 (at' ops (at' keep (i : Int))).f2 dd = true → dd = cutD torn (i + 1 = keep.length) (at' ops (at' keep (i : Int))).f3 →
        ∃ b, Ev (fun q => f44 q now (at' ops (at' keep (i : Int))).f0 (at' ops (at' keep (i : Int))).f1 (at' ops (at' keep (i : Int))).f2 dd) (b, stepK ops keep torn now i) := fun dd hdd hfd he => by
      have := l4Do_ev now (at' ops (at' keep (i : Int))).f0 (at' ops (at' keep (i : Int))).f1 (at' ops (at' keep (i : Int))).f2 dd hI.r (by omega) (fun x hx => by have := hsz x hx; omega) (by omega)
      rw [doS_onF now _ _ _ _ hfd] at this
      refine ⟨(onF now (at' ops (at' keep (i : Int))).f0 (at' ops (at' keep (i : Int))).f1 (at' ops (at' keep (i : Int))).f2 dd).2, this.eq ?_⟩
      unfold stepK
      rw [he]
    have hlast : IntKind.i64.wrap ((keep.length : Int) - 1) = (keep.length : Int) - 1 := wr (by omega) (by omega)
    refine Ev.step (fun k => by rw [f21.l10]) (Ev.pos (by omega) (Ev.pos (by omega) (Ev.pos k0 (Ev.pos k1 ?_))))
    rw [hlast]
    by_cases hl : i + 1 = keep.length
    · refine Ev.pos (by omega) ?_
      by_cases hk1 : (at' ops (at' keep (i : Int))).f0 = 1
      · refine Ev.pos hk1 ?_
        by_cases hts : torn < ((at' ops (at' keep (i : Int))).f3.size : Int)
        · obtain ⟨b, hb⟩ := hdo ((at' ops (at' keep (i : Int))).f3.extract 0 torn.toNat) (by rw [ByteArray.size_extract]; omega) (by rw [hk1] at hfm ⊢; exact form_any hfm) (by unfold cutD; rw [if_pos hl]; unfold minI; rw [if_neg (by omega)])
          exact Ev.pos hts (Ev.pos ht (Ev.pos (by omega) (Ev.bind hb hn)))
        · obtain ⟨b, hb⟩ := hdo (at' ops (at' keep (i : Int))).f3 hop hfm (by
            unfold cutD; rw [if_pos hl]; unfold minI
            by_cases he : ((at' ops (at' keep (i : Int))).f3.size : Int) < torn
            · rw [if_pos he, Int.toNat_natCast, extract_all]
            · rw [if_neg he, show torn.toNat = (at' ops (at' keep (i : Int))).f3.size by omega, extract_all])
          exact Ev.neg hts (Ev.bind hb hn)
      · obtain ⟨b, hb⟩ := hdo (at' ops (at' keep (i : Int))).f3 hop hfm (by
          have he := form_cut hfm hk1
          unfold cutD; rw [if_pos hl, he]
          apply ByteArray.ext
          simp)
        exact Ev.neg hk1 (Ev.bind hb hn)
    · obtain ⟨b, hb⟩ := hdo (at' ops (at' keep (i : Int))).f3 hop hfm (by unfold cutD; rw [if_neg hl])
      exact Ev.neg (by omega) (Ev.bind hb hn)
theorem spec_loop (live safe : List S80) (ops : List S73) (keep : List Int) (torn : Int) (ht : 0 ≤ torn) (hm : ops.length ≤ 1048576) (hk : keep.length ≤ 1048576) (hs : safe.length ≤ 1048576) {r : CR}
    (hrun : (∀ i : Nat, i < keep.length → keepB keep ops.length i = true) → Ev (fun k => f21.l10 k safe keep torn 0 live safe ops) r) (d : Nat) : ∀ i : Nat, keep.length - i = d → i ≤ keep.length → (∀ j : Nat, j < i → keepB keep ops.length j = true) →
    Ev (fun k => f21.l4 k keep torn (i : Int) live safe ops) (if allFrom (keepB keep ops.length) i keep.length = true then r else noC) := by
  induction d with
  | zero =>
    intro i hd hi hj
    refine Ev.step (fun k => by rw [f21.l4]) (Ev.neg (by omega) (Ev.pos (by omega) (Ev.pos (by omega) ?_)))
    rw [allFrom_end _ (by omega), if_pos rfl]
    exact hrun fun j hjl => hj j (by omega)
  | succ d ih =>
    intro i hd hi hj
    have hlt : i < keep.length := by omega
    refine Ev.step (fun k => by rw [f21.l4]) (Ev.pos (by omega) (Ev.pos (by omega) ?_))
    rw [allFrom_step _ hlt]
    have hin : Ev (fun q => f58 q (at' keep (i : Int)) 0 (IntKind.i64.wrap ((ops.length : Int) - 1))) (decide (0 ≤ at' keep (i : Int)) && decide (at' keep (i : Int) ≤ (ops.length : Int) - 1)) := by
      rw [wr (n := (ops.length : Int) - 1) (by omega) (by omega)]
      unfold f58
      refine Ev.ite (fun h => Ev.ret' ?_) (fun h => Ev.ret' ?_)
      · rw [decide_eq_true h]; rfl
      · rw [decide_eq_false h]; rfl
    refine Ev.bind hin ?_
    have hn : keepB keep ops.length i = true → _ := fun hki => ih (i + 1) (by omega) (by omega) (fun j hjl => by
      by_cases e : j = i
      · rw [e]; exact hki
      · exact hj j (by omega))
    rw [show ((i + 1 : Nat) : Int) = IntKind.i64.wrap ((i : Int) + 1) by rw [wr (by omega) (by omega)]; omega] at hn
    cases hkb : keepB keep ops.length i with
    | true =>
      have hn := hn hkb
      unfold keepB at hkb
      simp only [Bool.and_eq_true, Bool.or_eq_true, decide_eq_true_eq] at hkb
      obtain ⟨⟨h1, h2⟩, h3⟩ := hkb
      rw [decide_eq_true h1, decide_eq_true h2, Bool.true_and]
      refine Ev.pos rfl ?_
      by_cases h0 : i = 0
      · exact Ev.neg (by omega) hn
      · have e1 : IntKind.i64.wrap ((i : Int) - 1) = (i : Int) - 1 := wr (by omega) (by omega)
        refine Ev.pos (by omega) ?_
        rw [e1]
        exact Ev.pos (by omega) (Ev.pos (by omega) (Ev.neg (by omega) hn))
    | false =>
      rw [Bool.false_and]
      unfold keepB at hkb
      by_cases hr : 0 ≤ at' keep (i : Int) ∧ at' keep (i : Int) ≤ (ops.length : Int) - 1
      · rw [decide_eq_true hr.1, decide_eq_true hr.2] at hkb ⊢
        simp only [Bool.true_and, Bool.or_eq_false_iff, decide_eq_false_iff_not] at hkb
        obtain ⟨h0, h3⟩ := hkb
        have e1 : IntKind.i64.wrap ((i : Int) - 1) = (i : Int) - 1 := wr (by omega) (by omega)
        refine Ev.pos rfl (Ev.pos (by omega) ?_)
        rw [e1]
        exact Ev.pos (by omega) (Ev.pos (by omega) (Ev.pos (by omega) (Ev.ret' (by simp [noC]))))
      · have hf : (decide (0 ≤ at' keep (i : Int)) && decide (at' keep (i : Int) ≤ (ops.length : Int) - 1)) = false := by
          rw [Bool.and_eq_false_iff, decide_eq_false_iff_not, decide_eq_false_iff_not]
          omega
        rw [hf]
        exact Ev.neg (by simp) (Ev.ret' (by simp [noC]))
theorem spec_crash (live safe : List S80) (ops : List S73) (keep : List Int) (torn : Int) (h0 : smallF live) (h1 : smallF safe) (l1 : safe.length ≤ 1048576) (hm : ops.length ≤ 1048576) (hk : keep.length ≤ 1048576) (ho : ∀ x ∈ ops, x.f3.size ≤ 1048576) :
    Ev (fun k => f21 k live safe ops keep torn) (crashR live safe ops keep torn) := by
  unfold f21 crashR
  refine Ev.bind (DiskOk_ev live safe ops h0 h1 (fun x hx => by have := ho x hx; omega)) ?_
  cases hd : diskB live safe ops with
  | false => exact Ev.neg (by simp) (Ev.ret' (by simp [noC]))
  | true =>
    rw [if_pos rfl]
    refine Ev.pos rfl ?_
    by_cases ht : torn < 0
    · rw [if_pos ht]; exact Ev.pos ht (Ev.ret _)
    · rw [if_neg ht]
      refine Ev.neg ht ?_
      obtain ⟨d1, _, d3⟩ := diskB_said hd
      refine spec_loop live safe ops keep torn (by omega) hm hk l1 (fun hall => ?_) _ 0 rfl (Nat.zero_le _) (fun j hj => absurd hj (Nat.not_lt_zero j))
      refine spec_run live safe ops keep torn (by omega) hm hk ho (runB_form ops safe d3) (fun i hi => ?_) _ 0 safe rfl (Nat.zero_le _) (inv0 d1)
      have := hall i hi
      unfold keepB at this
      simp only [Bool.and_eq_true, decide_eq_true_eq] at this
      exact ⟨this.1.1, by omega⟩
end Go.Proofs.Ytfjoamlgbegpgaa.P
namespace Go.Proofs.Ytfjoamlgbegpgaa.P
open Go Go.Proofs.Ytfjoamlgbegpgaa.PM Go.Proofs
def to_File (x : S106) : S80 := ⟨x.f0, x.f1⟩
def to_DOp (x : S108) : S73 := ⟨x.f0, x.f1, x.f2, x.f3⟩
theorem szFile_ev (x y : ByteArray) (a : Int) (h0 : 0 ≤ a) (h1 : a ≤ 1048576) (hx : x.size ≤ maxLen) (hy : y.size ≤ maxLen) : ∃ r, Ev (fun k => f82 k x y a) r ∧ (r < 0 ∨ (0 ≤ r ∧ r ≤ a ∧ x.size ≤ 1048576 ∧ y.size ≤ 1048576)) := by
  unfold maxLen at hx hy
  unfold f82
  rw [wr (n := a - x.size) (by omega) (by omega)]
  by_cases h2 : a - x.size < 0
  · exact ⟨-1, Ev.pos h2 (Ev.ret _), .inl (by omega)⟩
  · rw [wr (n := a - x.size - y.size) (by omega) (by omega)]
    by_cases h3 : a - x.size - y.size < 0
    · exact ⟨-1, Ev.neg h2 (Ev.pos h3 (Ev.ret _)), .inl (by omega)⟩
    · exact ⟨_, Ev.neg h2 (Ev.neg h3 (Ev.ret _)), .inr ⟨by omega, by omega, by omega, by omega⟩⟩
theorem szDOp_ev (n : Int) (x y z : ByteArray) (a : Int) (h0 : 0 ≤ a) (h1 : a ≤ 1048576) (hx : x.size ≤ maxLen) (hy : y.size ≤ maxLen) (hz : z.size ≤ maxLen) : ∃ r, Ev (fun k => f83 k n x y z a) r ∧ (r < 0 ∨ (0 ≤ r ∧ r ≤ a ∧ x.size ≤ 1048576 ∧ y.size ≤ 1048576 ∧ z.size ≤ 1048576)) := by
  unfold maxLen at hx hy hz
  unfold f83
  rw [wr (n := a - x.size) (by omega) (by omega)]
  by_cases h2 : a - x.size < 0
  · exact ⟨-1, Ev.pos h2 (Ev.ret _), .inl (by omega)⟩
  · rw [wr (n := a - x.size - y.size) (by omega) (by omega)]
    by_cases h3 : a - x.size - y.size < 0
    · exact ⟨-1, Ev.neg h2 (Ev.pos h3 (Ev.ret _)), .inl (by omega)⟩
    · rw [wr (n := a - x.size - y.size - z.size) (by omega) (by omega)]
      by_cases h4 : a - x.size - y.size - z.size < 0
      · exact ⟨-1, Ev.neg h2 (Ev.neg h3 (Ev.pos h4 (Ev.ret _))), .inl (by omega)⟩
      · exact ⟨_, Ev.neg h2 (Ev.neg h3 (Ev.neg h4 (Ev.ret _))), .inr ⟨by omega, by omega, by omega, by omega, by omega⟩⟩
theorem szFileS_loop (l : List S106) (hl : l.length ≤ 1048576) (hs : ∀ x ∈ l, x.f0.size ≤ maxLen ∧ x.f1.size ≤ maxLen) (d : Nat) : ∀ (i : Nat) (a : Int), l.length - i = d → i ≤ l.length → 0 ≤ a → a ≤ 1048576 →
    ∃ r, Ev (fun k => f41.l5 k l a (i : Int)) r ∧ (r < 0 ∨ (0 ≤ r ∧ r ≤ a ∧ ∀ x ∈ l.drop i, x.f0.size ≤ 1048576 ∧ x.f1.size ≤ 1048576)) := by
  induction d with
  | zero =>
    intro i a hd hi h0 h1
    exact ⟨a, Ev.step (fun k => by rw [f41.l5]) (Ev.neg (by omega) (Ev.ret _)), .inr ⟨h0, by omega, fun x hx => by rw [List.drop_of_length_le (by omega)] at hx; cases hx⟩⟩
  | succ d ih =>
    intro i a hd hi h0 h1
    have hlt : i < l.length := by omega
    obtain ⟨s0, s1⟩ := hs _ (List.getElem_mem hlt)
    obtain ⟨r, hr, h⟩ := szFile_ev l[i].f0 l[i].f1 a h0 h1 s0 s1
    rw [← at_nat l i hlt] at hr
    rcases h with h | ⟨r0, r1, z0, z1⟩
    · exact ⟨-1, Ev.step (fun k => by rw [f41.l5]) (Ev.pos (by omega) (Ev.pos (by omega) (Ev.bind hr (Ev.pos h (Ev.ret _))))), .inl (by omega)⟩
    · obtain ⟨q, hq, h⟩ := ih (i + 1) r (by omega) (by omega) r0 (by omega)
      rw [show ((i + 1 : Nat) : Int) = IntKind.i64.wrap ((i : Int) + 1) by rw [wr (by omega) (by omega)]; omega] at hq
      have hq' : Ev (fun k => f41.l5 k l a (i : Int)) q := by
        refine Ev.step (fun k => by rw [f41.l5]) (Ev.pos (by omega) (Ev.pos (by omega) (Ev.bind hr ?_)))
        exact Ev.neg (by omega) hq
      refine ⟨q, hq', ?_⟩
      rcases h with h | ⟨q0, q1, z⟩
      · exact .inl h
      · refine .inr ⟨q0, by omega, fun x hx => ?_⟩
        rw [List.drop_eq_getElem_cons hlt] at hx
        rcases List.mem_cons.1 hx with rfl | hx
        · exact ⟨z0, z1⟩
        · exact z x hx
theorem szFileS_ev (l : List S106) (a : Int) (h0 : 0 ≤ a) (h1 : a ≤ 1048576) (hl : l.length ≤ maxLen) (hs : ∀ x ∈ l, x.f0.size ≤ maxLen ∧ x.f1.size ≤ maxLen) : ∃ r, Ev (fun k => f41 k l a) r ∧ (r < 0 ∨ (0 ≤ r ∧ r ≤ a ∧ l.length ≤ 1048576 ∧ ∀ x ∈ l, x.f0.size ≤ 1048576 ∧ x.f1.size ≤ 1048576)) := by
  unfold maxLen at hl
  unfold f41
  rw [wr (n := a - l.length) (by omega) (by omega)]
  by_cases h2 : a - l.length < 0
  · exact ⟨-1, Ev.pos h2 (Ev.ret _), .inl (by omega)⟩
  · obtain ⟨r, hr, h⟩ := szFileS_loop l (by omega) hs _ 0 (a - l.length) rfl (Nat.zero_le _) (by omega) (by omega)
    refine ⟨r, Ev.neg h2 hr, ?_⟩
    rcases h with h | ⟨r0, r1, z⟩
    · exact .inl h
    · exact .inr ⟨r0, by omega, by omega, z⟩
theorem szDOpS_loop (l : List S108) (hl : l.length ≤ 1048576) (hs : ∀ x ∈ l, x.f1.size ≤ maxLen ∧ x.f2.size ≤ maxLen ∧ x.f3.size ≤ maxLen) (d : Nat) : ∀ (i : Nat) (a : Int), l.length - i = d → i ≤ l.length → 0 ≤ a → a ≤ 1048576 →
    ∃ r, Ev (fun k => f42.l5 k l a (i : Int)) r ∧ (r < 0 ∨ (0 ≤ r ∧ r ≤ a ∧ ∀ x ∈ l.drop i, x.f1.size ≤ 1048576 ∧ x.f2.size ≤ 1048576 ∧ x.f3.size ≤ 1048576)) := by
  induction d with
  | zero =>
    intro i a hd hi h0 h1
    exact ⟨a, Ev.step (fun k => by rw [f42.l5]) (Ev.neg (by omega) (Ev.ret _)), .inr ⟨h0, by omega, fun x hx => by rw [List.drop_of_length_le (by omega)] at hx; cases hx⟩⟩
  | succ d ih =>
    intro i a hd hi h0 h1
    have hlt : i < l.length := by omega
    obtain ⟨s0, s1, s2⟩ := hs _ (List.getElem_mem hlt)
    obtain ⟨r, hr, h⟩ := szDOp_ev l[i].f0 l[i].f1 l[i].f2 l[i].f3 a h0 h1 s0 s1 s2
    rw [← at_nat l i hlt] at hr
    rcases h with h | ⟨r0, r1, z0, z1, z2⟩
    · exact ⟨-1, Ev.step (fun k => by rw [f42.l5]) (Ev.pos (by omega) (Ev.pos (by omega) (Ev.bind hr (Ev.pos h (Ev.ret _))))), .inl (by omega)⟩
    · obtain ⟨q, hq, h⟩ := ih (i + 1) r (by omega) (by omega) r0 (by omega)
      rw [show ((i + 1 : Nat) : Int) = IntKind.i64.wrap ((i : Int) + 1) by rw [wr (by omega) (by omega)]; omega] at hq
      have hq' : Ev (fun k => f42.l5 k l a (i : Int)) q := by
        refine Ev.step (fun k => by rw [f42.l5]) (Ev.pos (by omega) (Ev.pos (by omega) (Ev.bind hr ?_)))
        exact Ev.neg (by omega) hq
      refine ⟨q, hq', ?_⟩
      rcases h with h | ⟨q0, q1, z⟩
      · exact .inl h
      · refine .inr ⟨q0, by omega, fun x hx => ?_⟩
        rw [List.drop_eq_getElem_cons hlt] at hx
        rcases List.mem_cons.1 hx with rfl | hx
        · exact ⟨z0, z1, z2⟩
        · exact z x hx
theorem szDOpS_ev (l : List S108) (a : Int) (h0 : 0 ≤ a) (h1 : a ≤ 1048576) (hl : l.length ≤ maxLen) (hs : ∀ x ∈ l, x.f1.size ≤ maxLen ∧ x.f2.size ≤ maxLen ∧ x.f3.size ≤ maxLen) : ∃ r, Ev (fun k => f42 k l a) r ∧ (r < 0 ∨ (0 ≤ r ∧ r ≤ a ∧ l.length ≤ 1048576 ∧ ∀ x ∈ l, x.f1.size ≤ 1048576 ∧ x.f2.size ≤ 1048576 ∧ x.f3.size ≤ 1048576)) := by
  unfold maxLen at hl
  unfold f42
  rw [wr (n := a - l.length) (by omega) (by omega)]
  by_cases h2 : a - l.length < 0
  · exact ⟨-1, Ev.pos h2 (Ev.ret _), .inl (by omega)⟩
  · obtain ⟨r, hr, h⟩ := szDOpS_loop l (by omega) hs _ 0 (a - l.length) rfl (Nat.zero_le _) (by omega) (by omega)
    refine ⟨r, Ev.neg h2 hr, ?_⟩
    rcases h with h | ⟨r0, r1, z⟩
    · exact .inl h
    · exact .inr ⟨r0, by omega, by omega, z⟩
structure DiskSz (live safe : List S80) (ops : List S73) : Prop where
  n0 : live.length ≤ 1048576
  n1 : safe.length ≤ 1048576
  n2 : ops.length ≤ 1048576
  s0 : ∀ x ∈ live, x.f0.size ≤ 1048576 ∧ x.f1.size ≤ 1048576
  s1 : ∀ x ∈ safe, x.f0.size ≤ 1048576 ∧ x.f1.size ≤ 1048576
  s2 : ∀ x ∈ ops, x.f1.size ≤ 1048576 ∧ x.f2.size ≤ 1048576 ∧ x.f3.size ≤ 1048576
def okF (l : List S106) : Prop := l.length ≤ maxLen ∧ ∀ x ∈ l, x.f0.size ≤ maxLen ∧ x.f1.size ≤ maxLen
def okO (l : List S108) : Prop := l.length ≤ maxLen ∧ ∀ x ∈ l, x.f1.size ≤ maxLen ∧ x.f2.size ≤ maxLen ∧ x.f3.size ≤ maxLen
theorem szDisk_ev (l0 l1 : List S106) (l2 : List S108) (a : Int) (h0 : 0 ≤ a) (h1 : a ≤ 1048576) (o0 : okF l0) (o1 : okF l1) (o2 : okO l2) :
    ∃ r, Ev (fun k => f12 k l0 l1 l2 a) r ∧ (r < 0 ∨ (0 ≤ r ∧ r ≤ a ∧ DiskSz (l0.map to_File) (l1.map to_File) (l2.map to_DOp))) := by
  unfold f12
  obtain ⟨r, hr, h⟩ := szFileS_ev l0 a h0 h1 o0.1 o0.2
  rcases h with h | ⟨r0, r1, m0, z0⟩
  · exact ⟨-1, Ev.bind hr (Ev.pos h (Ev.ret _)), .inl (by omega)⟩
  obtain ⟨q, hq, h⟩ := szFileS_ev l1 r r0 (by omega) o1.1 o1.2
  rcases h with h | ⟨q0, q1, m1, z1⟩
  · exact ⟨-1, Ev.bind hr (Ev.neg (by omega) (Ev.bind hq (Ev.pos h (Ev.ret _)))), .inl (by omega)⟩
  obtain ⟨p, hp, h⟩ := szDOpS_ev l2 q q0 (by omega) o2.1 o2.2
  rcases h with h | ⟨p0, p1, m2, z2⟩
  · exact ⟨-1, Ev.bind hr (Ev.neg (by omega) (Ev.bind hq (Ev.neg (by omega) (Ev.bind hp (Ev.pos h (Ev.ret _)))))), .inl (by omega)⟩
  refine ⟨p, Ev.bind hr (Ev.neg (by omega) (Ev.bind hq (Ev.neg (by omega) (Ev.bind hp (Ev.neg (by omega) (Ev.ret _)))))), .inr ⟨p0, by omega, by simpa using m0, by simpa using m1, by simpa using m2, ?_, ?_, ?_⟩⟩
  · intro x hx
    obtain ⟨y, hy, rfl⟩ := List.mem_map.1 hx
    exact z0 y hy
  · intro x hx
    obtain ⟨y, hy, rfl⟩ := List.mem_map.1 hx
    exact z1 y hy
  · intro x hx
    obtain ⟨y, hy, rfl⟩ := List.mem_map.1 hx
    exact z2 y hy
theorem toFileS_loop (l : List S106) (z : S80) (hl : l.length ≤ 1048576) (d : Nat) : ∀ i : Nat, l.length - i = d → i ≤ l.length → Ev (fun k => f47.l3 k ((l.map to_File).take i ++ List.replicate ((l.map to_File).length - i) z) l (i : Int)) (l.map to_File) := by
  have hm : (l.map to_File).length = l.length := List.length_map ..
  induction d with
  | zero =>
    intro i hd hi
    exact Ev.step (fun k => by rw [f47.l3]) (Ev.neg (by omega) (Ev.ret' (fill_end z _ i (by omega))))
  | succ d ih =>
    intro i hd hi
    have hlt : i < l.length := by omega
    have hq := fill_length z (l.map to_File) i (by omega)
    refine Ev.step (fun k => by rw [f47.l3]) (Ev.pos (by omega) (Ev.pos (by omega) (Ev.bind (a := (l[i].f0, l[i].f1)) (by rw [at_nat l i hlt]; unfold f87; exact Ev.ret _) ?_)))
    refine Ev.pos (by rw [hq]; omega) ?_
    have hn := ih (i + 1) (by omega) (by omega)
    rw [wr (by omega) (by omega), Int.toNat_natCast]
    have e : (⟨l[i].f0, l[i].f1⟩ : S80) = (l.map to_File)[i]'(by omega) := by rw [List.getElem_map]; rfl
    rw [show ((l[i].f0, l[i].f1).1 : ByteArray) = l[i].f0 from rfl, show ((l[i].f0, l[i].f1).2 : ByteArray) = l[i].f1 from rfl, e, fillL_step z _ i (by omega)]
    rwa [show ((i + 1 : Nat) : Int) = (i : Int) + 1 by omega] at hn
theorem toFileS_ev (l : List S106) (hl : l.length ≤ 1048576) : Ev (fun k => f47 k l) (l.map to_File) := by
  unfold f47
  refine Ev.pos (by omega) (Ev.pos (by omega) (Ev.pos (by omega) (Ev.pos (by omega) ?_)))
  have := toFileS_loop l (⟨(⟨#[]⟩ : ByteArray), (⟨#[]⟩ : ByteArray)⟩ : S80) hl _ 0 rfl (Nat.zero_le _)
  simpa using this
theorem toDOpS_loop (l : List S108) (z : S73) (hl : l.length ≤ 1048576) (d : Nat) : ∀ i : Nat, l.length - i = d → i ≤ l.length → Ev (fun k => f48.l3 k ((l.map to_DOp).take i ++ List.replicate ((l.map to_DOp).length - i) z) l (i : Int)) (l.map to_DOp) := by
  have hm : (l.map to_DOp).length = l.length := List.length_map ..
  induction d with
  | zero =>
    intro i hd hi
    exact Ev.step (fun k => by rw [f48.l3]) (Ev.neg (by omega) (Ev.ret' (fill_end z _ i (by omega))))
  | succ d ih =>
    intro i hd hi
    have hlt : i < l.length := by omega
    have hq := fill_length z (l.map to_DOp) i (by omega)
    refine Ev.step (fun k => by rw [f48.l3]) (Ev.pos (by omega) (Ev.pos (by omega) (Ev.bind (a := (l[i].f0, l[i].f1, l[i].f2, l[i].f3)) (by rw [at_nat l i hlt]; unfold f88; exact Ev.ret _) ?_)))
    refine Ev.pos (by rw [hq]; omega) ?_
    have hn := ih (i + 1) (by omega) (by omega)
    rw [wr (by omega) (by omega), Int.toNat_natCast]
    have e : (⟨l[i].f0, l[i].f1, l[i].f2, l[i].f3⟩ : S73) = (l.map to_DOp)[i]'(by omega) := by rw [List.getElem_map]; rfl
    show Ev (fun n => f48.l3 n ((((l.map to_DOp).take i ++ List.replicate ((l.map to_DOp).length - i) z)).set i (⟨l[i].f0, l[i].f1, l[i].f2, l[i].f3⟩ : S73)) l ((i : Int) + 1)) _
    rw [e, fillL_step z _ i (by omega)]
    rwa [show ((i + 1 : Nat) : Int) = (i : Int) + 1 by omega] at hn
theorem toDOpS_ev (l : List S108) (hl : l.length ≤ 1048576) : Ev (fun k => f48 k l) (l.map to_DOp) := by
  unfold f48
  refine Ev.pos (by omega) (Ev.pos (by omega) (Ev.pos (by omega) (Ev.pos (by omega) ?_)))
  have := toDOpS_loop l (⟨0, (⟨#[]⟩ : ByteArray), (⟨#[]⟩ : ByteArray), (⟨#[]⟩ : ByteArray)⟩ : S73) hl _ 0 rfl (Nat.zero_le _)
  simpa using this
theorem toInts_loop (l : List Int) (hl : l.length ≤ 1048576) (d : Nat) : ∀ i : Nat, l.length - i = d → i ≤ l.length → Ev (fun k => f31.l3 k (l.take i ++ List.replicate (l.length - i) 0) l (i : Int)) l := by
  induction d with
  | zero =>
    intro i hd hi
    exact Ev.step (fun k => by rw [f31.l3]) (Ev.neg (by omega) (Ev.ret' (fill_end 0 l i (by omega))))
  | succ d ih =>
    intro i hd hi
    have hq := fill_length 0 l i hi
    refine Ev.step (fun k => by rw [f31.l3]) (Ev.pos (by omega) (Ev.pos (by omega) (Ev.pos (by rw [hq]; omega) ?_)))
    have hn := ih (i + 1) (by omega) (by omega)
    rw [wr (by omega) (by omega), Int.toNat_natCast, at_nat l i (by omega), fillL_step 0 l i (by omega)]
    rwa [show ((i + 1 : Nat) : Int) = (i : Int) + 1 by omega] at hn
theorem toInts_ev (l : List Int) (hl : l.length ≤ 1048576) : Ev (fun k => f31 k l) l := by
  unfold f31
  refine Ev.pos (by omega) (Ev.pos (by omega) (Ev.pos (by omega) (Ev.pos (by omega) ?_)))
  have := toInts_loop l hl _ 0 rfl (Nat.zero_le _)
  simpa using this
theorem toDisk_ev (l0 l1 : List S106) (l2 : List S108) (h : DiskSz (l0.map to_File) (l1.map to_File) (l2.map to_DOp)) : Ev (fun k => f14 k l0 l1 l2) (l0.map to_File, l1.map to_File, l2.map to_DOp) := by
  unfold f14
  have n0 := h.n0
  have n1 := h.n1
  have n2 := h.n2
  rw [List.length_map] at n0 n1 n2
  exact Ev.bind (toFileS_ev l0 n0) (Ev.bind (toFileS_ev l1 n1) (Ev.bind (toDOpS_ev l2 n2) (Ev.ret _)))
theorem eqFileS_loop (l : List S80) (hl : l.length ≤ 1073741824) (d : Nat) : ∀ i : Nat, l.length - i = d → i ≤ l.length → Ev (fun k => f50.l4 k l l (i : Int)) true := by
  induction d with
  | zero => intro i hd hi; exact Ev.step (fun k => by rw [f50.l4]) (Ev.neg (by omega) (Ev.ret _))
  | succ d ih =>
    intro i hd hi
    have hn := ih (i + 1) (by omega) (by omega)
    rw [show ((i + 1 : Nat) : Int) = IntKind.i64.wrap ((i : Int) + 1) by rw [wr (by omega) (by omega)]; omega] at hn
    exact Ev.step (fun k => by rw [f50.l4]) (Ev.pos (by omega) (Ev.pos (by omega) (Ev.pos (by omega) (Ev.bind (a := true) (by unfold f91; exact Ev.pos (strEq_self _) (Ev.pos (strEq_self _) (Ev.ret _))) (Ev.pos rfl hn)))))
theorem eqFileS_ev (l : List S80) (hl : l.length ≤ 1073741824) : Ev (fun k => f50 k l l) true := by
  unfold f50
  exact Ev.pos rfl (eqFileS_loop l hl _ 0 rfl (Nat.zero_le _))
theorem eqDOpS_loop (l : List S73) (hl : l.length ≤ 1073741824) (d : Nat) : ∀ i : Nat, l.length - i = d → i ≤ l.length → Ev (fun k => f51.l4 k l l (i : Int)) true := by
  induction d with
  | zero => intro i hd hi; exact Ev.step (fun k => by rw [f51.l4]) (Ev.neg (by omega) (Ev.ret _))
  | succ d ih =>
    intro i hd hi
    have hn := ih (i + 1) (by omega) (by omega)
    rw [show ((i + 1 : Nat) : Int) = IntKind.i64.wrap ((i : Int) + 1) by rw [wr (by omega) (by omega)]; omega] at hn
    exact Ev.step (fun k => by rw [f51.l4]) (Ev.pos (by omega) (Ev.pos (by omega) (Ev.pos (by omega) (Ev.bind (a := true) (by unfold f92; exact Ev.pos rfl (Ev.pos (strEq_self _) (Ev.pos (strEq_self _) (Ev.pos (strEq_self _) (Ev.ret _))))) (Ev.pos rfl hn)))))
theorem eqDOpS_ev (l : List S73) (hl : l.length ≤ 1073741824) : Ev (fun k => f51 k l l) true := by
  unfold f51
  exact Ev.pos rfl (eqDOpS_loop l hl _ 0 rfl (Nat.zero_le _))
theorem eqDisk_ev (a b : List S80) (c : List S73) (h0 : a.length ≤ 1073741824) (h1 : b.length ≤ 1073741824) (h2 : c.length ≤ 1073741824) : Ev (fun k => f16 k a b c a b c) true := by
  unfold f16
  exact Ev.bind (eqFileS_ev a h0) (Ev.pos rfl (Ev.bind (eqFileS_ev b h1) (Ev.pos rfl (Ev.bind (eqDOpS_ev c h2) (Ev.pos rfl (Ev.ret _))))))
theorem eqInts_loop (l : List Int) (hl : l.length ≤ 1073741824) (d : Nat) : ∀ i : Nat, l.length - i = d → i ≤ l.length → Ev (fun k => f32.l4 k l l (i : Int)) true := by
  induction d with
  | zero => intro i hd hi; exact Ev.step (fun k => by rw [f32.l4]) (Ev.neg (by omega) (Ev.ret _))
  | succ d ih =>
    intro i hd hi
    have hn := ih (i + 1) (by omega) (by omega)
    rw [show ((i + 1 : Nat) : Int) = IntKind.i64.wrap ((i : Int) + 1) by rw [wr (by omega) (by omega)]; omega] at hn
    exact Ev.step (fun k => by rw [f32.l4]) (Ev.pos (by omega) (Ev.pos (by omega) (Ev.pos (by omega) (Ev.pos rfl hn))))
theorem eqInts_ev (l : List Int) (hl : l.length ≤ 1073741824) : Ev (fun k => f32 k l l) true := by
  unfold f32
  exact Ev.pos rfl (eqInts_loop l hl _ 0 rfl (Nat.zero_le _))
theorem markText_loop (d : Nat) : ∀ (x : Int) (s : ByteArray), 0 ≤ x → x ≤ 9223372036854775807 → x < 10 ^ d → s.size + d ≤ 1000 → ∃ t, Ev (fun k => f105.l4 k x s) t := by
  induction d with
  | zero =>
    intro x s h0 hm h1 h2
    exact ⟨_, Ev.step (fun k => by rw [f105.l4]) (Ev.neg (by omega) (Ev.pos (by omega) (Ev.ret _)))⟩
  | succ d ih =>
    intro x s h0 hm h1 h2
    by_cases hx : 0 < x
    · have e : x.tdiv 10 = x / 10 := Int.tdiv_eq_ediv_of_nonneg h0
      have hb : x / 10 < 10 ^ d := by
        have : (10 : Int) ^ (d + 1) = 10 ^ d * 10 := Int.pow_succ 10 d
        omega
      have hw : IntKind.i64.wrap (x.tdiv 10) = x / 10 := by rw [e, wr (by omega) (by omega)]
      obtain ⟨t, ht⟩ := ih (x / 10) (strOf ([(IntKind.u8.wrap (IntKind.i64.wrap (48 + (x.tmod 10))))] : List Int) ++ s) (by omega) (by omega) hb (by rw [ByteArray.size_append, show (strOf ([(IntKind.u8.wrap (IntKind.i64.wrap (48 + (x.tmod 10))))] : List Int)).size = 1 from rfl]; omega)
      refine ⟨t, Ev.step (fun k => by rw [f105.l4]) (Ev.pos hx (Ev.pos (by omega) ?_))⟩
      rw [hw]
      exact ht
    · exact ⟨_, Ev.step (fun k => by rw [f105.l4]) (Ev.neg hx (Ev.pos (by omega) (Ev.ret _)))⟩
theorem markText_any (x : Int) (h0 : 0 ≤ x) (h1 : x ≤ 9223372036854775807) : ∃ t, Ev (fun k => f105 k x) t := by
  unfold f105
  by_cases h : x ≤ 0
  · exact ⟨_, Ev.pos h (Ev.ret _)⟩
  · obtain ⟨t, ht⟩ := markText_loop 19 x (⟨#[]⟩ : ByteArray) h0 h1 (by omega) (by decide)
    exact ⟨t, Ev.neg h ht⟩
noncomputable def mt (x : Int) : ByteArray := by
  classical
  exact if h : ∃ t, Ev (fun k => f105 k x) t then h.choose else default
theorem mt_ev (x : Int) (h0 : 0 ≤ x) (h1 : x ≤ 9223372036854775807) : Ev (fun k => f105 k x) (mt x) := by
  have h := markText_any x h0 h1
  unfold mt
  rw [dif_pos h]
  exact h.choose_spec
noncomputable def mkF (a : Int) : Nat → List S80
  | 0 => []
  | n + 1 => ⟨mt a, mt (a + 1)⟩ :: mkF (a + 2) n
noncomputable def mkO (a : Int) : Nat → List S73
  | 0 => []
  | n + 1 => ⟨a, mt (a + 1), mt (a + 2), mt (a + 3)⟩ :: mkO (a + 4) n
theorem mkF_len : ∀ (n : Nat) (a : Int), (mkF a n).length = n
  | 0, _ => rfl
  | n + 1, a => by rw [mkF, List.length_cons, mkF_len n]
theorem mkO_len : ∀ (n : Nat) (a : Int), (mkO a n).length = n
  | 0, _ => rfl
  | n + 1, a => by rw [mkO, List.length_cons, mkO_len n]
theorem set_mid {α : Type} (p : List α) (x y : α) (r : List α) : (p ++ x :: r).set p.length y = p ++ y :: r := by
  rw [List.set_append_right _ _ (Nat.le_refl _), Nat.sub_self, List.set_cons_zero]
theorem markF_loop : ∀ (r p : List S80) (a : Int), 0 ≤ a → a + 2 * r.length ≤ 4611686018427387904 → p.length + r.length ≤ 1073741824 → Ev (fun k => f68.l2 k (p ++ r) a (p.length : Int)) (a + 2 * r.length, p ++ mkF a r.length)
  | [], p, a, h0, h1, h2 => by
    refine Ev.step (fun k => by rw [f68.l2]) (Ev.neg (by simp) (Ev.ret' ?_))
    simp [mkF]
  | x :: r, p, a, h0, h1, h2 => by
    rw [List.length_cons] at h1 h2
    refine Ev.step (fun k => by rw [f68.l2]) (Ev.pos (by rw [List.length_append, List.length_cons]; omega) (Ev.bind (mt_ev a h0 (by omega)) ?_))
    refine Ev.pos (by omega) ?_
    rw [wr (n := a + 1) (by omega) (by omega), wr (n := a + 1 + 1) (by omega) (by omega), wr (n := (p.length : Int) + 1) (by omega) (by omega), Int.toNat_natCast, show a + 1 + 1 = a + 2 by omega]
    refine Ev.bind (mt_ev (a + 1) (by omega) (by omega)) ?_
    rw [set_mid]
    have ih := markF_loop r (p ++ [⟨mt a, mt (a + 1)⟩]) (a + 2) (by omega) (by omega) (by rw [List.length_append]; simp; omega)
    rw [List.append_assoc, List.singleton_append, List.length_append, List.length_singleton, show ((p.length + 1 : Nat) : Int) = (p.length : Int) + 1 by omega] at ih
    refine ih.eq ?_
    rw [List.length_cons, mkF, List.append_assoc]
    simp only [Prod.mk.injEq, List.singleton_append, and_true]
    omega
theorem markF_ev (l : List S80) (a : Int) (h0 : 0 ≤ a) (h1 : a + 2 * l.length ≤ 4611686018427387904) (h2 : l.length ≤ 1073741824) : Ev (fun k => f68 k a l) (a + 2 * l.length, mkF a l.length) := by
  unfold f68
  exact markF_loop l [] a h0 h1 (by simpa using h2)
theorem markO_loop : ∀ (r p : List S73) (a : Int), 0 ≤ a → a + 4 * r.length ≤ 4611686018427387904 → p.length + r.length ≤ 1073741824 → Ev (fun k => f69.l2 k (p ++ r) a (p.length : Int)) (a + 4 * r.length, p ++ mkO a r.length)
  | [], p, a, h0, h1, h2 => by
    refine Ev.step (fun k => by rw [f69.l2]) (Ev.neg (by simp) (Ev.ret' ?_))
    simp [mkO]
  | x :: r, p, a, h0, h1, h2 => by
    rw [List.length_cons] at h1 h2
    refine Ev.step (fun k => by rw [f69.l2]) (Ev.pos (by rw [List.length_append, List.length_cons]; omega) (Ev.pos (by omega) ?_))
    rw [wr (n := a + 1) (by omega) (by omega), wr (n := a + 1 + 1) (by omega) (by omega), wr (n := a + 1 + 1 + 1) (by omega) (by omega), wr (n := a + 1 + 1 + 1 + 1) (by omega) (by omega), wr (n := (p.length : Int) + 1) (by omega) (by omega), Int.toNat_natCast, show a + 1 + 1 + 1 + 1 = a + 4 by omega, show a + 1 + 1 + 1 = a + 3 by omega, show a + 1 + 1 = a + 2 by omega]
    refine Ev.bind (mt_ev (a + 1) (by omega) (by omega)) (Ev.bind (mt_ev (a + 2) (by omega) (by omega)) (Ev.bind (mt_ev (a + 3) (by omega) (by omega)) ?_))
    rw [set_mid]
    have ih := markO_loop r (p ++ [⟨a, mt (a + 1), mt (a + 2), mt (a + 3)⟩]) (a + 4) (by omega) (by omega) (by rw [List.length_append]; simp; omega)
    rw [List.append_assoc, List.singleton_append, List.length_append, List.length_singleton, show ((p.length + 1 : Nat) : Int) = (p.length : Int) + 1 by omega] at ih
    refine ih.eq ?_
    rw [List.length_cons, mkO, List.append_assoc]
    simp only [Prod.mk.injEq, List.singleton_append, and_true]
    omega
theorem markO_ev (l : List S73) (a : Int) (h0 : 0 ≤ a) (h1 : a + 4 * l.length ≤ 4611686018427387904) (h2 : l.length ≤ 1073741824) : Ev (fun k => f69 k a l) (a + 4 * l.length, mkO a l.length) := by
  unfold f69
  exact markO_loop l [] a h0 h1 (by simpa using h2)
theorem markI_loop : ∀ (r p : List Int) (a : Int), 0 ≤ a → a + r.length ≤ 4611686018427387904 → p.length + r.length ≤ 1073741824 → ∃ q, Ev (fun k => f33.l2 k (p ++ r) a (p.length : Int)) (a + r.length, q)
  | [], p, a, h0, h1, h2 => ⟨p, by
    refine Ev.step (fun k => by rw [f33.l2]) (Ev.neg (by simp) (Ev.ret' ?_))
    simp⟩
  | x :: r, p, a, h0, h1, h2 => by
    rw [List.length_cons] at h1 h2
    obtain ⟨q, ih⟩ := markI_loop r (p ++ [a]) (a + 1) (by omega) (by omega) (by rw [List.length_append]; simp; omega)
    refine ⟨q, Ev.step (fun k => by rw [f33.l2]) (Ev.pos (by rw [List.length_append, List.length_cons]; omega) (Ev.pos (by omega) ?_))⟩
    rw [wr (n := a + 1) (by omega) (by omega), wr (n := (p.length : Int) + 1) (by omega) (by omega), Int.toNat_natCast, set_mid]
    rw [List.append_assoc, List.singleton_append, List.length_append, List.length_singleton, show ((p.length + 1 : Nat) : Int) = (p.length : Int) + 1 by omega] at ih
    refine ih.eq ?_
    rw [List.length_cons]
    simp only [Prod.mk.injEq, and_true]
    omega
theorem markI_ev (l : List Int) (a : Int) (h0 : 0 ≤ a) (h1 : a + l.length ≤ 4611686018427387904) (h2 : l.length ≤ 1073741824) : ∃ q, Ev (fun k => f33 k a l) (a + l.length, q) := by
  unfold f33
  exact markI_loop l [] a h0 h1 (by simpa using h2)
theorem heldF_loop : ∀ (n : Nat) (p : List S80) (a : Int), 0 ≤ a → a + 2 * n ≤ 4611686018427387904 → p.length + n ≤ 1073741824 → Ev (fun k => f70.l2 k (p ++ mkF a n) a (p.length : Int)) (a + 2 * n)
  | 0, p, a, h0, h1, h2 => by
    refine Ev.step (fun k => by rw [f70.l2]) (Ev.neg (by simp [mkF]) (Ev.ret' ?_))
    simp
  | n + 1, p, a, h0, h1, h2 => by
    have hl : (p ++ mkF a (n + 1)).length = p.length + (n + 1) := by rw [List.length_append, mkF_len]
    have hat : at' (p ++ mkF a (n + 1)) (p.length : Int) = ⟨mt a, mt (a + 1)⟩ := by
      rw [at_nat _ _ (by omega), List.getElem_append_right (Nat.le_refl _)]
      simp [mkF]
    refine Ev.step (fun k => by rw [f70.l2]) (Ev.pos (by omega) (Ev.pos (by omega) ?_))
    rw [hat, wr (n := a + 1) (by omega) (by omega), wr (n := a + 1 + 1) (by omega) (by omega), wr (n := (p.length : Int) + 1) (by omega) (by omega), show a + 1 + 1 = a + 2 by omega]
    refine Ev.bind (mt_ev a h0 (by omega)) (Ev.pos (strEq_self _) (Ev.bind (mt_ev (a + 1) (by omega) (by omega)) (Ev.pos (strEq_self _) ?_)))
    have ih := heldF_loop n (p ++ [⟨mt a, mt (a + 1)⟩]) (a + 2) (by omega) (by omega) (by rw [List.length_append]; simp; omega)
    rw [List.append_assoc, List.singleton_append, List.length_append, List.length_singleton, show ((p.length + 1 : Nat) : Int) = (p.length : Int) + 1 by omega] at ih
    rw [mkF]
    exact ih.eq (by omega)
theorem heldF_ev (n : Nat) (a : Int) (h0 : 0 ≤ a) (h1 : a + 2 * n ≤ 4611686018427387904) (h2 : n ≤ 1073741824) : Ev (fun k => f70 k (mkF a n) a) (a + 2 * n) := by
  unfold f70
  exact heldF_loop n [] a h0 h1 (by simpa using h2)
theorem heldO_loop : ∀ (n : Nat) (p : List S73) (a : Int), 0 ≤ a → a + 4 * n ≤ 4611686018427387904 → p.length + n ≤ 1073741824 → Ev (fun k => f71.l2 k (p ++ mkO a n) a (p.length : Int)) (a + 4 * n)
  | 0, p, a, h0, h1, h2 => by
    refine Ev.step (fun k => by rw [f71.l2]) (Ev.neg (by simp [mkO]) (Ev.ret' ?_))
    simp
  | n + 1, p, a, h0, h1, h2 => by
    have hl : (p ++ mkO a (n + 1)).length = p.length + (n + 1) := by rw [List.length_append, mkO_len]
    have hat : at' (p ++ mkO a (n + 1)) (p.length : Int) = ⟨a, mt (a + 1), mt (a + 2), mt (a + 3)⟩ := by
      rw [at_nat _ _ (by omega), List.getElem_append_right (Nat.le_refl _)]
      simp [mkO]
    refine Ev.step (fun k => by rw [f71.l2]) (Ev.pos (by omega) (Ev.pos (by omega) ?_))
    rw [hat, wr (n := a + 1) (by omega) (by omega), wr (n := a + 1 + 1) (by omega) (by omega), wr (n := a + 1 + 1 + 1) (by omega) (by omega), wr (n := a + 1 + 1 + 1 + 1) (by omega) (by omega), wr (n := (p.length : Int) + 1) (by omega) (by omega), show a + 1 + 1 + 1 + 1 = a + 4 by omega, show a + 1 + 1 + 1 = a + 3 by omega, show a + 1 + 1 = a + 2 by omega]
    refine Ev.pos rfl (Ev.bind (mt_ev (a + 1) (by omega) (by omega)) (Ev.pos (strEq_self _) (Ev.bind (mt_ev (a + 2) (by omega) (by omega)) (Ev.pos (strEq_self _) (Ev.bind (mt_ev (a + 3) (by omega) (by omega)) (Ev.pos (strEq_self _) ?_))))))
    have ih := heldO_loop n (p ++ [⟨a, mt (a + 1), mt (a + 2), mt (a + 3)⟩]) (a + 4) (by omega) (by omega) (by rw [List.length_append]; simp; omega)
    rw [List.append_assoc, List.singleton_append, List.length_append, List.length_singleton, show ((p.length + 1 : Nat) : Int) = (p.length : Int) + 1 by omega] at ih
    rw [mkO]
    exact ih.eq (by omega)
theorem heldO_ev (n : Nat) (a : Int) (h0 : 0 ≤ a) (h1 : a + 4 * n ≤ 4611686018427387904) (h2 : n ≤ 1073741824) : Ev (fun k => f71 k (mkO a n) a) (a + 4 * n) := by
  unfold f71
  exact heldO_loop n [] a h0 h1 (by simpa using h2)
theorem markD_ev (a b : List S80) (c : List S73) (h0 : a.length ≤ 1073741824) (h1 : b.length ≤ 1073741824) (h2 : c.length ≤ 1073741824) :
    Ev (fun k => f29 k 1 a b c) (1 + 2 * a.length + 2 * b.length + 4 * c.length, mkF 1 a.length, mkF (1 + 2 * a.length) b.length, mkO (1 + 2 * a.length + 2 * b.length) c.length) := by
  unfold f29
  exact Ev.bind (markF_ev a 1 (by omega) (by omega) h0) (Ev.bind (markF_ev b _ (by omega) (by omega) h1) (Ev.bind (markO_ev c _ (by omega) (by omega) h2) (Ev.ret _)))
theorem heldD_ev (n m o : Nat) (h0 : n ≤ 1073741824) (h1 : m ≤ 1073741824) (h2 : o ≤ 1073741824) :
    Ev (fun k => f30 k (mkF 1 n) (mkF (1 + 2 * n) m) (mkO (1 + 2 * n + 2 * m) o) 1) (1 + 2 * (n : Int) + 2 * m + 4 * o) := by
  unfold f30
  exact Ev.bind (heldF_ev n 1 (by omega) (by omega) h0) (Ev.neg (by omega) (Ev.bind (heldF_ev m _ (by omega) (by omega) h1) (Ev.neg (by omega) (Ev.bind (heldO_ev o _ (by omega) (by omega) h2) (Ev.neg (by omega) (Ev.ret _))))))
theorem crash_len (live safe : List S80) (ops : List S73) (keep : List Int) (torn : Int) : (crashR live safe ops keep torn).2.1.length ≤ 60 ∧ (crashR live safe ops keep torn).2.2.1.length ≤ 60 ∧ (crashR live safe ops keep torn).2.2.2.length ≤ 60 := by
  have hn : noC.2.1.length ≤ 60 ∧ noC.2.2.1.length ≤ 60 ∧ noC.2.2.2.length ≤ 60 := ⟨Nat.zero_le _, Nat.zero_le _, Nat.zero_le _⟩
  unfold crashR
  split
  · split
    · exact hn
    · split
      · unfold finC
        split
        · rename_i h
          obtain ⟨_, h60, _⟩ := filesB_said h
          exact ⟨h60, h60, Nat.zero_le _⟩
        · exact hn
      · exact hn
  · exact hn
theorem law8_ev (l0 l1 : List S106) (l2 : List S108) (keep : List Int) (torn : Int) (o0 : okF l0) (o1 : okF l1) (o2 : okO l2) : Ev (fun k => f8 k l0 l1 l2 keep torn) true := by
  unfold f8
  by_cases hk : 1048576 < (keep.length : Int)
  · exact Ev.pos hk (Ev.ret _)
  refine Ev.neg hk ?_
  obtain ⟨r, hr, h⟩ := szDisk_ev l0 l1 l2 1048576 (by omega) (by omega) o0 o1 o2
  refine Ev.bind hr ?_
  rcases h with h | ⟨r0, _, hz⟩
  · exact Ev.pos h (Ev.ret _)
  refine Ev.neg (by omega) ?_
  have n0 := hz.n0
  have n1 := hz.n1
  have n2 := hz.n2
  have s0 : smallF (l0.map to_File) := fun x hx => by have := (hz.s0 x hx).2; omega
  have s1 : smallF (l1.map to_File) := fun x hx => by have := (hz.s1 x hx).2; omega
  have s2 : ∀ x ∈ l2.map to_DOp, x.f3.size ≤ 1048576 := fun x hx => (hz.s2 x hx).2.2
  have hs := spec_crash (l0.map to_File) (l1.map to_File) (l2.map to_DOp) keep torn s0 s1 n1 n2 (by omega) s2
  have hi := impl_crash (l0.map to_File) (l1.map to_File) (l2.map to_DOp) keep torn s0 s1 n0 n1 n2 (by omega) s2
  obtain ⟨c0, c1, c2⟩ := crash_len (l0.map to_File) (l1.map to_File) (l2.map to_DOp) keep torn
  generalize crashR (l0.map to_File) (l1.map to_File) (l2.map to_DOp) keep torn = c at *
  obtain ⟨cb, ca, cs, co⟩ := c
  simp only at c0 c1 c2
  refine Ev.bind (toDisk_ev l0 l1 l2 hz) (Ev.bind (toInts_ev keep (by omega)) (Ev.bind hs (Ev.bind hi (Ev.bind (eqDisk_ev ca cs co (by omega) (by omega) (by omega)) (Ev.pos rfl (Ev.pos (by simp) ?_))))))
  refine Ev.bind (eqDisk_ev (l0.map to_File) (l1.map to_File) (l2.map to_DOp) (by omega) (by omega) (by omega)) (Ev.pos rfl (Ev.bind (eqInts_ev keep (by omega)) (Ev.pos rfl (Ev.bind (markD_ev (l0.map to_File) (l1.map to_File) (l2.map to_DOp) (by omega) (by omega) (by omega)) ?_))))
  obtain ⟨q, hq⟩ := markI_ev keep (1 + 2 * (l0.map to_File).length + 2 * (l1.map to_File).length + 4 * (l2.map to_DOp).length) (by omega) (by omega) (by omega)
  refine Ev.bind hq (Ev.neg (by show ¬ _ < (0 : Int); omega) (Ev.bind (markD_ev ca cs co (by omega) (by omega) (by omega)) ?_))
  refine Ev.pos (by show ca.length ≤ (mkF _ _).length; rw [mkF_len]; omega) (Ev.pos (by show cs.length ≤ (mkF _ _).length; rw [mkF_len]; omega) (Ev.pos (by show co.length ≤ (mkO _ _).length; rw [mkO_len]; omega) ?_))
  have hh := heldD_ev ca.length cs.length co.length (by omega) (by omega) (by omega)
  have t0 : (mkF 1 ca.length).take ca.length = mkF 1 ca.length := List.take_of_length_le (by rw [mkF_len]; omega)
  have t1 : (mkF (1 + 2 * (ca.length : Int)) cs.length).take cs.length = mkF (1 + 2 * (ca.length : Int)) cs.length := List.take_of_length_le (by rw [mkF_len]; omega)
  have t2 : (mkO (1 + 2 * (ca.length : Int) + 2 * cs.length) co.length).take co.length = mkO (1 + 2 * (ca.length : Int) + 2 * cs.length) co.length := List.take_of_length_le (by rw [mkO_len]; omega)
  refine Ev.bind (a := 1 + 2 * (ca.length : Int) + 2 * cs.length + 4 * co.length) ?_ (Ev.neg (by omega) (Ev.pos rfl (Ev.ret _)))
  simp only [t0, t1, t2]
  exact hh
end Go.Proofs.Ytfjoamlgbegpgaa.P
