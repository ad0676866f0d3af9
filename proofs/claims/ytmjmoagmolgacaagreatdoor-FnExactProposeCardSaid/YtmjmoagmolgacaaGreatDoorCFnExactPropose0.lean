/- Part of the proof of FnExactPropose: no statement of its own. -/
import Derived.Deep.AppendSrc
import Derived.Deep.MidRow
import Derived.Deep.Upon
import Derived.Laws.BytesString
import Derived.Laws.Cells
import Derived.Laws.Entries
import Derived.Laws.Sem
import Derived.Laws.StructEq
import Derived.Orders
import GoSem.Step
set_option linter.unusedVariables false
set_option linter.unusedSimpArgs false
namespace Go.Proofs.YtmjmoagmolgacaaGreatDoor.PM
def softOk : Bool := false
inductive T where
  | sc (v : Value)
  | nil
  | sl (xs : List T) (src : List (Nat × Nat))
  | agg (cs : List T)
  | win (o off len : Nat)
  | ptr (o i j : Nat)
  | rp (x : T) (j : Nat) (src : List (Nat × Nat))
  | fn (f : FuncId) (caps : List T)
  | tup (ts : List T)
  | ifc (b : Bool)
  | dead
  deriving Inhabited
def T.cells : T → List T
  | .agg cs => cs
  | t => [t]
abbrev T.width (t : T) : Nat := t.cells.length
def T.withCells (t : T) (cs : List T) : T :=
  match t with
  | .agg _ => .agg cs
  | _ => match cs with
    | [c] => c
    | _ => .dead
structure Ob where
  born : Bool
  alive : Bool
  may : Bool
  row : Bool
  ver : Nat
  k : Nat
  xs : List T
  deriving Inhabited
def Ob.gone : Ob := ⟨false, false, false, false, 0, 0, []⟩
abbrev Ob.mkRow (k : Nat) (xs : List T) : Ob := ⟨true, true, true, true, 0, k, xs⟩
abbrev Ob.mkBox (k : Nat) (x : T) : Ob := ⟨true, true, true, false, 0, k, [x]⟩
def Ob.kill (x : Ob) : Ob := { x with alive := false, ver := x.ver + 1 }
structure St where
  tmps : List T
  store : List (Nat × Ob)
  nx : Nat
  m : Nat
  deriving Inhabited
def lookIn : List (Nat × Ob) → Nat → Ob
  | [], _ => .gone
  | (k, x) :: r, o => if k = o then x else lookIn r o
def putIn : List (Nat × Ob) → Nat → Ob → List (Nat × Ob)
  | [], o, x => [(o, x)]
  | (k, y) :: r, o, x => if k = o then (k, x) :: r else (k, y) :: putIn r o x
def putAll : List (Nat × Ob) → List (Nat × Ob) → List (Nat × Ob)
  | s, [] => s
  | s, (o, x) :: r => putAll (putIn s o x) r
inductive Rd (α : Type) where
  | ret (a : α)
  | get (o : Nat) (k : Ob → Rd α)
  | fail
namespace Rd
def bind {α β : Type} : Rd α → (α → Rd β) → Rd β
  | .ret a, f => f a
  | .get o k, f => .get o fun x => (k x).bind f
  | .fail, _ => .fail
instance : Monad Rd where
  pure := Rd.ret
  bind := Rd.bind
def run {α : Type} (look : Nat → Ob) : Rd α → Option (α × List Nat)
  | .ret a => some (a, [])
  | .get o k => match (k (look o)).run look with
    | some (a, l) => some (a, o :: l)
    | none => none
  | .fail => none
def ofOption {α : Type} : Option α → Rd α
  | some a => .ret a
  | none => .fail
end Rd
def obj (o : Nat) : Rd Ob := .get o .ret
def guardR (b : Bool) : Rd Unit := if b then .ret () else .fail
def plainB : Value → Bool
  | .bool _ | .int _ _ | .string _ => true
  | _ => false
def lift1 : Value → T
  | .slice none 0 0 => .nil
  | .nilIface => .ifc false
  | v => if plainB v then .sc v else .dead
def lift : Value → T
  | .agg cs => .agg (cs.toList.map lift1)
  | v => lift1 v
def evalT (tmps : List T) : Operand → T
  | .tmp t => (tmps[t]?).getD .dead
  | .const v => lift v
  | .func f => .fn f []
  | .global _ => .dead
def chk : List (Nat × Nat) → Rd Unit
  | [] => .ret ()
  | (o, v) :: r => do
    let x ← obj o
    guardR (x.alive && x.ver == v)
    chk r
def view1 : T → Rd T
  | .sc v => .ret (.sc v)
  | .nil => .ret (.sl [] [])
  | .sl xs src => do chk src; pure (.sl xs src)
  | .win o off len => do
    let x ← obj o
    guardR (x.alive && x.row && decide (off + len ≤ x.xs.length))
    pure (.sl ((x.xs.drop off).take len) (if x.may then [(o, x.ver)] else []))
  | _ => .fail
def mapR {α β : Type} (f : α → Rd β) : List α → Rd (List β)
  | [] => .ret []
  | a :: r => do
    let b ← f a
    let s ← mapR f r
    pure (b :: s)
def close1 (t : T) : Rd T := do
  match ← view1 t with
  | .sc v => pure (.sc v)
  | .sl xs [] => pure (.sl xs [])
  | _ => .fail
def close : T → Rd T
  | .agg cs => do pure (.agg (← mapR close1 cs))
  | t => close1 t
def szT (P : Program) (t : TypeId) : Option Nat := (P.info? t).map (·.size)
def aggT (P : Program) (t : TypeId) : Option Bool := (P.underlying t).map fun d => match d with | .struct _ | .array _ _ => true | _ => false
def elemT (P : Program) (t : TypeId) : Option TypeId := match P.underlying t with | some (.slice e) => some e | _ => none
def fieldT (P : Program) (t : TypeId) (f : Nat) : Option (Nat × TypeId) := match P.underlying t with | some (.struct fs) => (fs[f]?).map fun x => (x.offset, x.type) | _ => none
def zeroT (P : Program) (t : TypeId) : Option T := ((P.info? t).bind (·.zero)).map lift
def bytesT (P : Program) (t : TypeId) : Option Nat := (P.info? t).map (·.bytes)
structure Eff where
  val : T
  wr : List (Nat × Ob)
def takeCells (P : Program) (t : TypeId) (cs : List T) (j : Nat) : Rd T := do
  let n ← Rd.ofOption (szT P t)
  let a ← Rd.ofOption (aggT P t)
  guardR (decide (j + n ≤ cs.length))
  if a then pure (.agg ((cs.drop j).take n)) else Rd.ofOption cs[j]?
def splice (cs : List T) (j : Nat) (vs : List T) : List T := cs.take j ++ vs ++ cs.drop (j + vs.length)
def scOf : T → Option Value
  | .sc v => some v
  | _ => none
def intOf : T → Option Int
  | .sc (.int _ n) => some n
  | _ => none
def pureOf (s : Sem Value) : Option Value := match s with | .pure v => some v | _ => none
def scP (v : Value) : Option T := if plainB v then some (.sc v) else none
def cellT : T → Bool
  | .sc _ | .nil | .sl .. | .win .. | .ptr .. | .fn .. => true
  | _ => false
def refs1 : T → List Nat
  | .win o _ _ => [o]
  | .ptr o _ _ => [o]
  | .fn _ caps => caps.flatMap fun c => match c with | .ptr o _ _ => [o] | _ => []
  | _ => []
def refs : T → List Nat
  | .agg cs => cs.flatMap refs1
  | .tup ts => ts.flatMap fun t => match t with | .agg cs => cs.flatMap refs1 | t => refs1 t
  | t => refs1 t
def pass1 (lent : Bool) (t : T) : Rd (T × List (Nat × Nat)) :=
  match lent, t with
  | true, .win o off len => .ret (.win o off len, [])
  | true, .nil => .ret (.nil, [])
  | true, .dead => .ret (.dead, [])
  | _, .ptr o i j => .ret (.ptr o i j, [])
  | _, .fn f caps => do
    guardR (caps.all fun c => match c with | .ptr .. => true | _ => false)
    pure (.fn f caps, [])
  | _, t => do
    match ← view1 t with
    | .sl xs src => pure (.sl xs [], src)
    | t => pure (t, [])
def passT (lent : Bool) (t : T) : Rd (T × List (Nat × Nat)) :=
  match t with
  | .agg cs => do
    let l ← mapR (pass1 lent) cs
    pure (.agg (l.map (·.1)), l.flatMap (·.2))
  | t => pass1 lent t
def passAll : List Bool → List T → Rd (List (T × List (Nat × Nat)))
  | _, [] => .ret []
  | ls, t :: r => do
    let a ← passT (ls.headD false) t
    let s ← passAll ls.tail r
    pure (a :: s)
def passOb (x : Ob) : Rd (Ob × List (Nat × Nat)) :=
  if x.row then .ret (x, []) else do
    let l ← mapR (passT true) x.xs
    pure ({ x with xs := l.map (·.1) }, l.flatMap (·.2))
def reach : Nat → List Nat → List (Nat × Ob) → List (Nat × Nat) → Rd (List (Nat × Ob) × List (Nat × Nat))
  | _, [], done, vs => .ret (done, vs)
  | 0, _ :: _, _, _ => .fail
  | n + 1, o :: r, done, vs =>
    if done.any (·.1 == o) then reach n r done vs
    else do
      let x ← obj o
      guardR x.alive
      let y ← passOb x
      reach n (r ++ (if x.row then [] else y.1.xs.flatMap refs)) (done ++ [(o, y.1)]) (vs ++ y.2)
def mapC (f : Nat → Option Nat) (sg : List (Nat × Nat) → Option (List (Nat × Nat))) : T → T
  | .sl xs src => match sg src with | some s => .sl xs s | none => .dead
  | .win o off len => match f o with | some o' => .win o' off len | none => .dead
  | .ptr o i j => match f o with | some o' => .ptr o' i j | none => .dead
  | .rp x j src => match sg src with | some s => .rp x j s | none => .dead
  | .fn h caps => match caps.mapM (fun c => match c with | .ptr o i j => (f o).map fun o' => T.ptr o' i j | _ => none) with | some cs => .fn h cs | none => .dead
  | .sc v => .sc v
  | .nil => .nil
  | .ifc b => .ifc b
  | _ => .dead
def mapA (f : Nat → Option Nat) (sg : List (Nat × Nat) → Option (List (Nat × Nat))) : T → T
  | .agg cs => .agg (cs.map (mapC f sg))
  | t => mapC f sg t
def mapV (f : Nat → Option Nat) (sg : List (Nat × Nat) → Option (List (Nat × Nat))) : T → T
  | .tup ts => .tup (ts.map (mapA f sg))
  | t => mapA f sg t
def mapOb (f : Nat → Option Nat) (sg : List (Nat × Nat) → Option (List (Nat × Nat))) (x : Ob) : Ob := if x.row then x else { x with xs := x.xs.map (mapA f sg) }
def posIn : List Nat → Nat → Option Nat
  | [], _ => none
  | x :: r, o => if x = o then some 0 else (posIn r o).map (· + 1)
def verOf (xs : List Ob) (j : Nat) : Nat := ((xs[j]?).map (·.ver)).getD 0
structure Env where
  call : FuncId → List T → List Ob → Option (T × List Ob)
  lent : FuncId → List Bool
def room : Nat := 16
def flatL (xs : List T) : Bool := xs.all fun x => x.cells.all fun c => match c with | .sc _ => true | _ => false
def noSrc (l : List (Nat × Nat)) : Option (List (Nat × Nat)) := if l.isEmpty then some [] else none
def backN (L : List Nat) (base n : Nat) (j : Nat) : Option Nat := if j < L.length then L[j]? else if j < n then some (base + (j - L.length)) else none
def backS (L : List Nat) (base : Nat) (lv objs : List Ob) (S : List (Nat × Nat)) (src : List (Nat × Nat)) : Option (List (Nat × Nat)) :=
  (src.mapM fun p => if verOf objs p.1 = p.2 then (backN L base objs.length p.1).map fun o => (o, if p.1 < L.length then verOf lv p.1 + 1 else p.2) else none).map (· ++ S)
def callR (E : Env) (f : FuncId) (args : List T) (base : Nat) : Rd Eff := do
  let aas ← passAll (E.lent f) args
  let lv ← reach 64 ((aas.map (·.1)).flatMap refs) [] []
  let L := lv.1.map (·.1)
  let S := aas.flatMap (·.2) ++ lv.2
  guardR (S.all fun p => !L.contains p.1)
  let ro ← Rd.ofOption (E.call f (aas.map fun a => mapV (posIn L) noSrc a.1) (lv.1.map fun p => mapOb (posIn L) noSrc { p.2 with ver := 0 }))
  let m := L.length
  guardR (decide (m ≤ ro.2.length ∧ ro.2.length < m + room) && (S.isEmpty || ro.2.all fun x => !x.row || flatL x.xs) && ro.2.all fun x => x.may || !x.alive)
  let sg := backS L base (lv.1.map (·.2)) ro.2 S
  pure ⟨mapV (backN L base ro.2.length) sg ro.1, ro.2.zipIdx.map fun p => ((backN L base ro.2.length p.2).getD 0, { mapOb (backN L base ro.2.length) sg p.1 with ver := if p.2 < m then verOf (lv.1.map (·.2)) p.2 + 1 else p.1.ver })⟩
def loadR (P : Program) (t : TypeId) (a : T) : Rd T :=
  match a with
  | .ptr o i j => do
    let x ← obj o
    guardR x.alive
    let y ← Rd.ofOption x.xs[i]?
    takeCells P t y.cells j
  | .rp x j src => do
    chk src
    let y ← takeCells P t x.cells j
    match y with
    | .agg cs => pure (.agg (cs.map fun c => match c with | .sl xs _ => .sl xs src | c => c))
    | .sl xs _ => pure (.sl xs src)
    | y => pure y
  | _ => .fail
def closeIf (row : Bool) (v : T) : Rd T := if row then close v else .ret v
def storeR (P : Program) (t : TypeId) (a v : T) : Rd (List (Nat × Ob)) :=
  match a with
  | .ptr o i j => do
    let x ← obj o
    guardR (x.alive && x.may)
    let y ← Rd.ofOption x.xs[i]?
    let n ← Rd.ofOption (szT P t)
    let v ← closeIf x.row v
    guardR (v.cells.length == n && v.cells.all cellT && decide (j + n ≤ y.cells.length))
    pure [(o, { x with ver := x.ver + 1, xs := x.xs.set i (y.withCells (splice y.cells j v.cells)) })]
  | _ => .fail
def bound (v : T) (n : Nat) : Rd Nat := do
  let i ← Rd.ofOption (intOf v)
  guardR (decide (0 ≤ i ∧ i ≤ n))
  pure i.toNat
def wid (k : Nat) (xs : List T) : Bool := xs.all fun x => x.width == k
def hiB (hi : Option T) (n : Nat) : Rd Nat := match hi with | some v => bound v n | none => .ret n
def loB (lo : Option T) (n : Nat) : Rd Nat := match lo with | some v => bound v n | none => .ret 0
def sliceR (P : Program) (t : TypeId) (x : T) (lo hi mx : Option T) : Rd T := do
  guardR mx.isNone
  match x with
  | .sc (.string s) => do
    guardR (match P.underlying t with | some .string => true | _ => false)
    let h ← hiB hi s.size
    let l ← loB lo h
    pure (.sc (.string (s.extract l h)))
  | .nil => do
    let e ← Rd.ofOption (elemT P t)
    let _ ← Rd.ofOption (szT P e)
    let h ← hiB hi 0
    let _ ← loB lo h
    pure .nil
  | .sl xs src => do
    let e ← Rd.ofOption (elemT P t)
    let k ← Rd.ofOption (szT P e)
    guardR (wid k xs)
    let h ← hiB hi xs.length
    let l ← loB lo h
    pure (.sl ((xs.take h).drop l) src)
  | .win o off len => do
    let e ← Rd.ofOption (elemT P t)
    let k ← Rd.ofOption (szT P e)
    let ob ← obj o
    guardR (ob.k == k)
    let h ← hiB hi len
    let l ← loB lo h
    pure (.win o (off + l) (h - l))
  | _ => .fail
def indexAddrR (P : Program) (t : TypeId) (x ix : T) : Rd T := do
  let i ← Rd.ofOption (intOf ix)
  match x with
  | .sl xs src => do
    let e ← Rd.ofOption (elemT P t)
    let k ← Rd.ofOption (szT P e)
    guardR (decide (0 ≤ i))
    let y ← Rd.ofOption xs[i.toNat]?
    guardR (y.width == k)
    pure (.rp y 0 src)
  | .win o off len => do
    let e ← Rd.ofOption (elemT P t)
    let k ← Rd.ofOption (szT P e)
    let ob ← obj o
    guardR (ob.k == k && decide (0 ≤ i ∧ i < len))
    pure (.ptr o (off + i.toNat) 0)
  | _ => .fail
def most : Nat := 70368744177664
def elemsR (x : T) : Rd (List T) :=
  match x with
  | .nil => .ret []
  | .win o off len => do
    let ob ← obj o
    guardR (ob.alive && ob.row && decide (off + len ≤ ob.xs.length))
    pure ((ob.xs.drop off).take len)
  | .sl xs [] => .ret xs
  | .sl xs src => do
    chk src
    guardR (flatL xs)
    pure xs
  | .sc (.string s) => .ret (s.data.toList.map fun b => .sc (.int .u8 b.toNat))
  | _ => .fail
def strR (P : Program) (e : TypeId) (k : Nat) (tx : TypeId) : Rd Bool := match P.underlying tx with
  | some (.slice e') => if e' = e then .ret false else .fail
  | some .string => if k = 1 then .ret true else .fail
  | _ => .fail
def newsR (x : T) (str : Bool) : Rd (List T) := match x, str with
  | .sc _, true => elemsR x
  | .sl _ _, false => elemsR x
  | .win _ _ _, false => elemsR x
  | .nil, false => elemsR x
  | _, _ => .fail
def appendR (P : Program) (ts : Array TypeId) (a x : T) (base : Nat) : Rd Eff := do
  let e ← Rd.ofOption ((ts[0]?).bind (elemT P))
  let k ← Rd.ofOption (szT P e)
  let by_ ← Rd.ofOption (bytesT P e)
  let z ← Rd.ofOption (zeroT P e)
  let tx ← Rd.ofOption ts[1]?
  let str ← strR P e k tx
  let ns ← newsR x str
  guardR (wid k ns && z.width == k)
  match a with
  | .nil => do
    guardR (decide (ns.length * by_ ≤ most ∧ ns.length ≤ most))
    pure ⟨.win base 0 ns.length, [(base, Ob.mkRow k ns)]⟩
  | .win o 0 len => do
    let ob ← obj o
    guardR (ob.alive && ob.may && ob.row && ob.k == k && decide (len ≤ ob.xs.length) && decide ((len + ns.length) * by_ ≤ most ∧ len + ns.length ≤ most))
    pure ⟨.win base 0 (len + ns.length), [(o, ob.kill), (base, Ob.mkRow k (ob.xs.take len ++ ns))]⟩
  | _ => .fail
def lenR (P : Program) (ts : Array TypeId) (x : T) : Rd T := do
  let t ← Rd.ofOption ts[0]?
  match P.underlying t, x with
  | some .string, .sc (.string s) => pure (.sc (.int .i64 s.size))
  | some (.slice _), .nil => pure (.sc (.int .i64 0))
  | some (.slice _), .sl xs src => do chk src; pure (.sc (.int .i64 xs.length))
  | some (.slice _), .win _ _ len => pure (.sc (.int .i64 len))
  | some (.array n _), _ => pure (.sc (.int .i64 n))
  | _, _ => .fail
def fillR (P : Program) (fs : List (Nat × Nat)) (cells : List T) : List (Nat × T) → Option (List T)
  | [] => some cells
  | (i, v) :: r => match fs[i]? with
    | some (off, n) => if v.cells.length = n ∧ off + n ≤ cells.length then fillR P fs (splice cells off v.cells) r else none
    | none => none
def fieldsT (P : Program) (t : TypeId) : Option (List (Nat × Nat)) := match P.underlying t with
  | some (.struct fs) => fs.toList.mapM fun f => (szT P f.type).map fun n => (f.offset, n)
  | some (.array n e) => (szT P e).map fun k => (List.range n).map fun i => (i * k, k)
  | _ => none
def buildR (P : Program) (t : TypeId) (parts : List (Nat × T)) : Rd T := do
  let z ← Rd.ofOption (zeroT P t)
  let fs ← Rd.ofOption (fieldsT P t)
  guardR (z.cells.all cellT && parts.all fun p => p.2.cells.all cellT)
  let cs ← Rd.ofOption (fillR P fs z.cells parts)
  pure (.agg cs)
def setAll (xs : List T) : List (Nat × T) → List T
  | [] => xs
  | (i, v) :: r => setAll (xs.set i v) r
def buildSliceR (P : Program) (t : TypeId) (n : Nat) (parts : List (Nat × T)) (base : Nat) : Rd Eff := do
  let e ← Rd.ofOption (elemT P t)
  let k ← Rd.ofOption (szT P e)
  let z ← Rd.ofOption (zeroT P e)
  guardR (decide (n * k ≤ 4096) && decide (0 < k))
  let ps ← mapR (fun p => do let v ← close p.2; pure (p.1, v)) parts
  let zc ← close z
  guardR (ps.all (fun p => decide (p.1 < n) && p.2.width == k) && zc.width == k)
  pure ⟨.win base 0 n, [(base, Ob.mkRow k (setAll (List.replicate n zc) ps))]⟩
def makeSliceR (P : Program) (t : TypeId) (l c : T) (base : Nat) : Rd Eff := do
  let e ← Rd.ofOption (elemT P t)
  let k ← Rd.ofOption (szT P e)
  let z ← Rd.ofOption (zeroT P e)
  let by_ ← Rd.ofOption (bytesT P e)
  let n ← Rd.ofOption (intOf l)
  let m ← Rd.ofOption (intOf c)
  guardR (decide (0 ≤ n ∧ n ≤ m ∧ m * by_ ≤ most ∧ m ≤ most) && decide (0 < k))
  let zc ← close z
  guardR (zc.width == k)
  pure ⟨.win base 0 n.toNat, [(base, Ob.mkRow k (List.replicate n.toNat zc))]⟩
def copyR (P : Program) (ts : Array TypeId) (d x : T) : Rd Eff := do
  let e ← Rd.ofOption ((ts[0]?).bind (elemT P))
  let k ← Rd.ofOption (szT P e)
  guardR (scOf x).isNone
  let tx ← Rd.ofOption ts[1]?
  let ns ← elemsR x
  guardR (wid k ns && (elemT P tx).isSome)
  match d with
  | .win o off len => do
    let ob ← obj o
    guardR (ob.alive && ob.may && ob.row && ob.k == k && decide (off + len ≤ ob.xs.length))
    let n := min ns.length len
    pure ⟨.sc (.int .i64 n), [(o, { ob with ver := ob.ver + 1, xs := ob.xs.take off ++ ns.take n ++ ob.xs.drop (off + n) })]⟩
  | .nil => pure ⟨.sc (.int .i64 0), []⟩
  | _ => .fail
def bytesOf : List T → Option (List UInt8)
  | [] => some []
  | .sc (.int .u8 b) :: r => (bytesOf r).map fun l => UInt8.ofNat b.toNat :: l
  | _ => none
def undT : T := .tup []
def strEq (x y : ByteArray) : Bool := x.toList == y.toList
def eqSc (P : Program) (t : TypeId) (x y : T) : Option Bool := match P.underlying t, x, y with
  | some (.int _), .sc (.int k a), .sc (.int k' b) => if k = k' then some (decide (a = b)) else none
  | some .bool, .sc (.bool a), .sc (.bool b) => some (a == b)
  | some .string, .sc (.string a), .sc (.string b) => some (strEq a b)
  | _, _, _ => none
def eqFs (P : Program) (xs ys : List T) : List (Nat × TypeId) → Option Bool
  | [] => some true
  | (o, t) :: r => match xs[o]?, ys[o]? with
    | some x, some y => match eqSc P t x y, eqFs P xs ys r with
      | some a, some b => some (a && b)
      | _, _ => none
    | _, _ => none
def eqT (P : Program) (t : TypeId) : Option (List (Nat × TypeId)) := match P.underlying t with
  | some (.struct fs) => if !P.eqGuardType P.depth t && !P.stoodInHeld t && fs.toList.all (fun f => f.name != "_" && aggT P f.type == some false) then some (fs.toList.map fun f => (f.offset, f.type)) else none
  | _ => none
def opR (P : Program) (E : Env) (tmps : List T) (base : Nat) (o : Oper) : Rd Eff :=
  let ev := evalT tmps
  let v (r : Rd T) : Rd Eff := do pure ⟨← r, []⟩
  match o.op with
  | .move x | .assign x => .ret ⟨ev x, []⟩
  | .pick c a b => match ev c with
    | .sc (.bool t) => .ret ⟨if t then ev a else ev b, []⟩
    | _ => .fail
  | .alloc t => do
    let z ← Rd.ofOption (zeroT P t)
    let n ← Rd.ofOption (szT P t)
    guardR (z.width == n && z.cells.all cellT)
    pure ⟨.ptr base 0 0, [(base, Ob.mkBox n z)]⟩
  | .box t x => do
    let n ← Rd.ofOption (szT P t)
    guardR ((ev x).width == n && (ev x).cells.all cellT)
    pure ⟨.ptr base 0 0, [(base, Ob.mkBox n (ev x))]⟩
  | .build t ps => v (buildR P t (ps.toList.map fun p => (p.1, ev p.2)))
  | .buildSlice t n ps => buildSliceR P t n (ps.toList.map fun p => (p.1, ev p.2)) base
  | .load t a => v (match a with | .global _ => takeCells P t [] 0 | _ => loadR P t (ev a))
  | .store t a x => do pure ⟨undT, ← storeR P t (ev a) (ev x)⟩
  | .nilCheck x => match ev x with
    | .ptr o i j => .ret ⟨.ptr o i j, []⟩
    | .rp x j s => .ret ⟨.rp x j s, []⟩
    | .fn f c => .ret ⟨.fn f c, []⟩
    | _ => .fail
  | .binOp op t x y _ => v (match ev x, ev y with
    | .sc (.bool a), .sc (.bool b) => do
      let r ← Rd.ofOption (eqSc P t (.sc (.bool a)) (.sc (.bool b)))
      match op with
      | .eql => pure (.sc (.bool r))
      | .neq => pure (.sc (.bool !r))
      | _ => .fail
    | .sc a, .sc b => if plainB a && plainB b then Rd.ofOption ((pureOf (binOp op t a b)).bind scP) else .fail
    | .ifc b, .ifc _ => (match P.underlying t, y, op with
      | some (.interface _), .const .nilIface, .eql => pure (.sc (.bool !b))
      | some (.interface _), .const .nilIface, .neq => pure (.sc (.bool b))
      | _, _, _ => .fail)
    | .agg xs, .agg ys => do
      let fs ← Rd.ofOption (eqT P t)
      let b ← Rd.ofOption (eqFs P xs ys fs)
      match op with
      | .eql => pure (.sc (.bool b))
      | .neq => pure (.sc (.bool !b))
      | _ => .fail
    | _, _ => .fail)
  | .unOp op _ x => v (match ev x with
    | .sc a => if plainB a then Rd.ofOption ((pureOf (Op.unary op a)).bind scP) else .fail
    | _ => .fail)
  | .convert src dst x => match ev x, P.underlying src, P.underlying dst with
    | .sc (.int _ n), some (.int _), some (.int k) => v (Rd.ofOption ((pureOf (Conv.intToInt k n)).map .sc))
    | .sc (.string s), some .string, some .string => .ret ⟨.sc (.string s), []⟩
    | .sc (.string s), some .string, some (.slice e) => do
      guardR (match P.underlying e with | some (.int .u8) => true | _ => false)
      guardR (softOk && (szT P e == some 1 && bytesT P e == some 1 && decide (s.size ≤ most)))
      pure ⟨.win base 0 s.size, [(base, Ob.mkRow 1 (s.data.toList.map fun b => .sc (.int .u8 b.toNat)))]⟩
    | x, some (.slice e), some .string => do
      guardR (match P.underlying e with | some (.int .u8) => true | _ => false)
      let ns ← elemsR x
      let bs ← Rd.ofOption (bytesOf ns)
      guardR ((scOf x).isNone && wid 1 ns)
      pure ⟨.sc (.string ⟨bs.toArray⟩), []⟩
    | _, _, _ => .fail
  | .makeFunc (.func f) first caps => do
    guardR (first.size == 0 && (caps.toList.map ev).all fun c => match c with | .ptr .. => true | _ => false)
    pure ⟨.fn f (caps.toList.map ev), []⟩
  | .makeSlice t l c => makeSliceR P t (ev l) (ev c) base
  | .slice t x lo hi mx => v (sliceR P t (ev x) (lo.map ev) (hi.map ev) (mx.map ev))
  | .fieldAddr t x f => v (do
    let ft ← Rd.ofOption (fieldT P t f)
    let n ← Rd.ofOption (szT P ft.2)
    guardR (decide (0 < n))
    match ev x with
    | .ptr o i j => pure (.ptr o i (j + ft.1))
    | .rp x j src => pure (.rp x (j + ft.1) src)
    | _ => .fail)
  | .field t x f => v (do
    let ft ← Rd.ofOption (fieldT P t f)
    match ev x with
    | .agg cs => takeCells P ft.2 cs ft.1
    | _ => .fail)
  | .indexAddr t x ix => v (indexAddrR P t (ev x) (ev ix))
  | .index t x ix => v (match ev x, ev ix, P.underlying t with
    | .sc (.string s), .sc (.int _ i), some .string => if 0 ≤ i then Rd.ofOption ((s[i.toNat]?).map fun b => .sc (.int .u8 b.toNat)) else .fail
    | _, _, _ => .fail)
  | .extract x i => v (match ev x with
    | .tup ts => Rd.ofOption ts[i]?
    | _ => .fail)
  | .call c => match c.callee with
    | .builtin .append => match c.args.toList.map ev with
      | [a, x] => if c.argTypes.size = 2 then appendR P c.argTypes a x base else .fail
      | _ => .fail
    | .builtin .len => match c.args.toList.map ev with
      | [x] => v (lenR P c.argTypes x)
      | _ => .fail
    | .builtin .copy => match c.args.toList.map ev with
      | [d, x] => copyR P c.argTypes d x
      | _ => .fail
    | .builtin .min => v (match (c.args.toList.map ev).mapM scOf with
      | some vs => if vs.all plainB then Rd.ofOption ((pureOf (Builtin.min_ c.argTypes o.type vs.toArray)).bind scP) else .fail
      | none => .fail)
    | .builtin .max => v (match (c.args.toList.map ev).mapM scOf with
      | some vs => if vs.all plainB then Rd.ofOption ((pureOf (Builtin.max_ c.argTypes o.type vs.toArray)).bind scP) else .fail
      | none => .fail)
    | .value f => match ev f with
      | .fn g caps => callR E g (c.args.toList.map ev ++ caps) base
      | _ => .fail
    | _ => .fail
  | _ => .fail
def wantR (ops : Array Oper) (tmps : List T) (o : Oper) : Option Bool :=
  match o.guard with
  | none => some true
  | some (j, want) => match ((ops[j]?).bind (·.dst)).bind (tmps[·]?) with
    | some (.sc (.bool b)) => some (b == want)
    | some (.tup []) => some false
    | _ => none
def putT (tmps : List T) (dst : Option Tmp) (t : T) : List T := match dst with | some d => tmps.set d t | none => tmps
structure Log where
  i : Nat
  rd : List Nat
  wr : List Nat
def wrOk (look : Nat → Ob) (base : Nat) (wr : List (Nat × Ob)) : Bool := wr.all fun p => (look p.1).born || (decide (base ≤ p.1) && decide (p.1 < base + room))
def stepR (P : Program) (E : Env) (ops : Array Oper) (nx : Nat) (i : Nat) (o : Oper) (s : St) : Option (St × Log) :=
  match wantR ops s.tmps o with
  | none => none
  | some false => some ({ s with tmps := putT s.tmps o.dst undT }, ⟨i, [], []⟩)
  | some true => match (opR P E s.tmps (nx + room * i) o).run (lookIn s.store) with
    | none => none
    | some (e, l) => if wrOk (lookIn s.store) (nx + room * i) e.wr then some ({ s with tmps := putT s.tmps o.dst e.val, store := putAll s.store e.wr }, ⟨i, l, e.wr.map (·.1)⟩) else none
def runOps (P : Program) (E : Env) (ops : Array Oper) (nx : Nat) : Nat → List Oper → St → Option (St × List Log)
  | _, [], s => some (s, [])
  | i, o :: r, s => match stepR P E ops nx i o s with
    | none => none
    | some (s', l) => match runOps P E ops nx (i + 1) r s' with
      | none => none
      | some (s'', ls) => some (s'', l :: ls)
def predsR : List Oper → List (List Nat) → List (List Nat)
  | [], acc => acc
  | o :: r, acc =>
    let d := (o.after.toList.filter (Region.binds .any)).map (·.on)
    predsR r (acc ++ [d ++ d.flatMap fun i => acc.getD i []])
def meets (a b : List Nat) : Bool := a.any b.contains
def apartR (ops : Array Oper) (ps : List (List Nat)) : Bool :=
  (List.range ops.size).all fun j => (List.range j).all fun i =>
    (ps.getD j []).contains i || (match ops[i]?, ops[j]? with | some x, some y => Oper.apart ops x y | _, _ => false)
def backR (ops : Array Oper) : Bool :=
  (List.range ops.size).all fun j => match ops[j]? with | some o => o.after.all fun e => !Region.binds .any e || decide (e.on < j) | none => false
def logsR (ps : List (List Nat)) : List Log → Bool
  | [] => true
  | l :: r => (r.all fun m => (ps.getD m.i []).contains l.i || !(meets l.wr m.rd || meets l.wr m.wr || meets m.wr l.rd)) && logsR ps r
def okOps (ops : Array Oper) : Bool := backR ops && apartR ops (predsR ops.toList []) && Region.noSelect ops
def Log.bare (l : Log) : Bool := l.rd.isEmpty && l.wr.isEmpty
def regionR (P : Program) (E : Env) (ps : List (List Nat)) (ops : Array Oper) (draw : Bool) (s : St) : Option St :=
  match runOps P E ops s.nx 0 ops.toList s with
  | none => none
  | some (s', logs) => if draw && !logsR ps (logs.filter fun l => !l.bare) then none else some { s' with nx := s.nx + room * ops.size }
def findK {α : Type} : List (Nat × α) → Nat → Option α
  | [], _ => none
  | (k, x) :: r, i => if k = i then some x else findK r i
structure FCert where
  lent : List Bool
  own : Bool
  keep : List (Nat × List (Nat × Nat))
  preds : List (Nat × List (List Nat))
def FCert.predsOf (F : FCert) (id : Nat) : List (List Nat) := (findK F.preds id).getD []
def okPreds (ps qs : List (List Nat)) : Bool := (List.range ps.length).all fun j => (ps.getD j []).all fun i => (qs.getD j []).contains i
def okCode (F : FCert) : Code → Bool
  | .region id ops draw => !draw || (okOps ops && okPreds (F.predsOf id) (predsR ops.toList []))
  | .seq a b => okCode F a && okCode F b
  | .cond _ a b => okCode F a && okCode F b
  | .block _ b => okCode F b
  | .loop b => okCode F b
  | _ => true
def validB (look : Nat → Ob) (src : List (Nat × Nat)) : Bool := src.all fun p => (look p.1).alive && (look p.1).ver == p.2
def pickTmps (keep : List (Nat × Bool)) (look : Nat → Ob) : Nat → List T → List T
  | _, [] => []
  | i, t :: r => (match keep.find? (·.1 == i) with
    | none => .dead
    | some (_, false) => t
    | some (_, true) => match t with
      | .nil => .sl [] []
      | .win o off len => let x := look o
        if x.alive && x.row && decide (off + len ≤ x.xs.length) then .sl ((x.xs.drop off).take len) (if x.may then [(o, x.ver)] else []) else .dead
      | t => t) :: pickTmps keep look (i + 1) r
def reachN (look : Nat → Ob) : Nat → List Nat → List Nat → List Nat
  | 0, _, done => done
  | _, [], done => done
  | n + 1, o :: r, done => if done.contains o || !(look o).alive then reachN look n r done else
    reachN look n (r ++ (if (look o).row then [] else (look o).xs.flatMap refs)) (done ++ [o])
def srcN (K : List Nat) (look : Nat → Ob) (v : Nat → Nat) (l : List (Nat × Nat)) : Option (List (Nat × Nat)) :=
  if validB look l then some (l.filterMap fun p => (posIn K p.1).map fun j => (j, v p.2)) else none
def normB (keep : List (Nat × Bool)) (s : St) : St :=
  let look := lookIn s.store
  let ts := pickTmps keep look 0 s.tmps
  let K := List.range s.m ++ (reachN look 64 (List.range s.m ++ ts.flatMap refs) []).filter fun o => !decide (o < s.m)
  let sg := srcN K look fun _ => 0
  { tmps := ts.map (mapV (posIn K) sg)
    store := K.zipIdx.map fun p => (p.2, { mapOb (posIn K) sg (look p.1) with ver := 0 })
    nx := K.length
    m := s.m }
def fresh1 (q k : Nat) (s : St) : St := match s.tmps[q]? with
  | some .nil => { s with tmps := s.tmps.set q (.win s.nx 0 0), store := putAll s.store [(s.nx, Ob.mkRow k [])], nx := s.nx + 1 }
  | _ => s
def freshR : List (Nat × Nat) → St → St
  | [], s => s
  | (q, k) :: r, s => freshR r (if k < 2 then s else fresh1 q (k - 2) s)
def normR (keep : List (Nat × Nat)) (s : St) : St := normB (keep.map fun p => (p.1, p.2 == 1)) (freshR keep s)
inductive Ex where
  | normal
  | exit (id : Nat)
  | ret
  deriving DecidableEq
def iter (body : St → Option (Ex × St)) : Nat → St → Option (Ex × St)
  | 0, _ => none
  | n + 1, s => match body s with
    | some (.normal, s') => iter body n s'
    | r => r
def exec (P : Program) (E : Env) (cert : FCert) (n : Nat) : Code → St → Option (Ex × St)
  | .skip, s => some (.normal, s)
  | .region id ops draw, s => (regionR P E (cert.predsOf id) ops draw (match findK cert.keep id with | some k => normR k s | none => s)).map fun s' => (.normal, s')
  | .seq a b, s => match exec P E cert n a s with
    | some (.normal, s') => exec P E cert n b s'
    | r => r
  | .cond c a b, s => match evalT s.tmps c with
    | .sc (.bool t) => if t then exec P E cert n a s else exec P E cert n b s
    | _ => none
  | .block id b, s => match exec P E cert n b s with
    | some (.exit j, s') => some (if j = id then .normal else .exit j, s')
    | r => r
  | .loop b, s => iter (exec P E cert n b) n s
  | .exit id, s => some (.exit id, s)
  | .ret, s => some (.ret, s)
  | _, _ => none
def resR (P : Program) (fn : Func) (s : St) : Rd T := do
  let vs ← mapR (fun r => match r with
    | .tmp t => Rd.ret ((s.tmps[t]?).getD .dead)
    | .cell a t => loadR P t ((s.tmps[a]?).getD .dead)) fn.results.toList
  match vs with
  | [v] => pure v
  | vs => pure (.tup vs)
def cellKs (P : Program) : Nat → TypeId → Option (List (Option Nat))
  | 0, _ => none
  | n + 1, t => match P.underlying t with
    | some (.slice e) => (szT P e).map fun k => [some k]
    | some (.struct fs) => (fs.toList.mapM fun f => cellKs P n f.type).map List.flatten
    | some (.array m e) => (cellKs P n e).map fun l => (List.replicate m l).flatten
    | some _ => some [none]
    | none => none
def outCell (own : Bool) (m : Nat) (look : Nat → Ob) (k : Option Nat) (t : T) (nx : Nat) : Option (T × Nat × List (Nat × Ob)) :=
  match k, t with
  | some k, .nil => if own then some (.win nx 0 0, nx + 1, [(nx, Ob.mkRow k [])]) else some (.sl [] [], nx, [])
  | some _, .win o off len => if own || decide (o < m) then some (.win o off len, nx, []) else
      if (look o).alive && (look o).row && decide (off + len ≤ (look o).xs.length) then some (.sl (((look o).xs.drop off).take len) (if (look o).may then [(o, (look o).ver)] else []), nx, []) else none
  | some _, .sl xs src => if validB look src then some (.sl xs src, nx, []) else none
  | none, .sc v => some (.sc v, nx, [])
  | none, .ptr o i j => some (.ptr o i j, nx, [])
  | none, .fn f c => some (.fn f c, nx, [])
  | _, _ => none
def outCells (own : Bool) (m : Nat) (look : Nat → Ob) : List (Option Nat) → List T → Nat → Option (List T × Nat × List (Nat × Ob))
  | [], [], nx => some ([], nx, [])
  | k :: ks, t :: ts, nx => match outCell own m look k t nx with
    | none => none
    | some p => match outCells own m look ks ts p.2.1 with
      | none => none
      | some q => some (p.1 :: q.1, q.2.1, p.2.2 ++ q.2.2)
  | _, _, _ => none
def outOne (P : Program) (own : Bool) (m : Nat) (look : Nat → Ob) (ty : TypeId) (t : T) (nx : Nat) : Option (T × Nat × List (Nat × Ob)) :=
  match cellKs P 8 ty with
  | none => none
  | some ks => match t with
    | .agg cs => (outCells own m look ks cs nx).map fun p => (.agg p.1, p.2)
    | t => match ks with
      | [k] => outCell own m look k t nx
      | _ => none
def outMany (P : Program) (own : Bool) (m : Nat) (look : Nat → Ob) : List TypeId → List T → Nat → Option (List T × Nat × List (Nat × Ob))
  | [], [], nx => some ([], nx, [])
  | ty :: tys, t :: ts, nx => match outOne P own m look ty t nx with
    | none => none
    | some p => match outMany P own m look tys ts p.2.1 with
      | none => none
      | some q => some (p.1 :: q.1, q.2.1, p.2.2 ++ q.2.2)
  | _, _, _ => none
def outAll (P : Program) (own : Bool) (m : Nat) (look : Nat → Ob) (tys : List TypeId) (r : T) (nx : Nat) : Option (T × Nat × List (Nat × Ob)) :=
  match tys with
  | [ty] => outOne P own m look ty r nx
  | tys => match r with
    | .tup rs => (outMany P own m look tys rs nx).map fun p => (.tup p.1, p.2)
    | _ => none
def giveR (P : Program) (fn : Func) (own : Bool) (m : Nat) (s : St) : Option (T × List Ob) :=
  match (resR P fn s).run (lookIn s.store) with
  | none => none
  | some p => match outAll P own m (lookIn s.store) fn.resultTypes.toList p.1 s.nx with
    | none => none
    | some q =>
      let look := lookIn (putAll s.store q.2.2)
      let K := List.range m ++ (reachN look 64 (List.range m ++ refs q.1) []).filter fun o => !decide (o < m)
      let sg := srcN K look fun _ => 0
      some (mapV (posIn K) sg q.1, K.map fun o => { mapOb (posIn K) sg (look o) with ver := 0 })
abbrev Cert := FuncId → FCert
def callF (P : Program) (C : Cert) (prim : FuncId → Option (List T → List Ob → Option (T × List Ob))) : Nat → FuncId → List T → List Ob → Option (T × List Ob)
  | 0, _, _, _ => none
  | n + 1, f, args, objs => match prim f with
    | some d => d args objs
    | none => match P.funcs[f]? with
      | none => none
      | some fn => match fn.body with
        | none => none
        | some c => if okCode (C f) c then (match exec P ⟨callF P C prim n, fun f => (C f).lent⟩ (C f) n c
            { tmps := args ++ List.replicate (fn.ntmps - args.length) undT, store := objs.zipIdx.map fun p => (p.2, p.1), nx := objs.length, m := objs.length } with
          | some (.normal, s) => giveR P fn (C f).own objs.length s
          | some (.ret, s) => giveR P fn (C f).own objs.length s
          | _ => none) else none
end Go.Proofs.YtmjmoagmolgacaaGreatDoor.PM
namespace Go.Proofs.YtmjmoagmolgacaaGreatDoor.PM
open Go
def csz (w : World) (b : Nat) : Nat := match w.heap[b]? with | some (.cells c _ _) => c.size | _ => 0
inductive ShV (w : World) (A : Nat → Prop) : Value → T → Prop
 | sc {v : Value} (h : plainB v = true) : ShV w A v (.sc v)
 | empty {a : Option Addr} {cap : Nat} : ShV w A (.slice a 0 cap) (.sl [] [])
 | sl {b off cap k : Nat} {xs : List T} {cs : Nat → Nat → Value} (hA : A b) (hl : xs.length ≤ cap) (hw : ∀ (i : Nat) x, xs[i]? = some x → x.width = k)
  (hc : ∀ (i : Nat) x, xs[i]? = some x → ∀ (j : Nat) t, x.cells[j]? = some t → w.cell? ⟨b, off + i * k + j, none⟩ = some (cs i j))
  (hv : ∀ (i : Nat) x, xs[i]? = some x → ∀ (j : Nat) t, x.cells[j]? = some t → ShV w A (cs i j) t) : ShV w A (.slice (some ⟨b, off, none⟩) xs.length cap) (.sl xs [])
theorem cell_of_heap {w w' : World} {b : Nat} (h : w'.heap[b]? = w.heap[b]?) (o : Nat) : w'.cell? ⟨b, o, none⟩ = w.cell? ⟨b, o, none⟩ := World.cell?_of_block (a := ⟨b, o, none⟩) h
theorem ShV.mono {w w' : World} {A A' : Nat → Prop} {v : Value} {t : T} (h : ShV w A v t) (hA : ∀ b, A b → A' b ∧ w'.heap[b]? = w.heap[b]?) : ShV w' A' v t := by
 induction h with
 | sc h => exact .sc h
 | empty => exact .empty
 | sl a hl hw hc hv ih => exact .sl (hA _ a).1 hl hw (fun i x hx j t ht => (cell_of_heap (hA _ a).2 _).trans (hc i x hx j t ht)) ih
section
variable (w : World) (g : Nat → Option Nat) (look : Nat → Ob) (N : Nat → Prop)
def okSrc (src : List (Nat × Nat)) : Prop := ∀ p ∈ src, (look p.1).born = true ∧ p.2 ≤ (look p.1).ver
def valid (src : List (Nat × Nat)) : Prop := ∀ p ∈ src, (look p.1).alive = true ∧ (look p.1).ver = p.2
def srcA (src : List (Nat × Nat)) (b : Nat) : Prop := N b ∨ ∃ p ∈ src, g p.1 = some b
def SlV (n : Nat) (v : Value) : Prop := ∃ a cap, v = .slice a n cap ∧ n ≤ cap ∧ (n = 0 ∨ ∃ b off, a = some ⟨b, off, none⟩)
def PtrV (o i j : Nat) (v : Value) : Prop := (look o).born = true ∧ (∃ b off, v = .pointer (some ⟨b, off, none⟩)) ∧ ((look o).alive = true → ∃ b, g o = some b ∧ v = .pointer (some ⟨b, i * (look o).k + j, none⟩))
def WinV (o off len : Nat) (v : Value) : Prop := (look o).born = true ∧ SlV len v ∧ ((look o).alive = true → ∃ a cap, v = .slice a len cap ∧ len ≤ cap ∧ (cap = 0 ∨ ∃ b, g o = some b ∧ a = some ⟨b, off * (look o).k, none⟩ ∧ (off + cap) * (look o).k ≤ csz w b))
def RpV (x : T) (j : Nat) (src : List (Nat × Nat)) (v : Value) : Prop := (∃ b off, v = .pointer (some ⟨b, off, none⟩)) ∧ okSrc look src ∧ (valid look src → ∃ b off, srcA g N src b ∧ v = .pointer (some ⟨b, off + j, none⟩) ∧ ∀ (j' : Nat) t, x.cells[j']? = some t → ∃ c, w.cell? ⟨b, off + j', none⟩ = some c ∧ ShV w (srcA g N src) c t)
def FrC (v : Value) : T → Prop
 | .sc u => v = u ∧ plainB u = true
 | .nil => ∃ a, v = .slice a 0 0
 | .sl xs src => SlV xs.length v ∧ okSrc look src ∧ (valid look src → ShV w (srcA g N src) v (.sl xs []))
 | .win o off len => WinV w g look o off len v
 | .ptr o i j => PtrV g look o i j v
 | .rp x j src => RpV w g look N x j src v
 | .fn f caps => ∃ vs : Array Value, v = .func (.func f) #[] vs ∧ vs.size = caps.length ∧ ∀ (i : Nat) c, caps[i]? = some c → ∃ u o i' j', vs[i]? = some u ∧ c = .ptr o i' j' ∧ PtrV g look o i' j' u
 | .ifc b => if b = true then ∃ u x, v = .iface u x else v = .nilIface
 | .dead => True
 | .agg _ | .tup _ => False
def FrA (v : Value) : T → Prop
 | .agg cs => ∃ vs : Array Value, v = .agg vs ∧ vs.size = cs.length ∧ ∀ (i : Nat) c, cs[i]? = some c → ∃ u, vs[i]? = some u ∧ FrC w g look N u c
 | t => FrC w g look N v t
def FrV (v : Value) : T → Prop
 | .tup ts => ∃ vs : Array Value, v = .tuple vs ∧ vs.size = ts.length ∧ ∀ (i : Nat) c, ts[i]? = some c → ∃ u, vs[i]? = some u ∧ FrA w g look N u c
 | t => FrA w g look N v t
def CellV (row : Bool) (v : Value) (t : T) : Prop := if row then ShV w N v t else FrC w g look N v t ∧ v.oneCell' = true
def RootV (o : Nat) : Prop := (look o).alive = true → (look o).born = true ∧ match g o with
 | none => (look o).xs = [] ∧ (look o).row = true
 | some b => ∃ c E fr, w.heap[b]? = some (.cells c E fr) ∧ (∀ i, (i < c.size ∨ 2 ≤ (look o).k ∨ softOk = false) → w.frozen? ⟨b, i, none⟩ = false) ∧
  ∀ (i : Nat) x, (look o).xs[i]? = some x → x.width = (look o).k ∧ ∀ (j : Nat) t, x.cells[j]? = some t → ∃ v, c[i * (look o).k + j]? = some v ∧ CellV w g look N (look o).row v t
def Own (o : Nat) : Prop := (look o).alive = true ∧ (look o).may = true
end
structure Ext (w : World) (g : Nat → Option Nat) (look : Nat → Ob) (N : Nat → Prop) (w' : World) (g' : Nat → Option Nat) (look' : Nat → Ob) (N' : Nat → Prop) : Prop where
 n : ∀ b, N b → N' b ∧ w'.heap[b]? = w.heap[b]?
 o : ∀ o, (look o).born = true → (look' o).born = true ∧ (look o).ver ≤ (look' o).ver ∧ ((look' o).alive = true → (look o).alive = true ∧ (look' o).k = (look o).k ∧ g' o = g o ∧ ∀ b, g o = some b → csz w' b = csz w b ∧ ((look' o).ver = (look o).ver → w'.heap[b]? = w.heap[b]?))
section
variable {w w' : World} {g g' : Nat → Option Nat} {look look' : Nat → Ob} {N N' : Nat → Prop}
theorem Ext.okSrc (E : Ext w g look N w' g' look' N') {src : List (Nat × Nat)} (h : okSrc look src) : okSrc look' src := fun p hp =>
 let ⟨hb, hv⟩ := h p hp
 let ⟨hb', hv', _⟩ := E.o p.1 hb
 ⟨hb', Nat.le_trans hv hv'⟩
theorem Ext.valid (E : Ext w g look N w' g' look' N') {src : List (Nat × Nat)} (h : PM.okSrc look src) (hv : valid look' src) : valid look src := fun p hp => by
 obtain ⟨hb, hle⟩ := h p hp
 obtain ⟨_, hv', hal⟩ := E.o p.1 hb
 obtain ⟨ha, he⟩ := hv p hp
 exact ⟨(hal ha).1, by omega⟩
theorem Ext.srcA (E : Ext w g look N w' g' look' N') {src : List (Nat × Nat)} (h : PM.okSrc look src) (hv : PM.valid look' src) (b : Nat) (hs : srcA g N src b) : srcA g' N' src b ∧ w'.heap[b]? = w.heap[b]? := by
 have hv0 := E.valid h hv
 rcases hs with hs | ⟨p, hp, hg⟩
 · exact ⟨.inl (E.n b hs).1, (E.n b hs).2⟩
 ·
  obtain ⟨_, _, hal⟩ := E.o p.1 (h p hp).1
  obtain ⟨_, _, hg', hrest⟩ := hal (hv p hp).1
  exact ⟨.inr ⟨p, hp, hg'.trans hg⟩, (hrest b hg).2 ((hv p hp).2.trans (hv0 p hp).2.symm)⟩
theorem PtrV.mono (E : Ext w g look N w' g' look' N') {o i j : Nat} {v : Value} (h : PtrV g look o i j v) : PtrV g' look' o i j v := by
 obtain ⟨hb, hv, ha⟩ := h
 obtain ⟨hb', _, hal⟩ := E.o o hb
 refine ⟨hb', hv, fun h' => ?_⟩
 obtain ⟨h0, hk, hg, _⟩ := hal h'
 obtain ⟨b, h1, h2⟩ := ha h0
 exact ⟨b, hg.trans h1, by rw [hk]; exact h2⟩
theorem WinV.mono (E : Ext w g look N w' g' look' N') {o off len : Nat} {v : Value} (h : WinV w g look o off len v) : WinV w' g' look' o off len v := by
 obtain ⟨hb, hv, ha⟩ := h
 obtain ⟨hb', _, hal⟩ := E.o o hb
 refine ⟨hb', hv, fun h' => ?_⟩
 obtain ⟨h0, hk, hg, hr⟩ := hal h'
 obtain ⟨a, cap, h1, h2, h3⟩ := ha h0
 refine ⟨a, cap, h1, h2, h3.imp id fun ⟨b, h4, h5, h6⟩ => ⟨b, hg.trans h4, by rw [hk]; exact h5, by rw [hk, (hr b h4).1]; exact h6⟩⟩
theorem RpV.mono (E : Ext w g look N w' g' look' N') {x : T} {j : Nat} {src : List (Nat × Nat)} {v : Value} (h : RpV w g look N x j src v) : RpV w' g' look' N' x j src v := by
 obtain ⟨hv, hs, ha⟩ := h
 refine ⟨hv, E.okSrc hs, fun h' => ?_⟩
 obtain ⟨b, off, h1, h2, h3⟩ := ha (E.valid hs h')
 have := E.srcA hs h' b h1
 refine ⟨b, off, this.1, h2, fun j' t ht => ?_⟩
 obtain ⟨c, h4, h5⟩ := h3 j' t ht
 exact ⟨c, (cell_of_heap this.2 _).trans h4, h5.mono (E.srcA hs h')⟩
theorem FrC.mono (E : Ext w g look N w' g' look' N') {v : Value} {t : T} (h : FrC w g look N v t) : FrC w' g' look' N' v t := by
 cases t with
 | sc u => exact h
 | nil => exact h
 | sl xs src => exact ⟨h.1, E.okSrc h.2.1, fun h' => (h.2.2 (E.valid h.2.1 h')).mono (E.srcA h.2.1 h')⟩
 | win o off len => exact WinV.mono E h
 | ptr o i j => exact PtrV.mono E h
 | rp x j src => exact RpV.mono E h
 | fn f caps =>
  obtain ⟨vs, h1, h2, h3⟩ := h
  refine ⟨vs, h1, h2, fun i c hc => ?_⟩
  obtain ⟨u, o, i', j', h4, h5, h6⟩ := h3 i c hc
  exact ⟨u, o, i', j', h4, h5, h6.mono E⟩
 | ifc b => exact h
 | dead => trivial
 | agg cs => exact h.elim
 | tup ts => exact h.elim
theorem frA_eq {v : Value} {t : T} (h : ∀ cs, t ≠ .agg cs) : FrA w g look N v t = FrC w g look N v t := by
 cases t <;> first | rfl | exact absurd rfl (h _)
theorem frV_eq {v : Value} {t : T} (h : ∀ cs, t ≠ .tup cs) : FrV w g look N v t = FrA w g look N v t := by
 cases t <;> first | rfl | exact absurd rfl (h _)
theorem FrA.mono (E : Ext w g look N w' g' look' N') {v : Value} {t : T} (h : FrA w g look N v t) : FrA w' g' look' N' v t := by
 by_cases hc : ∃ cs, t = .agg cs
 ·
  obtain ⟨cs, rfl⟩ := hc
  obtain ⟨vs, h1, h2, h3⟩ := h
  refine ⟨vs, h1, h2, fun i c hc => ?_⟩
  obtain ⟨u, h4, h5⟩ := h3 i c hc
  exact ⟨u, h4, h5.mono E⟩
 ·
  rw [frA_eq (fun cs e => hc ⟨cs, e⟩)] at *
  exact h.mono E
theorem FrV.mono (E : Ext w g look N w' g' look' N') {v : Value} {t : T} (h : FrV w g look N v t) : FrV w' g' look' N' v t := by
 by_cases hc : ∃ cs, t = .tup cs
 ·
  obtain ⟨ts, rfl⟩ := hc
  obtain ⟨vs, h1, h2, h3⟩ := h
  refine ⟨vs, h1, h2, fun i c hc => ?_⟩
  obtain ⟨u, h4, h5⟩ := h3 i c hc
  exact ⟨u, h4, h5.mono E⟩
 ·
  rw [frV_eq (fun cs e => hc ⟨cs, e⟩)] at *
  exact h.mono E
theorem CellV.mono (E : Ext w g look N w' g' look' N') {row : Bool} {v : Value} {t : T} (h : CellV w g look N row v t) : CellV w' g' look' N' row v t := by
 unfold CellV at *
 cases row with
 | false => exact ⟨FrC.mono E h.1, h.2⟩
 | true => exact ShV.mono h E.n
theorem RootV.mono (E : Ext w g look N w' g' look' N') {o : Nat} (h : RootV w g look N o) (hl : look' o = look o) (hg : g' o = g o) (hb : ∀ b, g o = some b → w'.heap[b]? = w.heap[b]?) : RootV w' g' look' N' o := by
 unfold RootV at *
 rw [hl, hg]
 intro ha
 obtain ⟨hbn, h⟩ := h ha
 refine ⟨hbn, ?_⟩
 cases hgo : g o with
 | none => rw [hgo] at h; exact h
 | some b =>
  rw [hgo] at h
  obtain ⟨c, E', fr, h1, h2, h3⟩ := h
  refine ⟨c, E', fr, (hb b hgo).trans h1, fun i hi => (World.frozen?_of_block (a := ⟨b, i, none⟩) (hb b hgo)).trans (h2 i hi), fun i x hx => ⟨(h3 i x hx).1, fun j t ht => ?_⟩⟩
  obtain ⟨v, h4, h5⟩ := (h3 i x hx).2 j t ht
  exact ⟨v, h4, h5.mono E⟩
end
structure Cx where
 w0 : World
 N0 : Nat → Prop
 Lb : Nat → Prop
 g0 : Nat → Option Nat
 look0 : Nat → Ob
 m : Nat
def NN (cx : Cx) (w : World) (g : Nat → Option Nat) (look : Nat → Ob) (b : Nat) : Prop :=
 b < w.heap.size ∧ (cx.N0 b ∨ cx.w0.heap.size ≤ b ∨ cx.Lb b) ∧ ∀ o, Own look o → g o ≠ some b
def isGlob (P : Program) (b : Nat) : Bool := match P.globals[b]? with
 | some x => x.name == "strconv.ErrSyntax" || x.name == "strconv.ErrRange"
 | none => false
def GlobOk (P : Program) (w : World) (N : Nat → Prop) : Prop := ∀ b, isGlob P b = true → N b ∧ ∃ u x, w.cell? ⟨b, 0, none⟩ = some (.iface u x)
def GlobCx (P : Program) (cx : Cx) : Prop := GlobOk P cx.w0 cx.N0 ∧ ∀ b, cx.N0 b → ¬ cx.Lb b
structure Rel (cx : Cx) (g : Nat → Option Nat) (tmps : List T) (look : Nat → Ob) (a : Act) (w : World) : Prop where
 size : a.tmps.size = tmps.length
 dfr : a.defers = []
 tm : ∀ (t : Nat) x, tmps[t]? = some x → FrV w g look (NN cx w g look) (a.tmps.getD t undef) x
 rt : ∀ o, RootV w g look (NN cx w g look) o
 inj : ∀ o o' b, Own look o → Own look o' → g o = some b → g o' = some b → o = o'
 blk : ∀ o b, (look o).alive = true → g o = some b → b < w.heap.size ∧ if (look o).may then cx.w0.heap.size ≤ b ∨ cx.Lb b else NN cx w g look b
 keep : ∀ b, b < cx.w0.heap.size → ¬ cx.Lb b → w.heap[b]? = cx.w0.heap[b]?
 hsz : cx.w0.heap.size ≤ w.heap.size
 os : w.os = cx.w0.os
 tape : w.tape = cx.w0.tape
 output : w.output = cx.w0.output
 n0 : ∀ b, cx.N0 b → b < cx.w0.heap.size
 lb : ∀ b, cx.Lb b → b < cx.w0.heap.size
 lent : ∀ j, j < cx.m → (look j).born = true ∧ ((look j).alive = true → (cx.look0 j).alive = true ∧ (look j).k = (cx.look0 j).k ∧ g j = cx.g0 j ∧ ∀ b, cx.g0 j = some b → csz w b = csz cx.w0 b)
theorem GlobCx.now {P : Program} {cx : Cx} {g : Nat → Option Nat} {tmps : List T} {look : Nat → Ob} {a : Act} {w : World} (G : GlobCx P cx) (R : Rel cx g tmps look a w) : GlobOk P w (NN cx w g look) := fun b hb => by
 obtain ⟨h1, u, x, h2⟩ := G.1 b hb
 have h3 := R.n0 b h1
 refine ⟨⟨Nat.lt_of_lt_of_le h3 R.hsz, .inl h1, fun o ho hg => ?_⟩, u, x, (cell_of_heap (R.keep b h3 (G.2 b h1)) 0).trans h2⟩
 have h4 := (R.blk o b ho.1 hg).2
 rw [if_pos ho.2] at h4
 rcases h4 with h4 | h4
 · omega
 · exact G.2 b h1 h4
structure Chg (w : World) (g : Nat → Option Nat) (look : Nat → Ob) (w' : World) (g' : Nat → Option Nat) (look' : Nat → Ob) : Prop where
 hsz : w.heap.size ≤ w'.heap.size
 hh : ∀ b, b < w.heap.size → (∀ o, Own look o → g o ≠ some b) → w'.heap[b]? = w.heap[b]?
 os : w'.os = w.os
 tape : w'.tape = w.tape
 output : w'.output = w.output
 ids : ∀ o, (look o).born = true → (look' o).born = true ∧ (look o).ver ≤ (look' o).ver ∧ ((look' o).alive = true → (look o).alive = true ∧ (look' o).k = (look o).k ∧ g' o = g o ∧ ∀ b, g o = some b → csz w' b = csz w b ∧ ((look' o).ver = (look o).ver → w'.heap[b]? = w.heap[b]?))
 own : ∀ o b, Own look' o → g' o = some b → (∃ o₁, Own look o₁ ∧ g o₁ = some b) ∨ w.heap.size ≤ b
section
variable {cx : Cx} {w w' : World} {g g' : Nat → Option Nat} {look look' : Nat → Ob} {tmps tmps' : List T} {a a' : Act}
theorem Rel.ext (R : Rel cx g tmps look a w) (C : Chg w g look w' g' look') : Ext w g look (NN cx w g look) w' g' look' (NN cx w' g' look') := by
 refine ⟨fun b ⟨h1, h2, h3⟩ => ⟨⟨Nat.lt_of_lt_of_le h1 C.hsz, h2, fun o ho hg => ?_⟩, C.hh b h1 h3⟩, C.ids⟩
 rcases C.own o b ho hg with ⟨o₁, h4, h5⟩ | h4
 · exact h3 o₁ h4 h5
 · omega
theorem Rel.upd (R : Rel cx g tmps look a w) (C : Chg w g look w' g' look') (hsize : a'.tmps.size = tmps'.length) (hd : a'.defers = [])
 (htm : ∀ (t : Nat) x, tmps'[t]? = some x → FrV w' g' look' (NN cx w' g' look') (a'.tmps.getD t undef) x)
 (hrt : ∀ o, (look' o).alive = true → RootV w' g' look' (NN cx w' g' look') o)
 (hinj : ∀ o o' b, Own look' o → Own look' o' → g' o = some b → g' o' = some b → o = o')
 (hblk : ∀ o b, (look' o).alive = true → g' o = some b → b < w'.heap.size ∧ ((look' o).may = true → (cx.w0.heap.size ≤ b ∨ cx.Lb b)) ∧ ((look' o).may = false → NN cx w' g' look' b)) :
 Rel cx g' tmps' look' a' w' := by
 refine ⟨hsize, hd, htm, fun o => ?_, hinj, fun o b h1 h2 => ?_, fun b h1 h2 => ?_, Nat.le_trans R.hsz C.hsz, C.os.trans R.os, C.tape.trans R.tape, C.output.trans R.output, R.n0, R.lb, fun j hj => ?_⟩
 ·
  by_cases h : (look' o).alive = true
  · exact hrt o h
  · exact fun h' => absurd h' h
 ·
  obtain ⟨h3, h4, h5⟩ := hblk o b h1 h2
  refine ⟨h3, ?_⟩
  cases hm : (look' o).may with
  | true => rw [if_pos rfl]; exact h4 hm
  | false => rw [if_neg (by simp)]; exact h5 hm
 ·
  rw [C.hh b (Nat.lt_of_lt_of_le h1 R.hsz) (fun o ho hg => ?_)]
  · exact R.keep b h1 h2
  ·
   have := (R.blk o b ho.1 hg).2
   rw [if_pos ho.2] at this
   rcases this with h | h
   · omega
   · exact h2 h
 ·
  obtain ⟨h1, h2⟩ := R.lent j hj
  obtain ⟨h3, _, h4⟩ := C.ids j h1
  refine ⟨h3, fun ha => ?_⟩
  obtain ⟨h5, h6, h7, h8⟩ := h4 ha
  obtain ⟨a1, a2, a3, a4⟩ := h2 h5
  exact ⟨a1, h6.trans a2, h7.trans a3, fun b hb => (h8 b (a3.trans hb)).1.trans (a4 b hb)⟩
end
end Go.Proofs.YtmjmoagmolgacaaGreatDoor.PM
namespace Go.Proofs.YtmjmoagmolgacaaGreatDoor.PM
open Go
def up {α : Type} (f : Nat → α) (o : Nat) (x : α) : Nat → α := fun o' => if o' = o then x else f o'
theorem up_same {α : Type} (f : Nat → α) (o : Nat) (x : α) : up f o x o = x := by simp [up]
theorem up_ne {α : Type} (f : Nat → α) {o o' : Nat} (x : α) (h : o' ≠ o) : up f o x o' = f o' := by simp [up, h]
def updL (look : Nat → Ob) : List (Nat × Ob) → Nat → Ob
 | [] => look
 | (o, x) :: r => updL (up look o x) r
theorem lookIn_putIn (s : List (Nat × Ob)) (o : Nat) (x : Ob) : lookIn (putIn s o x) = up (lookIn s) o x := by
 funext q
 induction s with
 | nil =>
  simp only [putIn, lookIn, up]
  by_cases h : o = q
  · subst h; simp
  · rw [if_neg h, if_neg (fun e => h e.symm)]
 | cons p r ih =>
  obtain ⟨k, y⟩ := p
  simp only [putIn]
  by_cases hk : k = o
  ·
   subst hk
   rw [if_pos rfl]
   simp only [lookIn, up]
   by_cases h : k = q
   · subst h; simp
   · rw [if_neg h, if_neg (fun e => h e.symm), if_neg h]
  ·
   rw [if_neg hk]
   simp only [lookIn, up] at ih ⊢
   by_cases h : k = q
   · subst h; simp [hk]
   ·
    rw [if_neg h, ih]
    by_cases h' : q = o
    · simp [h']
    · rw [if_neg h', if_neg h', if_neg h]
theorem lookIn_putAll (wr : List (Nat × Ob)) : ∀ s : List (Nat × Ob), lookIn (putAll s wr) = updL (lookIn s) wr := by
 induction wr with
 | nil => intro s; rfl
 | cons p r ih => intro s; obtain ⟨o, x⟩ := p; rw [putAll, ih, lookIn_putIn, updL]
theorem heap_setCell_at {w : World} {b o : Nat} {v : Value} {c : Array Value} {E : TypeId} {fr : Nat × Nat} (h : w.heap[b]? = some (.cells c E fr)) : (w.setCell ⟨b, o, none⟩ v).heap[b]? = some (.cells (c.setIfInBounds o v) E fr) := by
 simp [World.setCell, Array.getElem?_modify, h]
theorem heap_setCells_at (b : Nat) {E : TypeId} {fr : Nat × Nat} : ∀ (vs : List Value) (o : Nat) (w : World) (c : Array Value), w.heap[b]? = some (.cells c E fr) →
 ∃ c' : Array Value, (w.setCells b o vs).heap[b]? = some (.cells c' E fr) ∧ c'.size = c.size ∧ (∀ j, j < o ∨ o + vs.length ≤ j → c'[j]? = c[j]?) ∧ ∀ j, j < vs.length → o + j < c.size → c'[o + j]? = vs[j]?
 | [], o, w, c, h => ⟨c, h, rfl, fun _ _ => rfl, fun j hj => by simp at hj⟩
 | v :: r, o, w, c, h => by
  obtain ⟨c', h1, h2, h3, h4⟩ := heap_setCells_at b r (o + 1) (w.setCell ⟨b, o, none⟩ v) (c.setIfInBounds o v) (heap_setCell_at h)
  refine ⟨c', h1, by rw [h2, Array.size_setIfInBounds], fun j hj => ?_, fun j hj hs => ?_⟩
  · rw [h3 j (by simp at hj; omega), Array.getElem?_setIfInBounds_ne (by simp at hj; omega)]
  ·
   cases j with
   | zero =>
    have := h3 o (.inl (by omega))
    simp only [Nat.add_zero] at hs ⊢
    rw [this]
    simp [hs]
   | succ j =>
    have := h4 j (by simp at hj; omega) (by rw [Array.size_setIfInBounds]; omega)
    rw [show o + 1 + j = o + (j + 1) by omega] at this
    rw [this]
    simp
theorem heap_setCells_size (b : Nat) : ∀ (vs : List Value) (o : Nat) (w : World), (w.setCells b o vs).heap.size = w.heap.size
 | [], _, _ => rfl
 | v :: r, o, w => by rw [World.setCells, heap_setCells_size b r]; simp [World.setCell]
theorem heap_setCells_ne (b : Nat) : ∀ (vs : List Value) (o : Nat) (w : World) {i : Nat}, i ≠ b → (w.setCells b o vs).heap[i]? = w.heap[i]?
 | [], _, _, _, _ => rfl
 | v :: r, o, w, i, h => by
  rw [World.setCells, heap_setCells_ne b r _ _ h]
  simp only [World.setCell, Array.getElem?_modify]
  rw [if_neg (fun e => h e.symm)]
theorem tape_setCells (b : Nat) : ∀ (vs : List Value) (o : Nat) (w : World), (w.setCells b o vs).tape = w.tape
 | [], _, _ => rfl
 | v :: r, o, w => by rw [World.setCells, tape_setCells b r]; rfl
section
variable {cx : Cx} {w w' : World} {g g' : Nat → Option Nat} {look look' : Nat → Ob} {tmps : List T} {a : Act}
theorem getD_put {a : Act} {d t : Nat} {v : Value} : (a.put (some d) v).tmps.getD t undef = if t = d ∧ d < a.tmps.size then v else a.tmps.getD t undef := by
 simp only [Act.put, Array.getD_eq_getD_getElem?, Array.getElem?_setIfInBounds]
 by_cases h : t = d
 ·
  subst h
  by_cases h2 : t < a.tmps.size
  · simp [h2]
  · simp [h2]
 · rw [if_neg (fun e => h e.symm), if_neg (fun e => h e.1)]
theorem Rel.step (R : Rel cx g tmps look a w) (C : Chg w g look w' g' look') (dst : Option Tmp) {v : Value} {val : T} (hv : FrV w' g' look' (NN cx w' g' look') v val)
 (hrt : ∀ o, (look' o).alive = true → RootV w' g' look' (NN cx w' g' look') o)
 (hinj : ∀ o o' b, Own look' o → Own look' o' → g' o = some b → g' o' = some b → o = o')
 (hblk : ∀ o b, (look' o).alive = true → g' o = some b → b < w'.heap.size ∧ ((look' o).may = true → (cx.w0.heap.size ≤ b ∨ cx.Lb b)) ∧ ((look' o).may = false → NN cx w' g' look' b)) :
 Rel cx g' (putT tmps dst val) look' (a.put dst v) w' := by
 have E := R.ext C
 refine R.upd C ?_ ?_ ?_ hrt hinj hblk
 ·
  cases dst with
  | none => exact R.size
  | some d => simp [Act.put, putT, R.size]
 · cases dst <;> exact R.dfr
 ·
  intro t x hx
  cases dst with
  | none => exact (R.tm t x hx).mono E
  | some d =>
   rw [getD_put]
   simp only [putT] at hx
   by_cases h : t = d
   ·
    subst h
    have hlt : t < tmps.length := by
     have := (List.getElem?_eq_some_iff.1 hx).1
     simpa using this
    rw [if_pos ⟨rfl, by rw [R.size]; exact hlt⟩]
    rw [List.getElem?_set_self hlt] at hx
    obtain rfl := Option.some.inj hx
    exact hv
   ·
    rw [if_neg (fun e => h e.1)]
    rw [List.getElem?_set_ne (fun e => h e.symm)] at hx
    exact (R.tm t x hx).mono E
theorem Chg.quiet (hh : w'.heap = w.heap) (os : w'.os = w.os) (tape : w'.tape = w.tape) (output : w'.output = w.output) : Chg w g look w' g look :=
 ⟨by rw [hh]; exact Nat.le_refl _, fun b _ _ => by rw [hh], os, tape, output, fun o hb => ⟨hb, Nat.le_refl _, fun ha => ⟨ha, rfl, rfl, fun b _ => ⟨by simp [csz, hh], fun _ => by rw [hh]⟩⟩⟩, fun o b ho hg => .inl ⟨o, ho, hg⟩⟩
theorem NN_quiet (hh : w'.heap = w.heap) (b : Nat) : NN cx w' g look b ↔ NN cx w g look b := by unfold NN; rw [hh]
theorem Rel.roots_quiet (R : Rel cx g tmps look a w) (hh : w'.heap = w.heap) (C : Chg w g look w' g look) :
 (∀ o, (look o).alive = true → RootV w' g look (NN cx w' g look) o) ∧ (∀ o o' b, Own look o → Own look o' → g o = some b → g o' = some b → o = o') ∧
 (∀ o b, (look o).alive = true → g o = some b → b < w'.heap.size ∧ ((look o).may = true → (cx.w0.heap.size ≤ b ∨ cx.Lb b)) ∧ ((look o).may = false → NN cx w' g look b)) := by
 refine ⟨fun o _ => RootV.mono (R.ext C) (R.rt o) rfl rfl (fun b _ => by rw [hh]), R.inj, fun o b ha hg => ?_⟩
 obtain ⟨h1, h2⟩ := R.blk o b ha hg
 rw [hh]
 refine ⟨h1, fun hm => by rw [if_pos hm] at h2; exact h2, fun hm => ?_⟩
 rw [hm] at h2
 exact (NN_quiet hh b).2 h2
theorem Rel.quietW (R : Rel cx g tmps look a w) (hh : w'.heap = w.heap) (os : w'.os = w.os) (tape : w'.tape = w.tape) (output : w'.output = w.output) (dst : Option Tmp) {v : Value} {val : T}
 (hv : FrV w' g look (NN cx w' g look) v val) : Rel cx g (putT tmps dst val) look (a.put dst v) w' :=
 have C : Chg w g look w' g look := Chg.quiet hh os tape output
 have r := R.roots_quiet hh C
 R.step C dst hv r.1 r.2.1 r.2.2
theorem Rel.quiet (R : Rel cx g tmps look a w) (dst : Option Tmp) {v : Value} {val : T} (hv : FrV w g look (NN cx w g look) v val) : Rel cx g (putT tmps dst val) look (a.put dst v) w :=
 R.quietW rfl rfl rfl rfl dst hv
theorem Rel.drew (R : Rel cx g tmps look a w) : Rel cx g tmps look a { w with drawn := w.drawn + 1 } := by
 have C : Chg w g look { w with drawn := w.drawn + 1 } g look := Chg.quiet rfl rfl rfl rfl
 have r := R.roots_quiet (w' := { w with drawn := w.drawn + 1 }) rfl C
 exact R.upd C R.size R.dfr (fun t x hx => (R.tm t x hx).mono (R.ext C)) r.1 r.2.1 r.2.2
theorem Rel.new (R : Rel cx g tmps look a w) {o : Nat} (hb : (look o).born = false) (x : Ob) (hx : x.born = true) (hm : x.may = true) {c : Array Value} {E : TypeId} {fr : Nat × Nat}
 (hh : w'.heap = w.heap.push (.cells c E fr)) (os : w'.os = w.os) (tape : w'.tape = w.tape) (output : w'.output = w.output) (hfr : ∀ i, (i < c.size ∨ 2 ≤ x.k ∨ softOk = false) → ¬ (fr.1 ≤ i ∧ i < fr.2))
 (hcells : ∀ (i : Nat) y, x.xs[i]? = some y → y.width = x.k ∧ ∀ (j : Nat) t, y.cells[j]? = some t → ∃ v, c[i * x.k + j]? = some v ∧ CellV w g look (NN cx w g look) x.row v t)
 (dst : Option Tmp) {v : Value} {val : T} (hv : FrV w' (up g o (some w.heap.size)) (up look o x) (NN cx w' (up g o (some w.heap.size)) (up look o x)) v val) :
 Rel cx (up g o (some w.heap.size)) (putT tmps dst val) (up look o x) (a.put dst v) w' := by
 have hne : ∀ q, (look q).born = true → q ≠ o := fun q hq e => by rw [e, hb] at hq; cases hq
 have hold : ∀ i, i < w.heap.size → w'.heap[i]? = w.heap[i]? := fun i hi => by rw [hh, Array.getElem?_push, if_neg (by omega)]
 have hnew : w'.heap[w.heap.size]? = some (.cells c E fr) := by rw [hh]; simp
 have hsz : w'.heap.size = w.heap.size + 1 := by rw [hh]; simp
 have hdead : (look o).alive = true → False := fun ha => by have := (R.rt o ha).1; rw [hb] at this; cases this
 have C : Chg w g look w' (up g o (some w.heap.size)) (up look o x) := by
  refine ⟨by omega, fun b hlt _ => hold b hlt, os, tape, output, fun q hq => ?_, fun q b hq hg => ?_⟩
  ·
   rw [up_ne _ _ (hne q hq), up_ne _ _ (hne q hq)]
   refine ⟨hq, Nat.le_refl _, fun ha => ⟨ha, rfl, rfl, fun b hgb => ?_⟩⟩
   have := hold b (R.blk q b ha hgb).1
   exact ⟨by simp [csz, this], fun _ => this⟩
  ·
   by_cases e : q = o
   ·
    subst e
    rw [up_same] at hg
    obtain rfl := Option.some.inj hg
    exact .inr (Nat.le_refl _)
   ·
    unfold Own at hq
    rw [up_ne _ _ e] at hq hg
    exact .inl ⟨q, hq, hg⟩
 have E' := R.ext C
 refine R.step C dst hv (fun q ha => ?_) (fun q q' b h1 h2 h3 h4 => ?_) (fun q b ha hg => ?_)
 ·
  by_cases e : q = o
  ·
   subst e
   intro _
   rw [up_same, up_same]
   refine ⟨hx, c, E, fr, hnew, fun i hi => ?_, fun i y hy => ⟨(hcells i y hy).1, fun j t ht => ?_⟩⟩
   ·
    have := hfr i hi
    simp only [World.frozen?, hnew]
    obtain ⟨lo, hi'⟩ := fr
    simp only at this ⊢
    rw [Bool.eq_false_iff]
    intro hc
    simp only [Bool.and_eq_true, decide_eq_true_eq] at hc
    exact this hc
   ·
    obtain ⟨v, h1, h2⟩ := (hcells i y hy).2 j t ht
    exact ⟨v, h1, h2.mono E'⟩
  ·
   rw [up_ne _ _ e] at ha
   exact RootV.mono E' (R.rt q) (up_ne _ _ e) (up_ne _ _ e) (fun b hgb => hold b (R.blk q b ha hgb).1)
 ·
  unfold Own at h1 h2
  by_cases e : q = o
  ·
   by_cases e' : q' = o
   · exact e.trans e'.symm
   ·
    subst e
    rw [up_same] at h3
    rw [up_ne _ _ e'] at h2 h4
    obtain rfl := Option.some.inj h3
    have := (R.blk q' _ h2.1 h4).1
    omega
  ·
   by_cases e' : q' = o
   ·
    subst e'
    rw [up_same] at h4
    rw [up_ne _ _ e] at h1 h3
    obtain rfl := Option.some.inj h4
    have := (R.blk q _ h1.1 h3).1
    omega
   ·
    rw [up_ne _ _ e] at h1 h3
    rw [up_ne _ _ e'] at h2 h4
    exact R.inj q q' b h1 h2 h3 h4
 ·
  by_cases e : q = o
  ·
   subst e
   rw [up_same] at hg
   obtain rfl := Option.some.inj hg
   rw [up_same]
   exact ⟨by omega, fun _ => .inl R.hsz, fun hm' => by rw [hm] at hm'; cases hm'⟩
  ·
   rw [up_ne _ _ e] at ha hg
   rw [up_ne _ _ e]
   obtain ⟨h1, h2⟩ := R.blk q b ha hg
   refine ⟨by omega, fun hm' => by rw [if_pos hm'] at h2; exact h2, fun hm' => ?_⟩
   rw [hm'] at h2
   exact (E'.n b h2).1
theorem Rel.write (R : Rel cx g tmps look a w) {o b : Nat} (ho : Own look o) (hg : g o = some b) (x : Ob) (hx : x.born = true ∧ x.alive = true ∧ x.may = true ∧ x.k = (look o).k ∧ (look o).ver < x.ver)
 {off : Nat} {vs : List Value} (hw' : w' = w.setCells b off vs)
 (hcells : ∀ c' : Array Value, (∃ c E fr, w.heap[b]? = some (.cells c E fr) ∧ c'.size = c.size ∧ (∀ j, j < off ∨ off + vs.length ≤ j → c'[j]? = c[j]?) ∧ ∀ j, j < vs.length → off + j < c.size → c'[off + j]? = vs[j]?) →
  ∀ (i : Nat) y, x.xs[i]? = some y → y.width = x.k ∧ ∀ (j : Nat) t, y.cells[j]? = some t → ∃ v, c'[i * x.k + j]? = some v ∧ CellV w g look (NN cx w g look) x.row v t)
 (dst : Option Tmp) {v : Value} {val : T} (hv : FrV w' g (up look o x) (NN cx w' g (up look o x)) v val) :
 Rel cx g (putT tmps dst val) (up look o x) (a.put dst v) w' := by
 subst hw'
 have hbr := (R.rt o ho.1).1
 have hroot := (R.rt o ho.1).2
 rw [hg] at hroot
 obtain ⟨c, E, fr, hc1, hc2, hc3⟩ := hroot
 obtain ⟨c', h1, h2, h3, h4⟩ := heap_setCells_at b vs off w c hc1
 have hne : ∀ i, i ≠ b → (w.setCells b off vs).heap[i]? = w.heap[i]? := fun i hi => heap_setCells_ne b vs off w hi
 have hsz : (w.setCells b off vs).heap.size = w.heap.size := heap_setCells_size b vs off w
 have hcsz : csz (w.setCells b off vs) b = csz w b := by simp [csz, h1, hc1, h2]
 have C : Chg w g look (w.setCells b off vs) g (up look o x) := by
  refine ⟨by omega, fun i _ hn => hne i (fun e => hn o ho (e ▸ hg)), World.os_setCells _ _ _ _, tape_setCells _ _ _ _, World.output_setCells _ _ _ _, fun q hq => ?_, fun q i hq hgq => ?_⟩
  ·
   by_cases e : q = o
   ·
    subst e
    rw [up_same]
    refine ⟨hx.1, by omega, fun _ => ⟨ho.1, hx.2.2.2.1, rfl, fun i hgi => ?_⟩⟩
    obtain rfl := Option.some.inj (hg.symm.trans hgi)
    exact ⟨hcsz, fun hver => by omega⟩
   ·
    rw [up_ne _ _ e]
    refine ⟨hq, Nat.le_refl _, fun ha => ⟨ha, rfl, rfl, fun i hgi => ?_⟩⟩
    by_cases ei : i = b
    ·
     subst ei
     refine ⟨hcsz, fun _ => ?_⟩
     exfalso
     by_cases hm : (look q).may = true
     · exact e (R.inj q o i ⟨ha, hm⟩ ho hgi hg)
     ·
      have := (R.blk q i ha hgi).2
      rw [if_neg hm] at this
      exact this.2.2 o ho hg
    ·
     have := hne i ei
     exact ⟨by simp [csz, this], fun _ => this⟩
  ·
   by_cases e : q = o
   · subst e; exact .inl ⟨q, ho, hgq⟩
   · unfold Own at hq; rw [up_ne _ _ e] at hq; exact .inl ⟨q, hq, hgq⟩
 have E' := R.ext C
 have hown : ∀ q, Own (up look o x) q → Own look q := fun q hq => by
  by_cases e : q = o
  · subst e; exact ho
  · unfold Own at hq; rw [up_ne _ _ e] at hq; exact hq
 refine R.step C dst hv (fun q ha => ?_) (fun q q' i a1 a2 a3 a4 => R.inj q q' i (hown q a1) (hown q' a2) a3 a4) (fun q i ha hgi => ?_)
 ·
  by_cases e : q = o
  ·
   subst e
   intro _
   rw [up_same, hg]
   refine ⟨hx.1, c', E, fr, h1, fun i hi => ?_, fun i y hy => ?_⟩
   ·
    rw [World.frozen?_setCells]
    exact hc2 i (by rcases hi with hi | hi | hi; exact .inl (by omega); exact .inr (.inl (by omega)); exact .inr (.inr hi))
   ·
    obtain ⟨hw1, hw2⟩ := hcells c' ⟨c, E, fr, hc1, h2, h3, h4⟩ i y hy
    refine ⟨hw1, fun j t ht => ?_⟩
    obtain ⟨u, hu1, hu2⟩ := hw2 j t ht
    exact ⟨u, hu1, hu2.mono E'⟩
  ·
   rw [up_ne _ _ e] at ha
   refine RootV.mono E' (R.rt q) (up_ne _ _ e) rfl (fun i hgi => hne i (fun ei => ?_))
   subst ei
   by_cases hm : (look q).may = true
   · exact e (R.inj q o i ⟨ha, hm⟩ ho hgi hg)
   ·
    have := (R.blk q i ha hgi).2
    rw [if_neg hm] at this
    exact this.2.2 o ho hg
 ·
  by_cases e : q = o
  ·
   subst e
   rw [up_same]
   obtain ⟨a1, a2⟩ := R.blk q i ho.1 hgi
   rw [if_pos ho.2] at a2
   exact ⟨by omega, fun _ => a2, fun hm => by rw [hx.2.2.1] at hm; cases hm⟩
  ·
   rw [up_ne _ _ e] at ha ⊢
   obtain ⟨a1, a2⟩ := R.blk q i ha hgi
   refine ⟨by omega, fun hm => by rw [if_pos hm] at a2; exact a2, fun hm => ?_⟩
   rw [hm] at a2
   exact (E'.n i a2).1
end
end Go.Proofs.YtmjmoagmolgacaaGreatDoor.PM
namespace Go.Proofs.YtmjmoagmolgacaaGreatDoor.PM
open Go
section
variable {α β : Type} {look : Nat → Ob}
theorem Rd.run_bind (x : Rd α) (f : α → Rd β) : (x >>= f).run look = match x.run look with
 | some (a, l) => match (f a).run look with
  | some (b, l') => some (b, l ++ l')
  | none => none
 | none => none := by
 show (Rd.bind x f).run look = _
 induction x with
 | ret a =>
  simp only [Rd.bind, Rd.run]
  cases (f a).run look with
  | none => rfl
  | some p => rfl
 | get o k ih =>
  simp only [Rd.bind, Rd.run, ih]
  cases (k (look o)).run look with
  | none => rfl
  | some p =>
   obtain ⟨a, l⟩ := p
   simp only
   cases (f a).run look with
   | none => rfl
   | some q => rfl
 | fail => rfl
theorem bind_some {x : Rd α} {f : α → Rd β} {b : β} {l : List Nat} : (x >>= f).run look = some (b, l) ↔ ∃ a l₁ l₂, x.run look = some (a, l₁) ∧ (f a).run look = some (b, l₂) ∧ l = l₁ ++ l₂ := by
 rw [Rd.run_bind]
 constructor
 ·
  intro h
  split at h
  ·
   rename_i a l₁ h₁
   split at h
   ·
    rename_i b' l₂ h₂
    obtain ⟨rfl, rfl⟩ := Prod.mk.inj (Option.some.inj h)
    exact ⟨a, l₁, l₂, h₁, h₂, rfl⟩
   · cases h
  · cases h
 ·
  rintro ⟨a, l₁, l₂, h₁, h₂, rfl⟩
  simp [h₁, h₂]
theorem ret_some {a b : α} {l : List Nat} : (Rd.ret a).run look = some (b, l) ↔ b = a ∧ l = [] := by
 simp only [Rd.run, Option.some.injEq, Prod.mk.injEq]
 exact ⟨fun ⟨h, h'⟩ => ⟨h.symm, h'.symm⟩, fun ⟨h, h'⟩ => ⟨h.symm, h'.symm⟩⟩
theorem pure_some {a b : α} {l : List Nat} : (pure a : Rd α).run look = some (b, l) ↔ b = a ∧ l = [] := ret_some
theorem fail_some {b : α} {l : List Nat} : (Rd.fail : Rd α).run look = some (b, l) ↔ False := by simp [Rd.run]
theorem guard_some {c : Bool} {u : Unit} {l : List Nat} : (guardR c).run look = some (u, l) ↔ c = true ∧ l = [] := by
 cases c <;> simp [guardR, Rd.run, eq_comm]
theorem opt_some {x : Option α} {b : α} {l : List Nat} : (Rd.ofOption x).run look = some (b, l) ↔ x = some b ∧ l = [] := by
 cases x <;> simp [Rd.ofOption, Rd.run, eq_comm]
theorem obj_some {o : Nat} {x : Ob} {l : List Nat} : (obj o).run look = some (x, l) ↔ x = look o ∧ l = [o] := by
 simp only [obj, Rd.run, Option.some.injEq, Prod.mk.injEq]
 exact ⟨fun ⟨h, h'⟩ => ⟨h.symm, h'.symm⟩, fun ⟨h, h'⟩ => ⟨h.symm, h'.symm⟩⟩
theorem Rd.local1 {look' : Nat → Ob} (x : Rd α) : ∀ {a : α} {l : List Nat}, x.run look = some (a, l) → (∀ o ∈ l, look' o = look o) → x.run look' = some (a, l) := by
 induction x with
 | ret b => intro a l h _; exact h
 | get o k ih =>
  intro a l h hl
  simp only [Rd.run] at h ⊢
  split at h
  ·
   rename_i b l' h'
   obtain ⟨rfl, rfl⟩ := Prod.mk.inj (Option.some.inj h)
   rw [hl o (by simp), ih _ h' (fun q hq => hl q (by simp [hq]))]
  · cases h
 | fail => intro a l h _; exact h
theorem chk_some : ∀ {src : List (Nat × Nat)} {u : Unit} {l : List Nat}, (chk src).run look = some (u, l) → valid look src
 | [], _, _, _ => fun p hp => by simp at hp
 | (o, v) :: r, u, l, h => by
  simp only [chk, bind_some, obj_some, guard_some] at h
  obtain ⟨x, l₁, l₂, ⟨rfl, rfl⟩, ⟨u', l₃, l₄, ⟨h1, _⟩, h2, _⟩, _⟩ := h
  have hr := chk_some h2
  intro p hp
  rcases List.mem_cons.1 hp with rfl | hp
  ·
   simp only [Bool.and_eq_true, beq_iff_eq] at h1
   exact h1
  · exact hr p hp
theorem mapR_some {f : α → Rd β} : ∀ {xs : List α} {ys : List β} {l : List Nat}, (mapR f xs).run look = some (ys, l) → ys.length = xs.length ∧ ∀ (i : Nat) x, xs[i]? = some x → ∃ y l', ys[i]? = some y ∧ (f x).run look = some (y, l')
 | [], ys, l, h => by
  simp only [mapR, ret_some] at h
  obtain ⟨rfl, _⟩ := h
  exact ⟨rfl, fun i x hx => by simp at hx⟩
 | x :: r, ys, l, h => by
  simp only [mapR, bind_some, pure_some] at h
  obtain ⟨y, l₁, l₂, h1, ⟨s, l₃, l₄, h2, ⟨rfl, _⟩, _⟩, _⟩ := h
  obtain ⟨h3, h4⟩ := mapR_some h2
  refine ⟨by simp [h3], fun i z hz => ?_⟩
  cases i with
  | zero => simp at hz; subst hz; exact ⟨y, l₁, rfl, h1⟩
  | succ i => simp at hz; obtain ⟨y', l', h5, h6⟩ := h4 i z hz; exact ⟨y', l', by simpa using h5, h6⟩
end
section
variable {P : Program} {o : Oper} {a : Act} {w w' : World} {K : Act → World → Prop} {Q : Exit → Act → World → Prop} {v : Value}
theorem wp_value (h : (execOp a.eval o).run P w = .ok (.value v) w') (hk : K (a.put o.dst v) w') : o.wp P a w K Q := by
 unfold Oper.wp; rw [h]; exact hk
theorem wp_skip' (h : (execOp a.eval o).run P w = .ok .skip w') (hk : K (a.put o.dst undef) w') : o.wp P a w K Q := by
 unfold Oper.wp; rw [h]; exact hk
end
section
variable {w : World} {g : Nat → Option Nat} {look : Nat → Ob} {N : Nat → Prop}
theorem okSrc_nil : okSrc look [] := fun p hp => by simp at hp
theorem srcA_nil {b : Nat} : srcA g N [] b ↔ N b := ⟨fun h => h.elim id (fun ⟨p, hp, _⟩ => by simp at hp), .inl⟩
theorem FrC.ofSh {v : Value} {t : T} (h : ShV w N v t) : FrC w g look N v t := by
 cases h with
 | sc h => exact ⟨rfl, h⟩
 | empty => exact ⟨⟨_, _, rfl, Nat.zero_le _, .inl rfl⟩, okSrc_nil, fun _ => .empty⟩
 | sl hA hl hw hc hv => exact ⟨⟨_, _, rfl, hl, .inr ⟨_, _, rfl⟩⟩, okSrc_nil, fun _ => (ShV.sl hA hl hw hc hv).mono fun b hb => ⟨.inl hb, rfl⟩⟩
theorem FrC.toSh {v : Value} {t : T} (h : FrC w g look N v t) (ht : (∃ u, t = .sc u) ∨ ∃ xs, t = .sl xs []) : ShV w N v t := by
 rcases ht with ⟨u, rfl⟩ | ⟨xs, rfl⟩
 · obtain ⟨rfl, hp⟩ := h; exact .sc hp
 · exact (h.2.2 (fun p hp => by simp at hp)).mono fun b hb => ⟨srcA_nil.1 hb, rfl⟩
theorem ShV.cellT {A : Nat → Prop} {v : Value} {t : T} (h : ShV w A v t) : cellT t = true := by cases h <;> rfl
theorem ShV.one {A : Nat → Prop} {v : Value} {t : T} (h : ShV w A v t) : v.oneCell' = true := by
 cases h with
 | sc h => revert h; cases v <;> simp [plainB, Value.oneCell']
 | empty => rfl
 | sl => rfl
theorem plain_one {v : Value} (h : plainB v = true) : v.oneCell' = true := by revert h; cases v <;> simp [plainB, Value.oneCell']
theorem FrC.one {v : Value} {t : T} (h : FrC w g look N v t) (ht : PM.cellT t = true) : v.oneCell' = true := by
 cases t with
 | sc u => obtain ⟨rfl, h⟩ := h; exact plain_one h
 | nil => obtain ⟨a, rfl⟩ := h; rfl
 | sl xs src => obtain ⟨⟨a, n, rfl, _⟩, _⟩ := h; rfl
 | win o off len => obtain ⟨_, ⟨a, n, rfl, _⟩, _⟩ := h; rfl
 | ptr o i j => obtain ⟨_, ⟨a, _, rfl⟩, _⟩ := h; rfl
 | fn f caps => obtain ⟨vs, rfl, _⟩ := h; rfl
 | _ => cases ht
theorem CellV.fr {row : Bool} {v : Value} {t : T} (h : CellV w g look N row v t) : FrC w g look N v t ∧ v.oneCell' = true := by
 unfold CellV at h
 cases row with
 | false => exact h
 | true => exact ⟨FrC.ofSh h, ShV.one h⟩
theorem CellV.one {row : Bool} {v : Value} {t : T} (h : CellV w g look N row v t) : v.oneCell' = true := h.fr.2
theorem lift1_ok (v : Value) : FrC w g look N v (lift1 v) := by
 unfold lift1
 split
 · exact ⟨none, rfl⟩
 · simp [FrC]
 ·
  split
  · exact ⟨rfl, by assumption⟩
  · trivial
theorem lift_ok (v : Value) : FrV w g look N v (lift v) := by
 cases v with
 | agg cs =>
  refine ⟨cs, rfl, by simp, fun i c hc => ?_⟩
  simp only [List.getElem?_map, Option.map_eq_some_iff] at hc
  obtain ⟨u, hu, rfl⟩ := hc
  exact ⟨u, by simpa using hu, lift1_ok u⟩
 | _ =>
  have h := fun v => lift1_ok (w := w) (g := g) (look := look) (N := N) v
  all_goals first
   | (rw [frV_eq (by intro cs; simp only [lift, lift1]; (repeat' split) <;> simp), frA_eq (by intro cs; simp only [lift, lift1]; (repeat' split) <;> simp)]; exact h _)
theorem eval_ok {cx : Cx} {tmps : List T} {a : Act} (R : Rel cx g tmps look a w) (x : Operand) : FrV w g look (NN cx w g look) (a.eval x) (evalT tmps x) := by
 cases x with
 | tmp t =>
  simp only [evalT]
  cases h : tmps[t]? with
  | none => exact trivial
  | some y => exact R.tm t y h
 | const v => exact lift_ok v
 | func f => exact ⟨#[], rfl, rfl, fun i c hc => by simp at hc⟩
 | global g' => exact trivial
end
end Go.Proofs.YtmjmoagmolgacaaGreatDoor.PM
namespace Go.Proofs.YtmjmoagmolgacaaGreatDoor.PM
open Go
section
variable {P : Program} {w : World} {g : Nat → Option Nat} {look : Nat → Ob} {N : Nat → Prop} {Q : Value → T → Prop}
theorem sz_info {t : TypeId} {n : Nat} (h : szT P t = some n) : (P.info? t).map (·.size) = some n := h
theorem sizeOf_run {t : TypeId} {n : Nat} (h : szT P t = some n) (w : World) : (sizeOf t).run P w = .ok n w := by
 unfold szT at h
 cases hi : P.info? t with
 | none => simp [hi] at h
 | some i => simp [hi] at h; simp [sizeOf, typeInfo, hi, h]
theorem isAgg_run {t : TypeId} {b : Bool} (h : aggT P t = some b) (w : World) : (isAgg t).run P w = .ok b w := by
 unfold aggT at h
 cases hi : P.underlying t with
 | none => simp [hi] at h
 | some d =>
  simp only [hi, Option.map_some, Option.some.injEq] at h
  unfold isAgg
  rw [Sem.run_bind, run_underlying hi w]
  subst h
  cases d <;> rfl
theorem zero_run {t : TypeId} {z : T} (h : zeroT P t = some z) (w : World) : ∃ v, (zeroValue t).run P w = .ok v w ∧ z = lift v ∧ ((P.info? t).bind (·.zero)) = some v := by
 unfold zeroT at h
 cases hi : P.info? t with
 | none => simp [hi] at h
 | some i =>
  simp only [hi, Option.bind_some, Option.map_eq_some_iff] at h
  obtain ⟨v, hv, rfl⟩ := h
  exact ⟨v, by simp [zeroValue, typeInfo, hi, hv], rfl, by simp [hi, hv]⟩
def CellsAt (w : World) (b off : Nat) (Q : Value → T → Prop) (cs : List T) : Prop := ∀ (j : Nat) t, cs[j]? = some t → ∃ c, w.cell? ⟨b, off + j, none⟩ = some c ∧ Q c t
def Took (Q : Value → T → Prop) (v : Value) (y : T) : Prop := (∃ cs vs, y = .agg cs ∧ v = .agg vs ∧ vs.size = cs.length ∧ ∀ (i : Nat) t, cs[i]? = some t → ∃ c, vs[i]? = some c ∧ Q c t) ∨ Q v y
theorem take_run {t : TypeId} {cs : List T} {j : Nat} {y : T} {l : List Nat} (h : (takeCells P t cs j).run look = some (y, l)) {b off : Nat} (hc : CellsAt w b off Q cs) :
 ∃ v, (Instr.loadAt t (.pointer (some ⟨b, off + j, none⟩))).run P w = .ok v w ∧ Took Q v y := by
 simp only [takeCells, bind_some, opt_some, guard_some] at h
 obtain ⟨n, _, _, ⟨hn, _⟩, ⟨ag, _, _, ⟨ha, _⟩, ⟨_, _, _, ⟨hle, _⟩, h, _⟩, _⟩, _⟩ := h
 have hle := of_decide_eq_true hle
 cases ag with
 | true =>
  rw [if_pos rfl, pure_some] at h
  obtain ⟨rfl, _⟩ := h
  have hlen : ((cs.drop j).take n).length = n := by simp; omega
  have hex : ∃ vs : List Value, vs.length = n ∧ ∀ i, i < n → ∃ t c, (cs.drop j)[i]? = some t ∧ vs[i]? = some c ∧ w.cell? ⟨b, off + j + i, none⟩ = some c ∧ Q c t := by
   have key : ∀ i, i < n → ∃ t c, (cs.drop j)[i]? = some t ∧ w.cell? ⟨b, off + j + i, none⟩ = some c ∧ Q c t := fun i hi => by
    have h1 : j + i < cs.length := by omega
    obtain ⟨c, h2, h3⟩ := hc (j + i) _ (List.getElem?_eq_getElem h1)
    exact ⟨_, c, by rw [List.getElem?_drop, List.getElem?_eq_getElem h1], by rw [Nat.add_assoc]; exact h2, h3⟩
   refine ⟨(List.range n).map fun i => (w.cell? ⟨b, off + j + i, none⟩).getD undef, by simp, fun i hi => ?_⟩
   obtain ⟨t, c, h1, h2, h3⟩ := key i hi
   exact ⟨t, c, h1, by simp [hi, h2], h2, h3⟩
  obtain ⟨vs, hvl, hvs⟩ := hex
  refine ⟨.agg vs.toArray, ?_, .inl ⟨_, _, rfl, rfl, by simp [hvl, hlen], fun i t ht => ?_⟩⟩
  ·
   have hu : ∃ d, P.underlying t = some d ∧ d.isRow = true := by
    unfold aggT at ha
    cases hd : P.underlying t with
    | none => simp [hd] at ha
    | some d =>
     refine ⟨d, rfl, ?_⟩
     simp only [hd, Option.map_some, Option.some.injEq] at ha
     revert ha
     cases d <;> simp [TypeDesc.isRow]
   obtain ⟨d, hu, hd⟩ := hu
   refine run_loadAt_mid w b (off + j) t vs d (fun i v hv => ?_) hu hd (by rw [sz_info hn, hvl])
   have hi : i < n := by have := (List.getElem?_eq_some_iff.1 hv).1; omega
   obtain ⟨_, c, _, h2, h3, _⟩ := hvs i hi
   rw [h2] at hv
   obtain rfl := Option.some.inj hv
   exact h3
  ·
   have hi : i < n := by have := (List.getElem?_eq_some_iff.1 ht).1; omega
   obtain ⟨t', c, h1, h2, _, h3⟩ := hvs i hi
   rw [List.getElem?_take_of_lt hi, h1] at ht
   obtain rfl := Option.some.inj ht
   exact ⟨c, by simpa using h2, h3⟩
 | false =>
  simp only [Bool.false_eq_true, if_false, opt_some] at h
  obtain ⟨c, h2, h3⟩ := hc j _ h.1
  refine ⟨c, ?_, .inr h3⟩
  simp [Instr.loadAt, Instr.sureAddr, loadVar, isAgg_run ha, h2]
theorem Took.fr {v : Value} {y : T} (h : Took Q v y) (hq : ∀ c t, Q c t → FrC w g look N c t) : FrV w g look N v y := by
 rcases h with ⟨cs, vs, rfl, rfl, hs, h⟩ | h
 ·
  refine ⟨vs, rfl, hs, fun i c hc => ?_⟩
  obtain ⟨u, h1, h2⟩ := h i c hc
  exact ⟨u, h1, hq _ _ h2⟩
 ·
  have := hq _ _ h
  rw [frV_eq (by rintro cs rfl; exact this), frA_eq (by rintro cs rfl; exact this)]
  exact this
theorem root_cells {cx : Cx} {tmps : List T} {a : Act} (R : Rel cx g tmps look a w) {o : Nat} (ha : (look o).alive = true) {i : Nat} {x : T} (hx : (look o).xs[i]? = some x) :
 ∃ b, g o = some b ∧ x.width = (look o).k ∧ CellsAt w b (i * (look o).k) (CellV w g look (NN cx w g look) (look o).row) x.cells := by
 have h := (R.rt o ha).2
 cases hg : g o with
 | none => rw [hg] at h; rw [h.1] at hx; simp at hx
 | some b =>
  rw [hg] at h
  obtain ⟨c, E, fr, h1, _, h3⟩ := h
  obtain ⟨h4, h5⟩ := h3 i x hx
  refine ⟨b, rfl, h4, fun j t ht => ?_⟩
  obtain ⟨v, h6, h7⟩ := h5 j t ht
  exact ⟨v, by simp [World.cell?, h1, h6], h7⟩
theorem FrC.srcd {src : List (Nat × Nat)} (hs : okSrc look src) {c : Value} {t : T} (h : ShV w (srcA g N src) c t) : FrC w g look N c (match t with | .sl xs _ => .sl xs src | t => t) := by
 cases h with
 | sc h => exact ⟨rfl, h⟩
 | empty => exact ⟨⟨_, _, rfl, Nat.zero_le _, .inl rfl⟩, hs, fun _ => .empty⟩
 | sl hA hl hw hc hv => exact ⟨⟨_, _, rfl, hl, .inr ⟨_, _, rfl⟩⟩, hs, fun _ => .sl hA hl hw hc hv⟩
theorem load_ok {cx : Cx} {tmps : List T} {a : Act} (R : Rel cx g tmps look a w) {t : TypeId} {p y : T} {v : Value} {l : List Nat} (hp : FrV w g look (NN cx w g look) v p) (h : (loadR P t p).run look = some (y, l)) :
 ∃ u, (Instr.loadAt t v).run P w = .ok u w ∧ FrV w g look (NN cx w g look) u y := by
 cases p with
 | ptr o i j =>
  simp only [loadR, bind_some, obj_some, guard_some, opt_some] at h
  obtain ⟨x, _, _, ⟨rfl, _⟩, ⟨_, _, _, ⟨ha, _⟩, ⟨z, _, _, ⟨hz, _⟩, h, _⟩, _⟩, _⟩ := h
  obtain ⟨_, _, hp⟩ := hp
  obtain ⟨b, hg, rfl⟩ := hp ha
  obtain ⟨b', hg', _, hc⟩ := root_cells R ha hz
  obtain rfl := Option.some.inj (hg.symm.trans hg')
  obtain ⟨u, h1, h2⟩ := take_run (P := P) h hc
  exact ⟨u, h1, h2.fr fun c t hct => hct.fr.1⟩
 | rp x j src =>
  simp only [loadR, bind_some] at h
  obtain ⟨_, _, _, h1, ⟨z, _, _, h2, h3, _⟩, _⟩ := h
  obtain ⟨_, hs, hp⟩ := hp
  obtain ⟨b, off, hb, rfl, hc⟩ := hp (chk_some h1)
  obtain ⟨u, h4, h5⟩ := take_run (P := P) h2 (w := w) (b := b) (off := off) (Q := ShV w (srcA g (NN cx w g look) src)) hc
  refine ⟨u, h4, ?_⟩
  rcases h5 with ⟨cs, vs, rfl, rfl, hsz, hv⟩ | hv
  ·
   simp only [pure_some] at h3
   obtain ⟨rfl, _⟩ := h3
   refine ⟨vs, rfl, by simp [hsz], fun i c hc => ?_⟩
   simp only [List.getElem?_map, Option.map_eq_some_iff] at hc
   obtain ⟨t', ht', rfl⟩ := hc
   obtain ⟨u', h6, h7⟩ := hv i t' ht'
   refine ⟨u', h6, ?_⟩
   have := FrC.srcd hs h7
   cases t' <;> exact this
  ·
   have hf := FrC.srcd hs hv
   cases hv with
   | sc hpl => simp only [pure_some] at h3; obtain ⟨rfl, _⟩ := h3; exact hf
   | empty => simp only [pure_some] at h3; obtain ⟨rfl, _⟩ := h3; exact hf
   | sl => simp only [pure_some] at h3; obtain ⟨rfl, _⟩ := h3; exact hf
 | _ => simp only [loadR, fail_some] at h
end
end Go.Proofs.YtmjmoagmolgacaaGreatDoor.PM
namespace Go.Proofs.YtmjmoagmolgacaaGreatDoor.PM
open Go
section
variable {P : Program} {w : World} {g : Nat → Option Nat} {look : Nat → Ob} {cx : Cx} {tmps : List T} {a : Act}
theorem T.cells_of {t : T} (h : cellT t = true) : t.cells = [t] := by cases t <;> first | rfl | cases h
theorem one_cells {v : Value} (h : v.oneCell' = true) : v.cells = #[v] := by cases v <;> first | rfl | cases h
theorem frV_cells {N : Nat → Prop} {v : Value} {t : T} (h : FrV w g look N v t) (ht : t.cells.all cellT = true) :
 v.cells.size = t.cells.length ∧ ∀ (j : Nat) c, t.cells[j]? = some c → ∃ u, v.cells[j]? = some u ∧ FrC w g look N u c := by
 by_cases hc : ∃ cs, t = .agg cs
 ·
  obtain ⟨cs, rfl⟩ := hc
  obtain ⟨vs, rfl, h1, h2⟩ := h
  exact ⟨h1, h2⟩
 ·
  have hcl : t.cells = [t] := by cases t <;> first | rfl | exact absurd ⟨_, rfl⟩ hc
  rw [hcl] at ht
  have hct : cellT t = true := by simpa using ht
  have hf : FrC w g look N v t := by
   rw [frV_eq (by rintro cs rfl; cases hct), frA_eq (by rintro cs rfl; exact hc ⟨_, rfl⟩)] at h
   exact h
  have hv := one_cells (hf.one hct)
  rw [hcl, hv]
  refine ⟨rfl, fun j c hj => ?_⟩
  cases j with
  | zero => simp at hj; subst hj; exact ⟨v, rfl, hf⟩
  | succ j => simp at hj
theorem win_sh (R : Rel cx g tmps look a w) {o off len : Nat} {v : Value} (h : WinV w g look o off len v) (ha : (look o).alive = true) (hr : (look o).row = true) (hle : off + len ≤ (look o).xs.length)
 {A : Nat → Prop} (hA : ∀ b, g o = some b → A b) (hN : ∀ b, NN cx w g look b → A b) : ShV w A v (.sl (((look o).xs.drop off).take len) []) := by
 obtain ⟨_, _, h⟩ := h
 obtain ⟨ad, cap, rfl, hcap, hc⟩ := h ha
 have hlen : (((look o).xs.drop off).take len).length = len := by simp; omega
 by_cases hz : len = 0
 · subst hz; simp; exact .empty
 ·
  rcases hc with rfl | ⟨b, hg, rfl, hsz⟩
  · omega
  ·
   have key : ∀ (i : Nat) x, (((look o).xs.drop off).take len)[i]? = some x → (look o).xs[off + i]? = some x := fun i x hx => by
    have hi : i < len := by have := (List.getElem?_eq_some_iff.1 hx).1; omega
    rw [List.getElem?_take_of_lt hi, List.getElem?_drop] at hx
    exact hx
   have cells : ∀ (i : Nat) x, (((look o).xs.drop off).take len)[i]? = some x → x.width = (look o).k ∧ ∀ (j : Nat) t, x.cells[j]? = some t → ∃ c, w.cell? ⟨b, off * (look o).k + i * (look o).k + j, none⟩ = some c ∧ ShV w (NN cx w g look) c t := fun i x hx => by
    obtain ⟨b', hg', hw, hcs⟩ := root_cells R ha (key i x hx)
    obtain rfl := Option.some.inj (hg.symm.trans hg')
    refine ⟨hw, fun j t ht => ?_⟩
    obtain ⟨c, h1, h2⟩ := hcs j t ht
    rw [hr] at h2
    rw [← Nat.add_mul]
    exact ⟨c, h1, h2⟩
   have := ShV.sl (w := w) (A := A) (b := b) (off := off * (look o).k) (cap := cap) (k := (look o).k) (xs := ((look o).xs.drop off).take len) (cs := fun i j => (w.cell? ⟨b, off * (look o).k + i * (look o).k + j, none⟩).getD undef) (hA b hg) (by omega) (fun i x hx => (cells i x hx).1) (fun i x hx j t ht => by
    obtain ⟨c, h1, _⟩ := (cells i x hx).2 j t ht
    rw [h1]; rfl) (fun i x hx j t ht => by
    obtain ⟨c, h1, h2⟩ := (cells i x hx).2 j t ht
    rw [h1]
    exact h2.mono fun b hb => ⟨hN b hb, rfl⟩)
   rw [hlen] at this
   exact this
theorem view1_ok (R : Rel cx g tmps look a w) {v : Value} {t y : T} {l : List Nat} (hv : FrC w g look (NN cx w g look) v t) (h : (view1 t).run look = some (y, l)) :
 FrC w g look (NN cx w g look) v y ∧ ((∃ u, y = .sc u) ∨ ∃ xs src, y = .sl xs src ∧ valid look src) := by
 cases t with
 | sc u => simp only [view1, ret_some] at h; obtain ⟨rfl, _⟩ := h; exact ⟨hv, .inl ⟨_, rfl⟩⟩
 | nil =>
  simp only [view1, ret_some] at h
  obtain ⟨rfl, _⟩ := h
  obtain ⟨ad, rfl⟩ := hv
  exact ⟨⟨⟨_, _, rfl, Nat.zero_le _, .inl rfl⟩, okSrc_nil, fun _ => .empty⟩, .inr ⟨_, _, rfl, fun p hp => by simp at hp⟩⟩
 | sl xs src =>
  simp only [view1, bind_some, pure_some] at h
  obtain ⟨_, _, _, h1, ⟨rfl, _⟩, _⟩ := h
  exact ⟨hv, .inr ⟨_, _, rfl, chk_some h1⟩⟩
 | win o off len =>
  simp only [view1, bind_some, obj_some, guard_some, pure_some] at h
  obtain ⟨x, _, _, ⟨rfl, _⟩, ⟨_, _, _, ⟨hg, _⟩, ⟨rfl, _⟩, _⟩, _⟩ := h
  simp only [Bool.and_eq_true, decide_eq_true_eq] at hg
  obtain ⟨⟨ha, hr⟩, hle⟩ := hg
  have hlen : (((look o).xs.drop off).take len).length = len := by simp; omega
  have hsl : SlV (((look o).xs.drop off).take len).length v := by rw [hlen]; exact hv.2.1
  cases hm : (look o).may with
  | true =>
   rw [if_pos rfl]
   refine ⟨⟨hsl, ?_, fun _ => win_sh R hv ha hr hle (fun b hb => .inr ⟨(o, (look o).ver), by simp, hb⟩) (fun b hb => .inl hb)⟩, .inr ⟨_, _, rfl, ?_⟩⟩
   ·
    intro p hp
    simp at hp
    subst hp
    exact ⟨hv.1, Nat.le_refl _⟩
   ·
    intro p hp
    simp at hp
    subst hp
    exact ⟨ha, rfl⟩
  | false =>
   rw [if_neg (by simp)]
   refine ⟨⟨hsl, okSrc_nil, fun _ => win_sh R hv ha hr hle (fun b hb => .inl ?_) (fun b hb => .inl hb)⟩, .inr ⟨_, _, rfl, fun p hp => by simp at hp⟩⟩
   have := (R.blk o b ha hb).2
   rw [hm] at this
   exact this
 | _ => simp only [view1, fail_some] at h
theorem close1_ok (R : Rel cx g tmps look a w) {v : Value} {t y : T} {l : List Nat} (hv : FrC w g look (NN cx w g look) v t) (h : (close1 t).run look = some (y, l)) : ShV w (NN cx w g look) v y := by
 simp only [close1, bind_some] at h
 obtain ⟨z, _, _, h1, h2, _⟩ := h
 obtain ⟨h3, h4⟩ := view1_ok R hv h1
 rcases h4 with ⟨u, rfl⟩ | ⟨xs, src, rfl, _⟩
 ·
  simp only [pure_some] at h2
  obtain ⟨rfl, _⟩ := h2
  exact h3.toSh (.inl ⟨_, rfl⟩)
 ·
  cases src with
  | nil =>
   simp only [pure_some] at h2
   obtain ⟨rfl, _⟩ := h2
   exact h3.toSh (.inr ⟨_, rfl⟩)
  | cons p r => simp only [fail_some] at h2
theorem close1_form {t y : T} {l : List Nat} (h : (close1 t).run look = some (y, l)) : cellT y = true := by
 simp only [close1, bind_some] at h
 obtain ⟨z, _, _, h1, h2, _⟩ := h
 split at h2
 · simp only [pure_some] at h2; obtain ⟨rfl, _⟩ := h2; rfl
 · simp only [pure_some] at h2; obtain ⟨rfl, _⟩ := h2; rfl
 · simp only [fail_some] at h2
theorem close1_cell {t y : T} {l : List Nat} (h : (close1 t).run look = some (y, l)) : cellT t = true := by
 cases t <;> first | rfl | (simp only [close1, view1, bind_some, fail_some, false_and, exists_false] at h)
theorem close_ok (R : Rel cx g tmps look a w) {v : Value} {t y : T} {l : List Nat} (hv : FrV w g look (NN cx w g look) v t) (h : (close t).run look = some (y, l)) :
 v.cells.size = y.cells.length ∧ y.cells.all cellT = true ∧ (∀ (j : Nat) c, y.cells[j]? = some c → ∃ u, v.cells[j]? = some u ∧ ShV w (NN cx w g look) u c) := by
 by_cases hc : ∃ cs, t = .agg cs
 ·
  obtain ⟨cs, rfl⟩ := hc
  simp only [close, bind_some, pure_some] at h
  obtain ⟨ds, _, _, h1, ⟨rfl, _⟩, _⟩ := h
  obtain ⟨vs, rfl, h2, h3⟩ := hv
  obtain ⟨h4, h5⟩ := mapR_some h1
  refine ⟨by simp only [Value.cells, T.cells]; omega, ?_, fun j c hj => ?_⟩
  ·
   rw [List.all_eq_true]
   intro d hd
   obtain ⟨i, hi, rfl⟩ := List.getElem_of_mem hd
   obtain ⟨y, l', h6, h7⟩ := h5 i _ (List.getElem?_eq_getElem (by simp only [T.cells] at hi; omega))
   have := close1_form h7
   simp only [T.cells] at hi ⊢
   rw [List.getElem?_eq_getElem (by omega)] at h6
   obtain rfl := Option.some.inj h6
   exact this
  ·
   have hj' := (List.getElem?_eq_some_iff.1 hj).1
   simp only [T.cells] at hj hj'
   obtain ⟨y, l', h6, h7⟩ := h5 j _ (List.getElem?_eq_getElem (by omega))
   rw [hj] at h6
   obtain rfl := Option.some.inj h6
   obtain ⟨u, h8, h9⟩ := h3 j _ (List.getElem?_eq_getElem (by omega))
   exact ⟨u, h8, close1_ok R h9 h7⟩
 ·
  have h : (close1 t).run look = some (y, l) := by
   cases t <;> first | exact h | exact absurd ⟨_, rfl⟩ hc
  have hct := close1_cell h
  have hf : FrC w g look (NN cx w g look) v t := by
   rw [frV_eq (by rintro cs rfl; cases hct), frA_eq (by rintro cs rfl; exact hc ⟨_, rfl⟩)] at hv
   exact hv
  have hy := close1_form h
  rw [T.cells_of hy, one_cells (hf.one hct)]
  refine ⟨rfl, by simp [hy], fun j c hj => ?_⟩
  cases j with
  | zero => simp at hj; subst hj; exact ⟨v, rfl, close1_ok R hf h⟩
  | succ j => simp at hj
theorem splice_length {cs vs : List T} {j : Nat} (h : j + vs.length ≤ cs.length) : (splice cs j vs).length = cs.length := by simp [splice]; omega
theorem splice_get {cs vs : List T} {j i : Nat} (h : j + vs.length ≤ cs.length) : (splice cs j vs)[i]? = if i < j then cs[i]? else if i < j + vs.length then vs[i - j]? else cs[i]? := by
 unfold splice
 by_cases h1 : i < j
 · rw [if_pos h1, List.append_assoc, List.getElem?_append_left (by simp; omega), List.getElem?_take_of_lt h1]
 ·
  rw [if_neg h1]
  by_cases h2 : i < j + vs.length
  ·
   rw [if_pos h2, List.getElem?_append_left (by simp; omega), List.getElem?_append_right (by simp; omega)]
   congr 1
   simp; omega
  ·
   rw [if_neg h2, List.getElem?_append_right (by simp; omega), List.getElem?_drop]
   congr 1
   simp; omega
theorem withCells_cells {y : T} {cs : List T} (h : cs.length = y.width) (hc : (∃ ds, y = .agg ds) ∨ ∀ c ∈ cs, c.cells = [c]) : (y.withCells cs).cells = cs := by
 by_cases hy : ∃ ds, y = .agg ds
 · obtain ⟨ds, rfl⟩ := hy; rfl
 ·
  have hy1 : y.cells = [y] := by cases y <;> first | rfl | exact absurd ⟨_, rfl⟩ hy
  have hl : cs.length = 1 := by rw [h, T.width, hy1]; rfl
  match cs, hl with
  | [c], _ =>
   have : y.withCells [c] = c := by cases y <;> first | rfl | exact absurd ⟨_, rfl⟩ hy
   rw [this]
   exact (hc.resolve_left hy) c (by simp)
theorem store_ok (R : Rel cx g tmps look a w) {t : TypeId} {p x : T} {pv xv : Value} {wr : List (Nat × Ob)} {l : List Nat} (hp : FrV w g look (NN cx w g look) pv p) (hx : FrV w g look (NN cx w g look) xv x)
 (h : (storeR P t p x).run look = some (wr, l)) (dst : Option Tmp) :
 ∃ w', (Instr.storeAt t pv xv).run P w = .ok () w' ∧ Rel cx g (putT tmps dst undT) (updL look wr) (a.put dst undef) w' := by
 cases p with
 | ptr o i j =>
  simp only [storeR, bind_some, obj_some, guard_some, opt_some, pure_some] at h
  obtain ⟨ob, _, _, ⟨rfl, _⟩, ⟨_, _, _, ⟨hal, _⟩, ⟨y, _, _, ⟨hy, _⟩, ⟨n, _, _, ⟨hn, _⟩, ⟨x', _, _, hcl, ⟨_, _, _, ⟨hg, _⟩, ⟨rfl, _⟩, _⟩, _⟩, _⟩, _⟩, _⟩, _⟩ := h
  simp only [Bool.and_eq_true, beq_iff_eq, decide_eq_true_eq] at hal hg
  obtain ⟨ha, hm⟩ := hal
  obtain ⟨⟨hlen, hall⟩, hle⟩ := hg
  obtain ⟨_, _, hp⟩ := hp
  obtain ⟨b, hgb, rfl⟩ := hp ha
  obtain ⟨b', hg', hwid, hcells⟩ := root_cells R ha hy
  obtain rfl := Option.some.inj (hgb.symm.trans hg')
  have hv : xv.cells.size = x'.cells.length ∧ ∀ (j : Nat) c, x'.cells[j]? = some c → ∃ u, xv.cells[j]? = some u ∧ CellV w g look (NN cx w g look) (look o).row u c := by
   cases hr : (look o).row with
   | true =>
    rw [hr] at hcl
    simp only [closeIf, if_true] at hcl
    obtain ⟨h1, _, h2⟩ := close_ok R hx hcl
    exact ⟨h1, h2⟩
   | false =>
    rw [hr] at hcl
    simp only [closeIf, Bool.false_eq_true, if_false, ret_some] at hcl
    obtain ⟨rfl, _⟩ := hcl
    obtain ⟨h1, h2⟩ := frV_cells hx hall
    refine ⟨h1, fun j c hc => ?_⟩
    obtain ⟨u, h3, h4⟩ := h2 j c hc
    exact ⟨u, h3, h4, h4.one (List.all_eq_true.1 hall c (List.mem_of_getElem? hc))⟩
  have hone : ∀ u ∈ xv.cells.toList, u.oneCell' = true := fun u hu => by
   obtain ⟨q, hq, rfl⟩ := List.getElem_of_mem hu
   have hq' : q < x'.cells.length := by rw [← hv.1]; simpa using hq
   obtain ⟨u, h3, h4⟩ := hv.2 q _ (List.getElem?_eq_getElem hq')
   have : xv.cells.toList[q] = u := by
    have := h3
    rw [← Array.getElem?_toList, List.getElem?_eq_getElem hq] at this
    exact Option.some.inj this
   rw [this]
   exact h4.one
  have hroot := (R.rt o ha).2
  rw [hgb] at hroot
  obtain ⟨C, E, fr, hh, hfr, hxs⟩ := hroot
  have hin : ∀ q, q < xv.cells.toList.length → i * (look o).k + j + q < C.size := fun q hq => by
   have hq' : j + q < y.cells.length := by rw [Array.length_toList] at hq; omega
   obtain ⟨u, h3, _⟩ := (hxs i y hy).2 (j + q) _ (List.getElem?_eq_getElem hq')
   have := (Array.getElem?_eq_some_iff.1 h3).1
   omega
  have hst := run_storeCells_cells (P := P) b (i * (look o).k + j) xv.cells.toList 0 w
   (fun q hq => by simp [World.cell?, hh, hin q hq]) (fun q hq => hfr _ (.inl (by have := hin q hq; omega))) hone
  simp only [Nat.add_zero] at hst
  refine ⟨w.setCells b (i * (look o).k + j) xv.cells.toList, ?_, ?_⟩
  ·
   have hsz : ¬ (xv.cells.size ≠ n) := by omega
   simp [Instr.storeAt, Instr.sureAddr, storeVar, sizeOf_run hn, hsz, hst]
  ·
   have hvl : xv.cells.toList.length = x'.cells.length := by rw [Array.length_toList]; exact hv.1
   refine R.write ⟨ha, hm⟩ hgb { look o with ver := (look o).ver + 1, xs := (look o).xs.set i (y.withCells (splice y.cells j x'.cells)) } ⟨(R.rt o ha).1, ha, hm, rfl, Nat.lt_succ_self _⟩ rfl (fun c' hc' i' y' hy' => ?_) dst ?_
   ·
    obtain ⟨C', E', fr', hh', hsz', hout, hinn⟩ := hc'
    obtain ⟨rfl, rfl, rfl⟩ : C' = C ∧ E' = E ∧ fr' = fr := by
     have := hh'.symm.trans hh
     simp only [Option.some.injEq, Obj.cells.injEq] at this
     exact this
    show y'.width = (look o).k ∧ ∀ (q : Nat) t, y'.cells[q]? = some t → ∃ v, c'[i' * (look o).k + q]? = some v ∧ CellV w g look (NN cx w g look) (look o).row v t
    simp only [List.getElem?_set] at hy'
    by_cases hi : i = i'
    ·
     subst hi
     have hilt : i < (look o).xs.length := (List.getElem?_eq_some_iff.1 hy).1
     rw [if_pos rfl, if_pos hilt] at hy'
     obtain rfl := Option.some.inj hy'
     have hsl := splice_length (cs := y.cells) (vs := x'.cells) (j := j) (by omega)
     have hcs : (y.withCells (splice y.cells j x'.cells)).cells = splice y.cells j x'.cells := by
      refine withCells_cells hsl ?_
      by_cases hya : ∃ ds, y = .agg ds
      · exact .inl hya
      ·
       refine .inr fun c hc => ?_
       have hy1 : y.cells = [y] := by cases y <;> first | rfl | exact absurd ⟨_, rfl⟩ hya
       simp only [splice, List.mem_append] at hc
       rcases hc with (hc | hc) | hc
       ·
        have := List.mem_of_mem_take hc
        rw [hy1] at this
        simp at this
        subst this
        exact hy1
       · exact T.cells_of (List.all_eq_true.1 hall c hc)
       ·
        have := List.mem_of_mem_drop hc
        rw [hy1] at this
        simp at this
        subst this
        exact hy1
     refine ⟨by rw [T.width, hcs, hsl]; exact hwid, fun q t ht => ?_⟩
     rw [hcs, splice_get (by omega)] at ht
     by_cases h1 : q < j
     ·
      rw [if_pos h1] at ht
      obtain ⟨u, h3, h4⟩ := (hxs i y hy).2 q t ht
      exact ⟨u, (hout _ (.inl (by omega))).trans h3, h4⟩
     ·
      rw [if_neg h1] at ht
      by_cases h2 : q < j + x'.cells.length
      ·
       rw [if_pos h2] at ht
       obtain ⟨u, h3, h4⟩ := hv.2 _ t ht
       refine ⟨u, ?_, h4⟩
       have h5 := hinn (q - j) (by omega) (by have := hin (q - j) (by omega); omega)
       rw [show i * (look o).k + j + (q - j) = i * (look o).k + q by omega] at h5
       rw [h5]
       rw [Array.getElem?_toList]
       exact h3
      ·
       rw [if_neg h2] at ht
       obtain ⟨u, h3, h4⟩ := (hxs i y hy).2 q t ht
       exact ⟨u, (hout _ (.inr (by omega))).trans h3, h4⟩
    ·
     rw [if_neg hi] at hy'
     obtain ⟨h1, h2⟩ := hxs i' y' hy'
     refine ⟨h1, fun q t ht => ?_⟩
     obtain ⟨u, h3, h4⟩ := h2 q t ht
     refine ⟨u, (hout _ ?_).trans h3, h4⟩
     have hq : q < (look o).k := by rw [← h1]; exact (List.getElem?_eq_some_iff.1 ht).1
     have hk : j + x'.cells.length ≤ (look o).k := by have e : y.cells.length = (look o).k := hwid; omega
     rcases Nat.lt_or_ge i' i with h5 | h5
     ·
      have : (i' + 1) * (look o).k ≤ i * (look o).k := Nat.mul_le_mul_right _ h5
      rw [Nat.add_mul, Nat.one_mul] at this
      left; omega
     ·
      have h6 : i < i' := by omega
      have : (i + 1) * (look o).k ≤ i' * (look o).k := Nat.mul_le_mul_right _ h6
      rw [Nat.add_mul, Nat.one_mul] at this
      right; omega
   · exact ⟨#[], rfl, rfl, fun i c hc => by simp at hc⟩
 | _ => simp only [storeR, fail_some] at h
end
end Go.Proofs.YtmjmoagmolgacaaGreatDoor.PM
namespace Go.Proofs.YtmjmoagmolgacaaGreatDoor.PM
open Go
section
variable {P : Program} {w : World} {g : Nat → Option Nat} {look : Nat → Ob} {cx : Cx} {tmps : List T} {a : Act} {N : Nat → Prop}
theorem intOf_some {t : T} {i : Int} (h : intOf t = some i) : ∃ k, t = .sc (.int k i) := by
 cases t with
 | sc v => cases v <;> simp [intOf] at h; subst h; exact ⟨_, rfl⟩
 | _ => simp [intOf] at h
theorem frV_sc {v u : Value} (h : FrV w g look N v (.sc u)) : v = u ∧ plainB u = true := h
theorem bound_ok {t : T} {n m : Nat} {l : List Nat} {v : Value} (h : (bound t n).run look = some (m, l)) (hv : FrV w g look N v t) (y : Nat) (hy : n ≤ y) (code : BoundsCode) (w' : World) :
 m ≤ n ∧ (Instr.sliceBound v y code).run P w' = .ok m w' := by
 simp only [bound, bind_some, opt_some, guard_some, pure_some] at h
 obtain ⟨i, _, _, ⟨hi, _⟩, ⟨_, _, _, ⟨hb, _⟩, ⟨rfl, _⟩, _⟩, _⟩ := h
 obtain ⟨k, rfl⟩ := intOf_some hi
 obtain ⟨rfl, _⟩ := hv
 have hb := of_decide_eq_true hb
 refine ⟨by omega, ?_⟩
 simp only [Instr.sliceBound, asIntOf, Sem.run_bind, Sem.run_pure, Result.andThen_ok]
 rw [if_pos (by omega)]
 rfl
def OptV (w : World) (g : Nat → Option Nat) (look : Nat → Ob) (N : Nat → Prop) (v : Option Value) (t : Option T) : Prop := match v, t with
 | none, none => True
 | some v, some t => FrV w g look N v t
 | _, _ => False
theorem bounds_ok {lo hi : Option T} {lov hiv : Option Value} {len cap h l : Nat} {l₁ l₂ : List Nat} (hl : (hiB hi len).run look = some (h, l₁)) (hh : (loB lo h).run look = some (l, l₂)) (hcap : len ≤ cap)
 (H1 : OptV w g look N hiv hi) (H2 : OptV w g look N lov lo) (sl : Bool) (w' : World) :
 l ≤ h ∧ h ≤ len ∧ (Instr.sliceBounds sl len cap lov hiv none).run P w' = .ok (l, h, cap) w' := by
 cases hiv <;> cases hi <;> first | exact H1.elim | skip <;> cases lov <;> cases lo <;> first | exact H2.elim | skip
 ·
  simp only [hiB, ret_some] at hl
  simp only [loB, ret_some] at hh
  obtain ⟨rfl, _⟩ := hl
  obtain ⟨rfl, _⟩ := hh
  exact ⟨Nat.zero_le _, Nat.le_refl _, by simp [Instr.sliceBounds]⟩
 ·
  simp only [hiB, ret_some] at hl
  simp only [loB] at hh
  obtain ⟨rfl, _⟩ := hl
  obtain ⟨h1, h2⟩ := bound_ok (P := P) hh H2 _ (Nat.le_refl _) .sliceB w'
  exact ⟨h1, Nat.le_refl _, by simp [Instr.sliceBounds, h2]⟩
 ·
  simp only [hiB] at hl
  simp only [loB, ret_some] at hh
  obtain ⟨rfl, _⟩ := hh
  obtain ⟨h1, h2⟩ := bound_ok (P := P) hl H1 cap hcap (if sl then .sliceAcap else .sliceAlen) w'
  exact ⟨Nat.zero_le _, h1, by simp [Instr.sliceBounds, h2]⟩
 ·
  simp only [hiB] at hl
  simp only [loB] at hh
  obtain ⟨h1, h2⟩ := bound_ok (P := P) hl H1 cap hcap (if sl then .sliceAcap else .sliceAlen) w'
  obtain ⟨h3, h4⟩ := bound_ok (P := P) hh H2 _ (Nat.le_refl _) .sliceB w'
  exact ⟨h3, h1, by simp [Instr.sliceBounds, h2, h4]⟩
theorem ShV.inv {A : Nat → Prop} {v : Value} {xs : List T} (h : ShV w A v (.sl xs [])) : (xs = [] ∧ ∃ a cap, v = .slice a 0 cap) ∨ ∃ (b off cap k : Nat) (cs : Nat → Nat → Value), v = .slice (some ⟨b, off, none⟩) xs.length cap ∧ A b ∧ xs.length ≤ cap ∧ (∀ (i : Nat) x, xs[i]? = some x → x.width = k) ∧
 (∀ (i : Nat) x, xs[i]? = some x → ∀ (j : Nat) t, x.cells[j]? = some t → w.cell? ⟨b, off + i * k + j, none⟩ = some (cs i j)) ∧ ∀ (i : Nat) x, xs[i]? = some x → ∀ (j : Nat) t, x.cells[j]? = some t → ShV w A (cs i j) t := by
 generalize ht : T.sl xs [] = t at h
 cases h with
 | sc h => cases ht
 | empty => simp at ht; subst ht; exact .inl ⟨rfl, _, _, rfl⟩
 | sl hA hl hw hc hv => simp at ht; subst ht; exact .inr ⟨_, _, _, _, _, rfl, hA, hl, hw, hc, hv⟩
theorem elemT_some {t e : TypeId} (h : elemT P t = some e) : P.underlying t = some (.slice e) := by
 unfold elemT at h
 split at h
 · rename_i hd; rw [hd]; simpa using h
 · cases h
theorem wid_get {k : Nat} {xs : List T} (h : wid k xs = true) {i : Nat} {x : T} (hx : xs[i]? = some x) : x.width = k := by
 have := List.all_eq_true.1 h x (List.mem_of_getElem? hx)
 simpa using this
theorem sliceAt_slice {t e : TypeId} (hu : P.underlying t = some (.slice e)) {k : Nat} (hk : szT P e = some k) {ad : Option Addr} {len cap l h : Nat} {lov hiv : Option Value}
 (hb : ∀ w', (Instr.sliceBounds true len cap lov hiv none).run P w' = .ok (l, h, cap) w') :
 (Instr.sliceAt t (.slice ad len cap) lov hiv none).run P w = .ok (.slice (if cap = l then ad else ad.map (·.add (l * k))) (h - l) (cap - l)) w := by
 simp [Instr.sliceAt, Instr.slice, run_underlying hu, hb, sizeOf_run hk]
theorem slice_ok (R : Rel cx g tmps look a w) {t : TypeId} {x y : T} {lo hi mx : Option T} {xv : Value} {lov hiv mxv : Option Value} {lg : List Nat} (hx : FrV w g look (NN cx w g look) xv x)
 (H1 : OptV w g look (NN cx w g look) hiv hi) (H2 : OptV w g look (NN cx w g look) lov lo) (H3 : OptV w g look (NN cx w g look) mxv mx)
 (h : (sliceR P t x lo hi mx).run look = some (y, lg)) : ∃ u, (Instr.sliceAt t xv lov hiv mxv).run P w = .ok u w ∧ FrV w g look (NN cx w g look) u y := by
 simp only [sliceR, bind_some, guard_some] at h
 obtain ⟨_, _, _, ⟨hm, _⟩, h, _⟩ := h
 obtain rfl : mx = none := by simpa using hm
 obtain rfl : mxv = none := by cases mxv with | none => rfl | some v => exact H3.elim
 cases x with
 | sc v =>
  cases v with
  | string s =>
   simp only [bind_some, guard_some, pure_some] at h
   obtain ⟨_, _, _, ⟨hu, _⟩, ⟨h', _, _, hh, ⟨l', _, _, hl, ⟨rfl, _⟩, _⟩, _⟩, _⟩ := h
   obtain ⟨rfl, _⟩ := hx
   have hu : P.underlying t = some .string := by
    revert hu
    cases P.underlying t with
    | none => simp
    | some d => cases d <;> simp
   obtain ⟨h1, h2, h3⟩ := bounds_ok (P := P) hh hl (Nat.le_refl s.size) H1 H2 false w
   refine ⟨.string (s.extract l' h'), ?_, rfl, rfl⟩
   simp [Instr.sliceAt, Instr.slice, run_underlying hu, h3]
  | _ => simp only [fail_some] at h
 | nil =>
  simp only [bind_some, opt_some, pure_some] at h
  obtain ⟨e, _, _, ⟨he, _⟩, ⟨k, _, _, ⟨hk, _⟩, ⟨h', _, _, hh, ⟨l', _, _, hl, ⟨rfl, _⟩, _⟩, _⟩, _⟩, _⟩ := h
  obtain ⟨ad, rfl⟩ := hx
  have hbs := fun w' => bounds_ok (P := P) hh hl (Nat.le_refl 0) H1 H2 true w'
  obtain ⟨h1, h2, _⟩ := hbs w
  obtain rfl : h' = 0 := by omega
  obtain rfl : l' = 0 := by omega
  exact ⟨_, sliceAt_slice (elemT_some he) hk (fun w' => (hbs w').2.2), _, rfl⟩
 | sl xs src =>
  simp only [bind_some, opt_some, guard_some, pure_some] at h
  obtain ⟨e, _, _, ⟨he, _⟩, ⟨k, _, _, ⟨hk, _⟩, ⟨_, _, _, ⟨hw, _⟩, ⟨h', _, _, hh, ⟨l', _, _, hl, ⟨rfl, _⟩, _⟩, _⟩, _⟩, _⟩, _⟩ := h
  obtain ⟨⟨ad, cap, rfl, hcap, had⟩, hs, hv⟩ := hx
  have hbs := fun w' => bounds_ok (P := P) hh hl hcap H1 H2 true w'
  obtain ⟨h1, h2, _⟩ := hbs w
  refine ⟨_, sliceAt_slice (elemT_some he) hk (fun w' => (hbs w').2.2), ?_⟩
  have hlen : ((xs.take h').drop l').length = h' - l' := by simp; omega
  refine ⟨⟨_, _, by rw [hlen], by omega, ?_⟩, hs, fun hvl => ?_⟩
  ·
   rw [hlen]
   by_cases hz : h' - l' = 0
   · exact .inl hz
   ·
    right
    rcases had with hn | ⟨b, off, rfl⟩
    · omega
    ·
     rw [if_neg (by omega)]
     exact ⟨b, off + l' * k, by simp [Addr.add_mid]⟩
  ·
   by_cases hz : h' - l' = 0
   ·
    have : (xs.take h').drop l' = [] := List.eq_nil_of_length_eq_zero (by omega)
    rw [this, hz]
    exact .empty
   ·
    rcases (hv hvl).inv with ⟨rfl, _⟩ | ⟨b, off, cap', k', cs, he', hA, hl', hwk, hc, hcv⟩
    · simp at h2; omega
    ·
     simp only [Value.slice.injEq, true_and] at he'
     obtain ⟨rfl, rfl⟩ := he'
     have hkk : k' = k := by
      have hx0 : 0 < xs.length := by omega
      have := hwk 0 _ (List.getElem?_eq_getElem hx0)
      rw [← this]
      exact wid_get hw (List.getElem?_eq_getElem hx0)
     subst hkk
     rw [if_neg (by omega)]
     have key : ∀ (i : Nat) x, ((xs.take h').drop l')[i]? = some x → xs[l' + i]? = some x := fun i x hx => by
      rw [List.getElem?_drop] at hx
      have hi : l' + i < h' := by
       have := (List.getElem?_eq_some_iff.1 hx).1
       simp at this; omega
      rwa [List.getElem?_take_of_lt hi] at hx
     have := ShV.sl (w := w) (A := srcA g (NN cx w g look) src) (b := b) (off := off + l' * k') (cap := cap - l') (k := k') (xs := (xs.take h').drop l') (cs := fun i j => cs (l' + i) j) hA (by omega)
      (fun i x hx => hwk _ x (key i x hx)) (fun i x hx j t ht => by
       have := hc _ x (key i x hx) j t ht
       rw [Nat.add_mul] at this
       rw [← this]
       congr 2
       omega) (fun i x hx j t ht => hcv _ x (key i x hx) j t ht)
     rw [hlen] at this
     simpa [Addr.add_mid] using this
 | win o off len =>
  simp only [bind_some, opt_some, obj_some, guard_some, pure_some] at h
  obtain ⟨e, _, _, ⟨he, _⟩, ⟨k, _, _, ⟨hk, _⟩, ⟨ob, _, _, ⟨rfl, _⟩, ⟨_, _, _, ⟨hok, _⟩, ⟨h', _, _, hh, ⟨l', _, _, hl, ⟨rfl, _⟩, _⟩, _⟩, _⟩, _⟩, _⟩, _⟩ := h
  have hok : (look o).k = k := by simpa using hok
  obtain ⟨hb, ⟨ad, cap, rfl, hcap, had⟩, hv⟩ := hx
  have hbs := fun w' => bounds_ok (P := P) hh hl hcap H1 H2 true w'
  obtain ⟨h1, h2, _⟩ := hbs w
  refine ⟨_, sliceAt_slice (elemT_some he) hk (fun w' => (hbs w').2.2), hb, ⟨_, _, rfl, by omega, ?_⟩, fun hal => ?_⟩
  ·
   by_cases hz : h' - l' = 0
   · exact .inl hz
   ·
    right
    rcases had with hn | ⟨b, off, rfl⟩
    · omega
    ·
     rw [if_neg (by omega)]
     exact ⟨b, off + l' * k, by simp [Addr.add_mid]⟩
  ·
   obtain ⟨ad', cap', he', hc', hrest⟩ := hv hal
   simp only [Value.slice.injEq] at he'
   obtain ⟨rfl, _, rfl⟩ := he'
   refine ⟨_, _, rfl, by omega, ?_⟩
   by_cases hcl : cap = l'
   · exact .inl (by omega)
   ·
    right
    rcases hrest with rfl | ⟨b, hgb, rfl, hsz⟩
    · omega
    ·
     rw [if_neg hcl]
     refine ⟨b, hgb, by simp [Addr.add_mid, hok, Nat.add_mul], ?_⟩
     rw [show off + l' + (cap - l') = off + cap by omega]
     exact hsz
 | _ => simp only [fail_some] at h
end
end Go.Proofs.YtmjmoagmolgacaaGreatDoor.PM
namespace Go.Proofs.YtmjmoagmolgacaaGreatDoor.PM
open Go
section
variable {P : Program} {w : World} {g : Nat → Option Nat} {look : Nat → Ob} {cx : Cx} {tmps : List T} {a : Act} {N : Nat → Prop}
theorem indexAddr_ok (R : Rel cx g tmps look a w) {t : TypeId} {x ix y : T} {xv iv : Value} {lg : List Nat} (hx : FrV w g look (NN cx w g look) xv x) (hi : FrV w g look (NN cx w g look) iv ix)
 (h : (indexAddrR P t x ix).run look = some (y, lg)) : ∃ u, (Instr.indexAt t xv iv).run P w = .ok u w ∧ FrV w g look (NN cx w g look) u y := by
 simp only [indexAddrR, bind_some, opt_some] at h
 obtain ⟨i, _, _, ⟨hint, _⟩, h, _⟩ := h
 obtain ⟨ki, rfl⟩ := intOf_some hint
 obtain ⟨rfl, _⟩ := hi
 cases x with
 | sl xs src =>
  simp only [bind_some, opt_some, guard_some, pure_some] at h
  obtain ⟨e, _, _, ⟨he, _⟩, ⟨k, _, _, ⟨hk, _⟩, ⟨_, _, _, ⟨h0, _⟩, ⟨z, _, _, ⟨hz, _⟩, ⟨_, _, _, ⟨hw, _⟩, ⟨rfl, _⟩, _⟩, _⟩, _⟩, _⟩, _⟩ := h
  have h0 := of_decide_eq_true h0
  have hw : z.width = k := by simpa using hw
  obtain ⟨⟨ad, cap, rfl, hcap, had⟩, hs, hv⟩ := hx
  have hlt : i.toNat < xs.length := (List.getElem?_eq_some_iff.1 hz).1
  rcases had with hn | ⟨b, off, rfl⟩
  · omega
  ·
   have hrun : (Instr.indexAt t (.slice (some ⟨b, off, none⟩) xs.length cap) (.int ki i)).run P w = .ok (.pointer (some ⟨b, off + i.toNat * k, none⟩)) w := by
    have hlt' : 0 ≤ i ∧ i < xs.length := ⟨h0, by omega⟩
    simp [Instr.indexAt, asIntOf, run_underlying (elemT_some he), hlt', sizeOf_run hk, Addr.add_mid]
   refine ⟨_, hrun, ⟨_, _, rfl⟩, hs, fun hvl => ?_⟩
   rcases (hv hvl).inv with ⟨rfl, _⟩ | ⟨b', off', cap', k', cs, he', hA, hl', hwk, hc, hcv⟩
   · simp at hlt
   ·
    simp only [Value.slice.injEq, Option.some.injEq, Addr.mk.injEq, true_and, and_true] at he'
    obtain ⟨⟨rfl, rfl⟩, rfl⟩ := he'
    obtain rfl : k' = k := (hwk _ z hz).symm.trans hw
    exact ⟨b, off + i.toNat * k', hA, rfl, fun j t ht => ⟨_, hc _ z hz j t ht, hcv _ z hz j t ht⟩⟩
 | win o off len =>
  simp only [bind_some, opt_some, obj_some, guard_some, pure_some] at h
  obtain ⟨e, _, _, ⟨he, _⟩, ⟨k, _, _, ⟨hk, _⟩, ⟨ob, _, _, ⟨rfl, _⟩, ⟨_, _, _, ⟨hok, _⟩, ⟨rfl, _⟩, _⟩, _⟩, _⟩, _⟩ := h
  simp only [Bool.and_eq_true, beq_iff_eq, decide_eq_true_eq] at hok
  obtain ⟨hok, h0, h1⟩ := hok
  obtain ⟨hb, ⟨ad, cap, rfl, hcap, had⟩, hv⟩ := hx
  rcases had with hn | ⟨b, o', rfl⟩
  · omega
  ·
   have hrun : (Instr.indexAt t (.slice (some ⟨b, o', none⟩) len cap) (.int ki i)).run P w = .ok (.pointer (some ⟨b, o' + i.toNat * k, none⟩)) w := by
    simp [Instr.indexAt, asIntOf, run_underlying (elemT_some he), h0, h1, sizeOf_run hk, Addr.add_mid]
   refine ⟨_, hrun, hb, ⟨_, _, rfl⟩, fun hal => ?_⟩
   obtain ⟨ad', cap', he', hc', hrest⟩ := hv hal
   simp only [Value.slice.injEq, true_and] at he'
   obtain ⟨rfl, rfl⟩ := he'
   rcases hrest with rfl | ⟨b', hgb, hh, hsz⟩
   · omega
   ·
    simp only [Option.some.injEq, Addr.mk.injEq, and_true] at hh
    obtain ⟨rfl, rfl⟩ := hh
    exact ⟨b, hgb, by rw [hok, Nat.add_mul, Nat.add_zero]⟩
 | _ => simp only [fail_some] at h
theorem fieldT_some {t : TypeId} {f : Nat} {p : Nat × TypeId} (h : fieldT P t f = some p) : ∃ fs fd, P.underlying t = some (.struct fs) ∧ fs[f]? = some fd ∧ p = (fd.offset, fd.type) := by
 unfold fieldT at h
 split at h
 ·
  rename_i fs hd
  simp only [Option.map_eq_some_iff] at h
  obtain ⟨fd, h1, rfl⟩ := h
  exact ⟨fs, fd, hd, h1, rfl⟩
 · cases h
theorem fieldAt_run {t : TypeId} {f : Nat} {p : Nat × TypeId} (h : fieldT P t f = some p) {n : Nat} (hn : szT P p.2 = some n) (h0 : 0 < n) (b off : Nat) :
 (Instr.fieldAt t (.pointer (some ⟨b, off, none⟩)) f).run P w = .ok (.pointer (some ⟨b, off + p.1, none⟩)) w := by
 obtain ⟨fs, fd, h1, h2, rfl⟩ := fieldT_some h
 have h0' : ¬ n = 0 := by omega
 simp [Instr.fieldAt, run_underlying h1, h2, Instr.sureAddr, fieldPlace, sizeOf_run hn, h0', Addr.add_mid]
theorem ptr_field {o i j n : Nat} {v : Value} (h : PtrV g look o i j v) : ∃ b off, v = .pointer (some ⟨b, off, none⟩) ∧ PtrV g look o i (j + n) (.pointer (some ⟨b, off + n, none⟩)) := by
 obtain ⟨hb, ⟨b, off, rfl⟩, hal⟩ := h
 refine ⟨b, off, rfl, hb, ⟨_, _, rfl⟩, fun ha => ?_⟩
 obtain ⟨b', h1, h2⟩ := hal ha
 simp only [Value.pointer.injEq, Option.some.injEq, Addr.mk.injEq, and_true] at h2
 obtain ⟨rfl, rfl⟩ := h2
 exact ⟨b, h1, by rw [Nat.add_assoc]⟩
theorem rp_field {x : T} {j n : Nat} {src : List (Nat × Nat)} {v : Value} (h : RpV w g look N x j src v) : ∃ b off, v = .pointer (some ⟨b, off, none⟩) ∧ RpV w g look N x (j + n) src (.pointer (some ⟨b, off + n, none⟩)) := by
 obtain ⟨⟨b, off, rfl⟩, hs, hal⟩ := h
 refine ⟨b, off, rfl, ⟨_, _, rfl⟩, hs, fun ha => ?_⟩
 obtain ⟨b', off', h1, h2, h3⟩ := hal ha
 simp only [Value.pointer.injEq, Option.some.injEq, Addr.mk.injEq, and_true] at h2
 obtain ⟨rfl, rfl⟩ := h2
 exact ⟨b, off', h1, by rw [Nat.add_assoc], h3⟩
theorem part_ok {t : TypeId} {cs : List T} {off : Nat} {y : T} {l : List Nat} {vs : Array Value} (hsz : vs.size = cs.length) (hc : ∀ (i : Nat) c, cs[i]? = some c → ∃ u, vs[i]? = some u ∧ FrC w g look N u c)
 (h : (takeCells P t cs off).run look = some (y, l)) : ∃ u, (part t vs off).run P w = .ok u w ∧ FrV w g look N u y := by
 simp only [takeCells, bind_some, opt_some, guard_some] at h
 obtain ⟨n, _, _, ⟨hn, _⟩, ⟨ag, _, _, ⟨ha, _⟩, ⟨_, _, _, ⟨hle, _⟩, h, _⟩, _⟩, _⟩ := h
 have hle := of_decide_eq_true hle
 cases ag with
 | true =>
  rw [if_pos rfl, pure_some] at h
  obtain ⟨rfl, _⟩ := h
  refine ⟨.agg (vs.extract off (off + n)), by simp [part, isAgg_run ha, sizeOf_run hn], _, rfl, by simp; omega, fun i c hi => ?_⟩
  have hi' : i < n := by have := (List.getElem?_eq_some_iff.1 hi).1; simp at this; omega
  rw [List.getElem?_take_of_lt hi', List.getElem?_drop] at hi
  obtain ⟨u, h1, h2⟩ := hc _ c hi
  exact ⟨u, by simp [Array.getElem?_extract, h1]; omega, h2⟩
 | false =>
  simp only [Bool.false_eq_true, if_false, opt_some] at h
  obtain ⟨u, h1, h2⟩ := hc off y h.1
  refine ⟨u, by simp [part, isAgg_run ha, h1], ?_⟩
  rw [frV_eq (by rintro cs rfl; exact h2), frA_eq (by rintro cs rfl; exact h2)]
  exact h2
theorem len_ok {ts : Array TypeId} {x y : T} {xv : Value} {lg : List Nat} (hx : FrV w g look N xv x) (h : (lenR P ts x).run look = some (y, lg)) (ty : TypeId) :
 ∃ u, (Builtin.len_ ts ty #[xv]).run P w = .ok u w ∧ FrV w g look N u y := by
 simp only [lenR, bind_some, opt_some] at h
 obtain ⟨t, _, _, ⟨ht, _⟩, h, _⟩ := h
 cases hu : P.underlying t with
 | none => rw [hu] at h; simp only [fail_some] at h
 | some d =>
  rw [hu] at h
  split at h
  ·
   rename_i s hd
   obtain rfl := Option.some.inj hd
   obtain ⟨rfl, _⟩ := frV_sc hx
   simp only [pure_some] at h
   obtain ⟨rfl, _⟩ := h
   exact ⟨.int .i64 s.size, by simp [Builtin.len_, ht, run_underlying hu, goInt], rfl, rfl⟩
  ·
   rename_i hd
   obtain rfl := Option.some.inj hd
   obtain ⟨ad, rfl⟩ := hx
   simp only [pure_some] at h
   obtain ⟨rfl, _⟩ := h
   exact ⟨.int .i64 0, by simp [Builtin.len_, ht, run_underlying hu, goInt], rfl, rfl⟩
  ·
   rename_i hd
   obtain rfl := Option.some.inj hd
   obtain ⟨⟨ad, cap, rfl, _⟩, _⟩ := hx
   simp only [bind_some, pure_some] at h
   obtain ⟨_, _, _, _, ⟨rfl, _⟩, _⟩ := h
   refine ⟨_, ?_, rfl, rfl⟩
   simp [Builtin.len_, ht, run_underlying hu, goInt]
  ·
   rename_i hd
   obtain rfl := Option.some.inj hd
   obtain ⟨_, ⟨ad, cap, rfl, _⟩, _⟩ := hx
   simp only [pure_some] at h
   obtain ⟨rfl, _⟩ := h
   refine ⟨_, ?_, rfl, rfl⟩
   simp [Builtin.len_, ht, run_underlying hu, goInt]
  ·
   rename_i n _ hd
   obtain rfl := Option.some.inj hd
   simp only [pure_some] at h
   obtain ⟨rfl, _⟩ := h
   exact ⟨.int .i64 n, by simp [Builtin.len_, ht, run_underlying hu, goInt], rfl, rfl⟩
  · simp only [fail_some] at h
theorem pureOf_some {s : Sem Value} {v : Value} (h : pureOf s = some v) : s = Sem.pure v := by
 unfold pureOf at h
 split at h
 · obtain rfl := Option.some.inj h; rfl
 · cases h
theorem plain_guard {op : BinOp} {t : TypeId} {x y : Operand} {u v : Value} (h : plainB u = true) : eqGuard op t x y u v = pure () := by
 cases u <;> simp [plainB] at h
 · exact eqGuard_at_bool op t x y _ _
 · exact eqGuard_at_int op t x y _ _ _
 · exact eqGuard_at_string op t x y _ _
end
end Go.Proofs.YtmjmoagmolgacaaGreatDoor.PM
namespace Go.Proofs.YtmjmoagmolgacaaGreatDoor.PM
open Go
theorem fold_set (off : Nat) : ∀ (vs : List Value) (s : Nat) (cs : Array Value),
 ((vs.zipIdx s).foldl (fun cs (p : Value × Nat) => cs.setIfInBounds (off + p.2) p.1) cs).size = cs.size ∧
 (∀ q, (q < off + s ∨ off + s + vs.length ≤ q) → ((vs.zipIdx s).foldl (fun cs (p : Value × Nat) => cs.setIfInBounds (off + p.2) p.1) cs)[q]? = cs[q]?) ∧
 ∀ j, j < vs.length → off + s + j < cs.size → ((vs.zipIdx s).foldl (fun cs (p : Value × Nat) => cs.setIfInBounds (off + p.2) p.1) cs)[off + s + j]? = vs[j]?
 | [], s, cs => ⟨rfl, fun _ _ => rfl, fun j hj => by simp at hj⟩
 | v :: r, s, cs => by
  obtain ⟨h1, h2, h3⟩ := fold_set off r (s + 1) (cs.setIfInBounds (off + s) v)
  simp only [List.zipIdx_cons, List.foldl_cons]
  refine ⟨by rw [h1, Array.size_setIfInBounds], fun q hq => ?_, fun j hj hs => ?_⟩
  · rw [h2 q (by simp at hq; omega), Array.getElem?_setIfInBounds_ne (by simp at hq; omega)]
  ·
   cases j with
   | zero =>
    rw [h2 _ (.inl (by omega))]
    simp only [Nat.add_zero] at hs ⊢
    simp [hs]
   | succ j =>
    have := h3 j (by simp at hj; omega) (by rw [Array.size_setIfInBounds]; omega)
    rw [show off + (s + 1) + j = off + s + (j + 1) by omega] at this
    rw [this]
    simp
theorem fill_step (cells : Array Value) (v : Value) (off : Nat) :
 ∃ c' : Array Value, v.cells.zipIdx.foldl (fun cs (c, j) => cs.setIfInBounds (off + j) c) cells = c' ∧ c'.size = cells.size ∧ (∀ q, (q < off ∨ off + v.cells.size ≤ q) → c'[q]? = cells[q]?) ∧ ∀ j, j < v.cells.size → off + j < cells.size → c'[off + j]? = v.cells[j]? := by
 obtain ⟨h1, h2, h3⟩ := fold_set off v.cells.toList 0 cells
 refine ⟨_, rfl, ?_⟩
 have e : v.cells.zipIdx.foldl (fun cs (c, j) => cs.setIfInBounds (off + j) c) cells = (v.cells.toList.zipIdx 0).foldl (fun cs (p : Value × Nat) => cs.setIfInBounds (off + p.2) p.1) cells := by
  rw [← Array.foldl_toList]
  congr 1
  simp
 rw [e]
 refine ⟨h1, fun q hq => h2 q (by simpa using hq), fun j hj hs => ?_⟩
 have := h3 j (by simpa using hj) (by simpa using hs)
 rw [Nat.add_zero] at this
 rw [this]
 simp
def Meant (Q : Value → T → Prop) (cs : Array Value) (ts : List T) : Prop := cs.size = ts.length ∧ ∀ (i : Nat) t, ts[i]? = some t → ∃ c, cs[i]? = some c ∧ Q c t
theorem fill_ok {Q : Value → T → Prop} (P : Program) (place : Nat → Option (Nat × Nat)) (fs : List (Nat × Nat)) (hp : ∀ (i : Nat) x, fs[i]? = some x → place i = some x) :
 ∀ (ps : List (Nat × Value)) (qs : List (Nat × T)) (cs : Array Value) (ts ts' : List T), Meant Q cs ts → ps.length = qs.length →
  (∀ (m : Nat) p q, ps[m]? = some p → qs[m]? = some q → p.1 = q.1 ∧ Meant Q p.2.cells q.2.cells) → fillR P fs ts qs = some ts' → ∃ cs', Instr.fill place cs ps = some cs' ∧ Meant Q cs' ts'
 | [], [], cs, ts, ts', hm, _, _, h => ⟨cs, rfl, by simp only [fillR, Option.some.injEq] at h; exact h ▸ hm⟩
 | [], _ :: _, _, _, _, _, hl, _, _ => by simp at hl
 | _ :: _, [], _, _, _, _, hl, _, _ => by simp at hl
 | (i, v) :: ps, (i', t) :: qs, cs, ts, ts', hm, hl, hpq, h => by
  obtain ⟨hi, hv⟩ := hpq 0 _ _ rfl rfl
  simp only at hi hv
  subst hi
  simp only [fillR] at h
  split at h
  ·
   rename_i off n hf
   split at h
   ·
    rename_i hc
    obtain ⟨hn, hle⟩ := hc
    have hpl := hp i _ hf
    obtain ⟨c', he, h1, h2, h3⟩ := fill_step cs v off
    have hm' : Meant Q c' (splice ts off t.cells) := by
     refine ⟨by rw [h1, hm.1, splice_length (by omega)], fun q u hu => ?_⟩
     rw [splice_get (by omega)] at hu
     by_cases hq : q < off
     ·
      rw [if_pos hq] at hu
      obtain ⟨c, h4, h5⟩ := hm.2 q u hu
      exact ⟨c, (h2 q (.inl hq)).trans h4, h5⟩
     ·
      rw [if_neg hq] at hu
      by_cases hq2 : q < off + t.cells.length
      ·
       rw [if_pos hq2] at hu
       obtain ⟨c, h4, h5⟩ := hv.2 _ u hu
       have hh := h3 (q - off) (by rw [hv.1]; omega) (by rw [hm.1]; omega)
       rw [show off + (q - off) = q by omega] at hh
       exact ⟨c, hh.trans h4, h5⟩
      ·
       rw [if_neg hq2] at hu
       obtain ⟨c, h4, h5⟩ := hm.2 q u hu
       exact ⟨c, (h2 q (.inr (by rw [hv.1]; omega))).trans h4, h5⟩
    obtain ⟨cs', h6, h7⟩ := fill_ok P place fs hp ps qs c' _ ts' hm' (by simpa using hl) (fun m p q h8 h9 => hpq (m + 1) p q h8 h9) h
    refine ⟨cs', ?_, h7⟩
    unfold Instr.fill
    simp only [hpl]
    have h8 : ¬ ((v.cells.size ≠ n || decide (off + v.cells.size > cs.size)) = true) := by
     simp only [Bool.or_eq_true, decide_eq_true_eq, not_or, ne_eq, decide_not, Bool.not_eq_true', decide_eq_false_iff_not, Decidable.not_not]
     exact ⟨by rw [hv.1]; omega, by rw [hv.1, hm.1]; omega⟩
    rw [if_neg h8]
    exact he ▸ h6
   · cases h
  · cases h
section
variable {P : Program} {w : World} {g : Nat → Option Nat} {look : Nat → Ob} {cx : Cx} {tmps : List T} {a : Act} {N : Nat → Prop}
theorem fieldsM_run (P : Program) (w : World) (fs : List Field) (ps : List (Nat × Nat)) (h : (fs.mapM fun f => (szT P f.type).map fun n => (f.offset, n)) = some ps) :
 (fs.mapM fun f => Prod.mk f.offset <$> sizeOf f.type : Sem (List (Nat × Nat))).run P w = .ok ps w := by
 induction fs generalizing ps with
 | nil => simp at h; subst h; rfl
 | cons f r ih =>
  rw [List.mapM_cons] at h
  simp only [Option.bind_eq_bind, Option.bind_eq_some_iff, Option.map_eq_some_iff, Option.pure_def, Option.some.injEq] at h
  obtain ⟨x, ⟨n, hn, rfl⟩, ys, hy, rfl⟩ := h
  rw [List.mapM_cons]
  simp [sizeOf_run hn, ih ys hy]
theorem meant_fr {v : Value} {t : T} (h : FrV w g look N v t) (ht : t.cells.all cellT = true) : Meant (fun c t => FrC w g look N c t ∧ cellT t = true) v.cells t.cells := by
 obtain ⟨h1, h2⟩ := frV_cells h ht
 refine ⟨h1, fun i c hc => ?_⟩
 obtain ⟨u, h3, h4⟩ := h2 i c hc
 exact ⟨u, h3, h4, List.all_eq_true.1 ht c (List.mem_of_getElem? hc)⟩
theorem build_ok {t : TypeId} {qs : List (Nat × T)} {ps : List (Nat × Value)} {y : T} {lg : List Nat} (hl : ps.length = qs.length)
 (hpq : ∀ (m : Nat) p q, ps[m]? = some p → qs[m]? = some q → p.1 = q.1 ∧ FrV w g look N p.2 q.2)
 (h : (buildR P t qs).run look = some (y, lg)) : ∃ u, (Instr.build t ps.toArray).run P w = .ok u w ∧ FrV w g look N u y := by
 simp only [buildR, bind_some, opt_some, guard_some, pure_some] at h
 obtain ⟨z, _, _, ⟨hz, _⟩, ⟨fs, _, _, ⟨hfs, _⟩, ⟨_, _, _, ⟨hall, _⟩, ⟨cs, _, _, ⟨hf, _⟩, ⟨rfl, _⟩, _⟩, _⟩, _⟩, _⟩ := h
 rw [Bool.and_eq_true] at hall
 obtain ⟨v, hv, rfl, _⟩ := zero_run hz w
 have hzm := meant_fr (lift_ok (w := w) (g := g) (look := look) (N := N) v) hall.1
 have hpq' : ∀ (m : Nat) p q, ps[m]? = some p → qs[m]? = some q → p.1 = q.1 ∧ Meant (fun c t => FrC w g look N c t ∧ cellT t = true) p.2.cells q.2.cells := fun m p q h1 h2 => by
  obtain ⟨h3, h4⟩ := hpq m p q h1 h2
  exact ⟨h3, meant_fr h4 (List.all_eq_true.1 hall.2 q (List.mem_of_getElem? h2))⟩
 unfold fieldsT at hfs
 split at hfs
 ·
  rename_i fds hu
  have hM := fieldsM_run P w fds.toList fs hfs
  have hA : (fds.mapM fun f => Prod.mk f.offset <$> sizeOf f.type : Sem (Array (Nat × Nat))).run P w = .ok fs.toArray w := by
   rw [Array.mapM_eq_mapM_toList]
   simp [hM]
  obtain ⟨cs', h1, h2⟩ := fill_ok P (fun i => fs[i]?) fs (fun i x hx => hx) ps qs _ _ cs hzm hl hpq' hf
  refine ⟨.agg cs', ?_, cs', rfl, h2.1, fun i c hc => ?_⟩
  · simp [Instr.build, hv, run_underlying hu, hA, h1]
  ·
   obtain ⟨u, h3, h4⟩ := h2.2 i c hc
   exact ⟨u, h3, h4.1⟩
 ·
  rename_i n e hu
  simp only [Option.map_eq_some_iff] at hfs
  obtain ⟨k, hk, rfl⟩ := hfs
  obtain ⟨cs', h1, h2⟩ := fill_ok P (fun i => some (i * k, k)) _ (fun i x hx => by
   simp only [List.getElem?_map, Option.map_eq_some_iff] at hx
   obtain ⟨i', h3, rfl⟩ := hx
   have := (List.getElem?_eq_some_iff.1 h3)
   obtain ⟨h4, h5⟩ := this
   simp at h5
   rw [h5]) ps qs _ _ cs hzm hl hpq' hf
  refine ⟨.agg cs', ?_, cs', rfl, h2.1, fun i c hc => ?_⟩
  · simp [Instr.build, hv, run_underlying hu, sizeOf_run hk, h1]
  ·
   obtain ⟨u, h3, h4⟩ := h2.2 i c hc
   exact ⟨u, h3, h4.1⟩
 · cases hfs
end
end Go.Proofs.YtmjmoagmolgacaaGreatDoor.PM
namespace Go.Proofs.YtmjmoagmolgacaaGreatDoor.PM
open Go
section
variable {P : Program} {w w' : World} {g : Nat → Option Nat} {look : Nat → Ob} {cx : Cx} {tmps : List T} {a : Act} {N : Nat → Prop}
theorem alive_born (R : Rel cx g tmps look a w) {o : Nat} (h : (look o).alive = true) : (look o).born = true := (R.rt o h).1
theorem Rel.over (R : Rel cx g tmps look a w) {o : Nat} (ho : Own look o) (K : Ob) (hK : K.born = true ∧ K.alive = false ∧ (look o).ver ≤ K.ver) {n : Nat} (hb : (look n).born = false) (x : Ob)
 (hx : x.alive = true → x.born = true ∧ x.may = true ∧ x.row = (look o).row ∧ x.k = (look o).k ∧ ∀ (i : Nat) y, x.xs[i]? = some y → (look o).xs[i]? = some y) (hx0 : x.alive = true ∨ x = look n)
 (dst : Option Tmp) {v : Value} {val : T} (hv : FrV w (up g n (g o)) (up (up look o K) n x) (NN cx w (up g n (g o)) (up (up look o K) n x)) v val) :
 Rel cx (up g n (g o)) (putT tmps dst val) (up (up look o K) n x) (a.put dst v) w := by
 have hno : n ≠ o := fun e => by have := alive_born R ho.1; rw [e] at hb; rw [hb] at this; cases this
 have hlook : ∀ q, q ≠ n → q ≠ o → up (up look o K) n x q = look q := fun q h1 h2 => by rw [up_ne _ _ h1, up_ne _ _ h2]
 have hlo : up (up look o K) n x o = K := by rw [up_ne _ _ (Ne.symm hno), up_same]
 have hln : up (up look o K) n x n = x := up_same _ _ _
 have hne : ∀ q, (look q).born = true → q ≠ n := fun q hq e => by rw [e, hb] at hq; cases hq
 have C : Chg w g look w (up g n (g o)) (up (up look o K) n x) := by
  refine ⟨Nat.le_refl _, fun _ _ _ => rfl, rfl, rfl, rfl, fun q hq => ?_, fun q b hq hgq => ?_⟩
  ·
   have h1 := hne q hq
   by_cases h2 : q = o
   ·
    subst h2
    rw [hlo]
    exact ⟨hK.1, hK.2.2, fun h => by rw [hK.2.1] at h; cases h⟩
   ·
    rw [hlook q h1 h2, up_ne _ _ h1]
    exact ⟨hq, Nat.le_refl _, fun ha => ⟨ha, rfl, rfl, fun b _ => ⟨rfl, fun _ => rfl⟩⟩⟩
  ·
   by_cases h1 : q = n
   ·
    subst h1
    rw [up_same] at hgq
    exact .inl ⟨o, ho, hgq⟩
   ·
    unfold Own at hq
    rw [up_ne _ _ h1] at hgq
    by_cases h2 : q = o
    ·
     subst h2
     rw [hlo, hK.2.1] at hq
     cases hq.1
    ·
     rw [hlook q h1 h2] at hq
     exact .inl ⟨q, hq, hgq⟩
 have E := R.ext C
 refine R.step C dst hv (fun q ha => ?_) (fun q q' b h1 h2 h3 h4 => ?_) (fun q b ha hgq => ?_)
 ·
  by_cases h1 : q = n
  ·
   subst h1
   rw [hln] at ha
   obtain ⟨x1, x2, x3, x4, x5⟩ := hx ha
   intro _
   rw [hln, up_same]
   have hr := (R.rt o ho.1).2
   cases hgo : g o with
   | none =>
    rw [hgo] at hr
    refine ⟨x1, ?_, by rw [x3]; exact hr.2⟩
    cases hxs : x.xs with
    | nil => rfl
    | cons y r => have := x5 0 y (by rw [hxs]; rfl); rw [hr.1] at this; simp at this
   | some b =>
    rw [hgo] at hr
    obtain ⟨c, E', fr, h5, h6, h7⟩ := hr
    refine ⟨x1, c, E', fr, h5, fun i hi => ?_, fun i y hy => ?_⟩
    ·
     rcases hi with hi | hi
     · exact h6 i (.inl hi)
     · exact h6 i (.inr (by rw [← x4]; exact hi))
    obtain ⟨h8, h9⟩ := h7 i y (x5 i y hy)
    have hk : x.k = (look o).k := x4
    rw [hk, x3]
    refine ⟨h8, fun j t ht => ?_⟩
    obtain ⟨u, h10, h11⟩ := h9 j t ht
    have E2 := E
    rw [hgo] at E2
    exact ⟨u, h10, h11.mono E2⟩
  ·
   by_cases h2 : q = o
   · subst h2; rw [hlo, hK.2.1] at ha; cases ha
   ·
    rw [hlook q h1 h2] at ha
    exact RootV.mono E (R.rt q) (hlook q h1 h2) (up_ne _ _ h1) (fun _ _ => rfl)
 ·
  have key : ∀ q b, Own (up (up look o K) n x) q → up g n (g o) q = some b → ∃ p, Own look p ∧ g p = some b ∧ (p = o ↔ q = n) ∧ (q ≠ n → p = q) := fun q b hq hgq => by
   by_cases h1 : q = n
   ·
    subst h1
    rw [up_same] at hgq
    exact ⟨o, ho, hgq, ⟨fun _ => rfl, fun _ => rfl⟩, fun h => absurd rfl h⟩
   ·
    unfold Own at hq
    rw [up_ne _ _ h1] at hgq
    by_cases h2 : q = o
    · subst h2; rw [hlo, hK.2.1] at hq; cases hq.1
    ·
     rw [hlook q h1 h2] at hq
     exact ⟨q, hq, hgq, ⟨fun e => absurd e h2, fun e => absurd e h1⟩, fun _ => rfl⟩
  obtain ⟨p, hp1, hp2, hp3, hp4⟩ := key q b h1 h3
  obtain ⟨p', hp1', hp2', hp3', hp4'⟩ := key q' b h2 h4
  have hpp := R.inj p p' b hp1 hp1' hp2 hp2'
  subst hpp
  by_cases h5 : q = n
  ·
   have : p = o := hp3.2 h5
   exact h5.trans (hp3'.1 this).symm
  ·
   have h6 : q' ≠ n := fun e => h5 (hp3.1 (hp3'.2 e))
   exact (hp4 h5).symm.trans (hp4' h6)
 ·
  by_cases h1 : q = n
  ·
   subst h1
   rw [up_same] at hgq
   rw [hln] at ha ⊢
   obtain ⟨h2, h3⟩ := R.blk o b ho.1 hgq
   rw [if_pos ho.2] at h3
   exact ⟨h2, fun _ => h3, fun hm => by rw [(hx ha).2.1] at hm; cases hm⟩
  ·
   rw [up_ne _ _ h1] at hgq
   by_cases h2 : q = o
   · subst h2; rw [hlo, hK.2.1] at ha; cases ha
   ·
    rw [hlook q h1 h2] at ha ⊢
    obtain ⟨h3, h4⟩ := R.blk q b ha hgq
    refine ⟨h3, fun hm => by rw [if_pos hm] at h4; exact h4, fun hm => ?_⟩
    rw [hm] at h4
    exact (E.n b h4).1
theorem Rel.kill (R : Rel cx g tmps look a w) {o : Nat} (ho : Own look o) (K : Ob) (hK : K.born = true ∧ K.alive = false ∧ (look o).ver ≤ K.ver) : Rel cx g tmps (up look o K) a w := by
 have hlook : ∀ q, q ≠ o → up look o K q = look q := fun q h2 => up_ne _ _ h2
 have hlo : up look o K o = K := up_same _ _ _
 have C : Chg w g look w g (up look o K) := by
  refine ⟨Nat.le_refl _, fun _ _ _ => rfl, rfl, rfl, rfl, fun q hq => ?_, fun q b hq hgq => ?_⟩
  ·
   by_cases h2 : q = o
   ·
    subst h2
    rw [hlo]
    exact ⟨hK.1, hK.2.2, fun h => by rw [hK.2.1] at h; cases h⟩
   ·
    rw [hlook q h2]
    exact ⟨hq, Nat.le_refl _, fun ha => ⟨ha, rfl, rfl, fun b _ => ⟨rfl, fun _ => rfl⟩⟩⟩
  ·
   unfold Own at hq
   by_cases h2 : q = o
   · subst h2; rw [hlo, hK.2.1] at hq; cases hq.1
   · rw [hlook q h2] at hq; exact .inl ⟨q, hq, hgq⟩
 have E := R.ext C
 have hown : ∀ q, Own (up look o K) q → Own look q := fun q hq => by
  unfold Own at hq
  by_cases h2 : q = o
  · subst h2; exact ho
  · rw [hlook q h2] at hq; exact hq
 refine R.upd C R.size R.dfr (fun t x hx => (R.tm t x hx).mono E) (fun q ha => ?_) (fun q q' b h1 h2 h3 h4 => R.inj q q' b (hown q h1) (hown q' h2) h3 h4) (fun q b ha hgq => ?_)
 ·
  by_cases h2 : q = o
  · subst h2; rw [hlo, hK.2.1] at ha; cases ha
  ·
   rw [hlook q h2] at ha
   exact RootV.mono E (R.rt q) (hlook q h2) rfl (fun _ _ => rfl)
 ·
  by_cases h2 : q = o
  · subst h2; rw [hlo, hK.2.1] at ha; cases ha
  ·
   rw [hlook q h2] at ha ⊢
   obtain ⟨h3, h4⟩ := R.blk q b ha hgq
   refine ⟨h3, fun hm => by rw [if_pos hm] at h4; exact h4, fun hm => ?_⟩
   rw [hm] at h4
   exact (E.n b h4).1
theorem ptr_new {x : Ob} {n b : Nat} (hx : x.born = true) : FrV w (up g n (some b)) (up look n x) N (.pointer (some ⟨b, 0, none⟩)) (.ptr n 0 0) := by
 refine ⟨by rw [up_same]; exact hx, ⟨_, _, rfl⟩, fun _ => ⟨b, up_same _ _ _, by simp⟩⟩
theorem win_new {x : Ob} {n b len cap : Nat} {look : Nat → Ob} {g : Nat → Option Nat} (hl : look n = x) (hg : g n = some b) (hx : x.born = true) (hc : len ≤ cap) (hs : cap * x.k ≤ csz w b) : FrV w g look N (.slice (some ⟨b, 0, none⟩) len cap) (.win n 0 len) := by
 refine ⟨by rw [hl]; exact hx, ⟨_, _, rfl, hc, .inr ⟨_, _, rfl⟩⟩, fun _ => ⟨_, _, rfl, hc, .inr ⟨b, hg, by simp, by rw [hl]; simpa using hs⟩⟩⟩
theorem box_new (R : Rel cx g tmps look a w) {n : Nat} (hb : (look n).born = false) {t : TypeId} {z : T} {v : Value} {k : Nat} (hv : FrV w g look (NN cx w g look) v z) (hw : z.width = k) (hc : z.cells.all cellT = true) (dst : Option Tmp) :
 ∃ u w', (newVar t v).run P w = .ok u w' ∧ Rel cx (up g n (some w.heap.size)) (putT tmps dst (.ptr n 0 0)) (up look n (Ob.mkBox k z)) (a.put dst (.pointer (some u))) w' := by
 obtain ⟨h1, h2⟩ := meant_fr hv hc
 refine ⟨⟨w.heap.size, 0, none⟩, { w with heap := w.heap.push (.cells v.cells t) }, by simp [newVar, newRow], ?_⟩
 refine R.new (w' := { w with heap := w.heap.push (.cells v.cells t) }) (c := v.cells) (E := t) (fr := (0, 0)) hb (Ob.mkBox k z) rfl rfl rfl rfl rfl rfl (fun i _ h => by simp at h) (fun i y hy => ?_) dst (ptr_new rfl)
 have hi : i = 0 := by
  have := (List.getElem?_eq_some_iff.1 hy).1
  simp at this; exact this
 subst hi
 simp at hy
 subst hy
 refine ⟨hw, fun j t' ht => ?_⟩
 obtain ⟨u, h3, h4⟩ := h2 j t' ht
 exact ⟨u, by simpa using h3, h4.1, h4.1.one h4.2⟩
end
end Go.Proofs.YtmjmoagmolgacaaGreatDoor.PM
namespace Go.Proofs.YtmjmoagmolgacaaGreatDoor.PM
open Go
section
variable {P : Program} {w w' : World} {g : Nat → Option Nat} {look : Nat → Ob} {cx : Cx} {tmps : List T} {a : Act} {N : Nat → Prop}
def RowM (w : World) (N : Nat → Prop) (k : Nat) (c : Array Value) (xs : List T) : Prop :=
 ∀ (i : Nat) x, xs[i]? = some x → x.width = k ∧ ∀ (j : Nat) t, x.cells[j]? = some t → ∃ v, c[i * k + j]? = some v ∧ ShV w N v t
theorem row_new (R : Rel cx g tmps look a w) {n : Nat} (hb : (look n).born = false) {k : Nat} {xs : List T} {c : Array Value} (hm : RowM w (NN cx w g look) k c xs) {E : TypeId} {fr : Nat × Nat}
 (hh : w'.heap = w.heap.push (.cells c E fr)) (os : w'.os = w.os) (tape : w'.tape = w.tape) (output : w'.output = w.output) (hfr : ∀ i, (i < c.size ∨ 2 ≤ k ∨ softOk = false) → ¬ (fr.1 ≤ i ∧ i < fr.2)) (len cap : Nat) (hl : len ≤ cap) (hc : cap * k ≤ c.size) (dst : Option Tmp) :
 Rel cx (up g n (some w.heap.size)) (putT tmps dst (.win n 0 len)) (up look n (Ob.mkRow k xs)) (a.put dst (.slice (some ⟨w.heap.size, 0, none⟩) len cap)) w' := by
 refine R.new (c := c) (E := E) (fr := fr) hb (Ob.mkRow k xs) rfl rfl hh os tape output hfr (fun i y hy => hm i y hy) dst (win_new (up_same _ _ _) (up_same _ _ _) rfl hl ?_)
 have : w'.heap[w.heap.size]? = some (.cells c E fr) := by rw [hh]; simp
 simp [csz, this]; exact hc
theorem RowM.set {k : Nat} {c c' : Array Value} {xs : List T} (h : RowM w N k c xs) {i : Nat} {x : T} (hx : x.width = k) (h1 : ∀ q, (q < i * k ∨ i * k + k ≤ q) → c'[q]? = c[q]?)
 (h2 : ∀ (j : Nat) t, x.cells[j]? = some t → ∃ v, c'[i * k + j]? = some v ∧ ShV w N v t) : RowM w N k c' (xs.set i x) := by
 intro i' y hy
 simp only [List.getElem?_set] at hy
 by_cases hi : i = i'
 ·
  subst hi
  rw [if_pos rfl] at hy
  split at hy
  ·
   obtain rfl := Option.some.inj hy
   exact ⟨hx, h2⟩
  · cases hy
 ·
  rw [if_neg hi] at hy
  obtain ⟨h3, h4⟩ := h i' y hy
  refine ⟨h3, fun j t ht => ?_⟩
  obtain ⟨v, h5, h6⟩ := h4 j t ht
  have hj : j < k := by rw [← h3]; exact (List.getElem?_eq_some_iff.1 ht).1
  refine ⟨v, (h1 _ ?_).trans h5, h6⟩
  rcases Nat.lt_or_ge i' i with h7 | h7
  ·
   have : (i' + 1) * k ≤ i * k := Nat.mul_le_mul_right _ h7
   rw [Nat.add_mul, Nat.one_mul] at this
   left; omega
  ·
   have h6 : i < i' := by omega
   have : (i + 1) * k ≤ i' * k := Nat.mul_le_mul_right _ h6
   rw [Nat.add_mul, Nat.one_mul] at this
   right; omega
theorem fillRow_ok {n k : Nat} : ∀ (ps : List (Nat × Value)) (qs : List (Nat × T)) (c : Array Value) (xs : List T), RowM w N k c xs → c.size = n * k → ps.length = qs.length →
 (∀ (m : Nat) p q, ps[m]? = some p → qs[m]? = some q → p.1 = q.1 ∧ q.1 < n ∧ q.2.width = k ∧ Meant (ShV w N) p.2.cells q.2.cells) →
 ∃ c', Instr.fill (fun i => some (i * k, k)) c ps = some c' ∧ c'.size = n * k ∧ RowM w N k c' (setAll xs qs)
 | [], [], c, xs, hm, hs, _, _ => ⟨c, rfl, hs, hm⟩
 | [], _ :: _, _, _, _, _, hl, _ => by simp at hl
 | _ :: _, [], _, _, _, _, hl, _ => by simp at hl
 | (i, v) :: ps, (i', t) :: qs, c, xs, hm, hs, hl, hpq => by
  obtain ⟨hi, hlt, hw, hv⟩ := hpq 0 _ _ rfl rfl
  simp only at hi hlt hw hv
  subst hi
  have hik : i * k + k ≤ n * k := by
   have : (i + 1) * k ≤ n * k := Nat.mul_le_mul_right _ hlt
   rwa [Nat.add_mul, Nat.one_mul] at this
  have hvs : v.cells.size = k := by rw [hv.1]; exact hw
  obtain ⟨c', he, h1, h2, h3⟩ := fill_step c v (i * k)
  have hm' : RowM w N k c' (xs.set i t) := hm.set hw (fun q hq => h2 q (by rw [hvs]; exact hq)) (fun j u hu => by
   obtain ⟨x, h4, h5⟩ := hv.2 j u hu
   have hj : j < k := by rw [← hw]; exact (List.getElem?_eq_some_iff.1 hu).1
   exact ⟨x, (h3 j (by omega) (by omega)).trans h4, h5⟩)
  obtain ⟨c'', h6, h7, h8⟩ := fillRow_ok ps qs c' _ hm' (by omega) (by simpa using hl) (fun m p q h9 h10 => hpq (m + 1) p q h9 h10)
  refine ⟨c'', ?_, h7, h8⟩
  unfold Instr.fill
  simp only
  have h9 : ¬ ((v.cells.size ≠ k || decide (i * k + v.cells.size > c.size)) = true) := by
   simp only [Bool.or_eq_true, decide_eq_true_eq, not_or, ne_eq, decide_not, Bool.not_eq_true', decide_eq_false_iff_not, Decidable.not_not]
   exact ⟨hvs, by omega⟩
  rw [if_neg h9]
  exact he ▸ h6
theorem zeros_row {zc : Array Value} {z : T} {k : Nat} (h0 : 0 < k) (hz : Meant (ShV w N) zc z.cells) (hw : z.width = k) (m n : Nat) (hnm : n ≤ m) :
 ((Array.range (m * k)).map (zc[· % zc.size]!)).size = m * k ∧ RowM w N k ((Array.range (m * k)).map (zc[· % zc.size]!)) (List.replicate n z) := by
 have hs : zc.size = k := by rw [hz.1]; exact hw
 refine ⟨by simp, fun i x hx => ?_⟩
 simp only [List.getElem?_replicate] at hx
 split at hx
 ·
  obtain rfl := Option.some.inj hx
  refine ⟨hw, fun j t ht => ?_⟩
  obtain ⟨v, h1, h2⟩ := hz.2 j t ht
  have hj : j < k := by rw [← hw]; exact (List.getElem?_eq_some_iff.1 ht).1
  have hik : i * k + k ≤ m * k := by
   have : (i + 1) * k ≤ m * k := Nat.mul_le_mul_right _ (by omega)
   rwa [Nat.add_mul, Nat.one_mul] at this
  refine ⟨v, ?_, h2⟩
  rw [Array.getElem?_map, Array.getElem?_range, if_pos (by omega)]
  simp only [Option.map_some, Option.some.injEq]
  have hmod : (i * k + j) % zc.size = j := by rw [hs, Nat.mul_comm, Nat.mul_add_mod]; exact Nat.mod_eq_of_lt hj
  rw [hmod, getElem!_def, h1]
 · cases hx
theorem close_meant (R : Rel cx g tmps look a w) {v : Value} {t y : T} {l : List Nat} (hv : FrV w g look (NN cx w g look) v t) (h : (close t).run look = some (y, l)) : Meant (ShV w (NN cx w g look)) v.cells y.cells :=
 let ⟨h1, _, h2⟩ := close_ok R hv h
 ⟨h1, h2⟩
theorem buildSlice_ok (R : Rel cx g tmps look a w) {t : TypeId} {n base : Nat} {qs : List (Nat × T)} {ps : List (Nat × Value)} {e : Eff} {lg : List Nat} (hb : (look base).born = false) (hl : ps.length = qs.length)
 (hpq : ∀ (m : Nat) p q, ps[m]? = some p → qs[m]? = some q → p.1 = q.1 ∧ FrV w g look (NN cx w g look) p.2 q.2)
 (h : (buildSliceR P t n qs base).run look = some (e, lg)) (dst : Option Tmp) :
 ∃ u w' g', (Instr.buildSlice t n ps.toArray).run P w = .ok u w' ∧ Rel cx g' (putT tmps dst e.val) (updL look e.wr) (a.put dst u) w' := by
 simp only [buildSliceR, bind_some, opt_some, guard_some, pure_some] at h
 obtain ⟨el, _, _, ⟨hel, _⟩, ⟨k, _, _, ⟨hk, _⟩, ⟨z, _, _, ⟨hz, _⟩, ⟨_, _, _, ⟨hsz, _⟩, ⟨rs, _, _, hrs, ⟨zc, _, _, hzc, ⟨_, _, _, ⟨hall, _⟩, ⟨rfl, _⟩, _⟩, _⟩, _⟩, _⟩, _⟩, _⟩, _⟩ := h
 simp only [Bool.and_eq_true, decide_eq_true_eq, List.all_eq_true, beq_iff_eq] at hsz hall
 obtain ⟨hsz, hk0⟩ := hsz
 obtain ⟨hall, hzw⟩ := hall
 obtain ⟨zv, hzv, rfl, _⟩ := zero_run hz w
 have hzm := close_meant R (lift_ok zv) hzc
 obtain ⟨hrl, hrr⟩ := mapR_some hrs
 by_cases hn : n = 0
 ·
  subst hn
  have hr0 : rs = [] := by
   cases rs with
   | nil => rfl
   | cons p r => exact absurd (hall p (by simp)).1 (by omega)
  subst hr0
  have hp0 : ps = [] := List.eq_nil_of_length_eq_zero (by simp at hrl; omega)
  subst hp0
  refine ⟨.slice (some ⟨w.heap.size, 0, none⟩) 0 0, { w with heap := w.heap.push (.cells #[] el) }, up g base (some w.heap.size), ?_, ?_⟩
  · simp [Instr.buildSlice, run_underlying (elemT_some hel), sizeOf_run hk, Instr.fill, newRow, Array.range_zero']
  · exact row_new (w' := { w with heap := w.heap.push (.cells #[] el) }) R hb (c := #[]) (E := el) (xs := setAll (List.replicate 0 zc) []) (fr := (0, 0)) (fun i x hx => by simp [setAll] at hx) rfl rfl rfl rfl (fun i _ h => by simp at h) 0 0 (Nat.le_refl _) (by simp) dst
 obtain ⟨hc2, hc3⟩ := zeros_row hk0 hzm hzw n n (Nat.le_refl _)
 have h0 : ¬ n * k = 0 := fun h => by rcases Nat.mul_eq_zero.1 h with h | h <;> omega
 obtain ⟨c', hf1, hf2, hf3⟩ := fillRow_ok (n := n) ps rs _ _ hc3 hc2 (by omega) (fun m p q h1 h2 => by
  have hm : m < qs.length := by have := (List.getElem?_eq_some_iff.1 h1).1; omega
  obtain ⟨y, l', h3, h4⟩ := hrr m _ (List.getElem?_eq_getElem hm)
  rw [h2] at h3
  obtain rfl := Option.some.inj h3
  simp only [bind_some, pure_some] at h4
  obtain ⟨y', _, _, h5, ⟨rfl, _⟩, _⟩ := h4
  obtain ⟨h6, h7⟩ := hpq m p _ h1 (List.getElem?_eq_getElem hm)
  obtain ⟨h8, h9⟩ := hall _ (List.mem_of_getElem? h2)
  exact ⟨h6, h8, h9, close_meant R h7 h5⟩)
 have hbig : ¬ (16777216 < n * k) := by omega
 refine ⟨.slice (some ⟨w.heap.size, 0, none⟩) n n, { w with heap := w.heap.push (.cells c' el) }, up g base (some w.heap.size), ?_, ?_⟩
 · simp [Instr.buildSlice, run_underlying (elemT_some hel), sizeOf_run hk, hbig, h0, hzv, hf1, newRow]
 · exact row_new (w' := { w with heap := w.heap.push (.cells c' el) }) R hb hf3 (E := el) (fr := (0, 0)) rfl rfl rfl rfl (fun i _ h => by simp at h) n n (Nat.le_refl _) (by omega) dst
end
end Go.Proofs.YtmjmoagmolgacaaGreatDoor.PM
namespace Go.Proofs.YtmjmoagmolgacaaGreatDoor.PM
open Go
section
variable {P : Program} {w w' : World} {g : Nat → Option Nat} {look : Nat → Ob} {cx : Cx} {tmps : List T} {a : Act} {N : Nat → Prop}
theorem bytes_info {t : TypeId} {b : Nat} (h : bytesT P t = some b) (w : World) : ∃ i, (typeInfo t).run P w = .ok i w ∧ P.info? t = some i ∧ i.bytes = b := by
 unfold bytesT at h
 cases hi : P.info? t with
 | none => simp [hi] at h
 | some i => simp [hi] at h; exact ⟨i, by simp [typeInfo, hi], rfl, h⟩
theorem wrap_small {n : Int} (h0 : 0 ≤ n) (h : n ≤ 70368744177664) : IntKind.i64.wrap n = n := by
 unfold IntKind.wrap IntKind.signed IntKind.bits
 simp only [if_true]
 simp
 omega
theorem makeSlice_ok (R : Rel cx g tmps look a w) {t : TypeId} {base : Nat} {l c : T} {lv cv : Value} {e : Eff} {lg : List Nat} (hb : (look base).born = false)
 (hlv : FrV w g look (NN cx w g look) lv l) (hcv : FrV w g look (NN cx w g look) cv c) (h : (makeSliceR P t l c base).run look = some (e, lg)) (dst : Option Tmp) :
 ∃ u w' g', (Instr.makeSlice t lv cv).run P w = .ok u w' ∧ Rel cx g' (putT tmps dst e.val) (updL look e.wr) (a.put dst u) w' := by
 simp only [makeSliceR, bind_some, opt_some, guard_some, pure_some] at h
 obtain ⟨el, _, _, ⟨hel, _⟩, ⟨k, _, _, ⟨hk, _⟩, ⟨z, _, _, ⟨hz, _⟩, ⟨by_, _, _, ⟨hby, _⟩, ⟨n, _, _, ⟨hn, _⟩, ⟨m, _, _, ⟨hm, _⟩, ⟨_, _, _, ⟨hok, _⟩, ⟨zc, _, _, hzc, ⟨_, _, _, ⟨hzw, _⟩, ⟨rfl, _⟩, _⟩, _⟩, _⟩, _⟩, _⟩, _⟩, _⟩, _⟩, _⟩ := h
 simp only [Bool.and_eq_true, decide_eq_true_eq, beq_iff_eq] at hok hzw
 obtain ⟨⟨h0, hnm, hmb, hmm⟩, hk0⟩ := hok
 obtain ⟨kl, rfl⟩ := intOf_some hn
 obtain ⟨kc, rfl⟩ := intOf_some hm
 obtain ⟨rfl, _⟩ := hlv
 obtain ⟨rfl, _⟩ := hcv
 obtain ⟨zv, hzv, rfl, _⟩ := zero_run hz w
 obtain ⟨i, hi, _, rfl⟩ := bytes_info hby w
 have hzm := close_meant R (lift_ok zv) hzc
 unfold most at hmb hmm
 have hwn : IntKind.i64.wrap n = n := wrap_small h0 (by omega)
 have hwm : IntKind.i64.wrap m = m := wrap_small (by omega) (by omega)
 have hmb' : (i.bytes : Int) * m ≤ 70368744177664 := by rw [Int.mul_comm]; exact hmb
 have hnot : ((decide (m < 0) || decide (281474976710656 < (i.bytes : Int) * m)) || decide (n < 0) || decide (m < n)) = false := by simp; omega
 obtain ⟨h1, h2⟩ := zeros_row hk0 hzm hzw m.toNat n.toNat (by omega)
 refine ⟨.slice (some ⟨w.heap.size, 0, none⟩) n.toNat m.toNat, { w with heap := w.heap.push (.cells ((Array.range (m.toNat * k)).map (zv.cells[· % zv.cells.size]!)) el) }, up g base (some w.heap.size), ?_, ?_⟩
 ·
  simp only [Instr.makeSlice, Sem.run_bind, run_underlying (elemT_some hel), Result.andThen_ok, asInt, asIntOf, Sem.run_pure, hi, hwn, hwm, gt_iff_lt, sizeOf_run hk, run_askRoom]
  rw [if_neg (by rw [show (2 : Int) ^ 48 = 281474976710656 from rfl, hnot]; simp)]
  by_cases hm0 : m.toNat * k = 0
  · simp [sizeOf_run hk, hm0, newRow, Array.range_zero']
  · simp [sizeOf_run hk, hm0, hzv, newRow]
 · exact row_new (w' := { w with heap := w.heap.push (.cells ((Array.range (m.toNat * k)).map (zv.cells[· % zv.cells.size]!)) el) }) R hb h2 (E := el) (fr := (0, 0)) rfl rfl rfl rfl (fun i _ h => by simp at h) n.toNat m.toNat (by omega) (by rw [h1]; exact Nat.le_refl _) dst
end
end Go.Proofs.YtmjmoagmolgacaaGreatDoor.PM
namespace Go.Proofs.YtmjmoagmolgacaaGreatDoor.PM
open Go
section
variable {P : Program} {w w' : World} {g : Nat → Option Nat} {look : Nat → Ob} {cx : Cx} {tmps : List T} {a : Act} {N : Nat → Prop}
theorem ShV.sc_inv {A : Nat → Prop} {v u : Value} (h : ShV w A v (.sc u)) : v = u ∧ plainB u = true := by
 generalize ht : T.sc u = t at h
 cases h with
 | sc hp => obtain rfl := T.sc.inj ht; exact ⟨rfl, hp⟩
 | empty => cases ht
 | sl => cases ht
def RowL (w : World) (N : Nat → Prop) (k : Nat) (news : List Value) (ns : List T) : Prop :=
 ∀ (i : Nat) y, ns[i]? = some y → ∀ (j : Nat) t, y.cells[j]? = some t → ∃ v, news[i * k + j]? = some v ∧ ShV w N v t
def Prefix (P : Program) (w : World) (k : Nat) (v : Value) (n : Nat) (news : List Value) : Prop := ∀ n', n' ≤ n → (Builtin.firstCells k n' v).run P w = .ok (news.take (n' * k)).toArray w
theorem src_cells {tx e' : TypeId} (hk : P.underlying tx = some (.slice e')) {k : Nat} {ns : List T} (hw : wid k ns = true) {b off cap : Nat}
 (hc : ∀ (i : Nat) y, ns[i]? = some y → ∀ (j : Nat) t, y.cells[j]? = some t → ∃ v, w.cell? ⟨b, off + i * k + j, none⟩ = some v ∧ ShV w N v t) :
 ∃ news, Src P k tx (.slice (some ⟨b, off, none⟩) ns.length cap) ns.length news w ∧ RowL w N k news ns ∧ Prefix P w k (.slice (some ⟨b, off, none⟩) ns.length cap) ns.length news := by
 have hget : ∀ q, q < ns.length * k → ∃ v, w.cell? ⟨b, off + q, none⟩ = some v ∧ v.oneCell' = true := fun q hq => by
  have hk0 : 0 < k := by rcases Nat.eq_zero_or_pos k with h | h; (subst h; simp at hq); exact h
  have hi : q / k < ns.length := Nat.div_lt_of_lt_mul (by rw [Nat.mul_comm]; exact hq)
  have hy := List.getElem?_eq_getElem hi
  have hwid := wid_get hw hy
  have hj : q % k < ns[q / k].cells.length := by rw [show ns[q / k].cells.length = k from hwid]; exact Nat.mod_lt _ hk0
  obtain ⟨v, h1, h2⟩ := hc _ _ hy _ _ (List.getElem?_eq_getElem hj)
  refine ⟨v, ?_, h2.one⟩
  rw [← h1]
  congr 2
  have := Nat.div_add_mod q k
  rw [Nat.mul_comm] at this
  omega
 refine ⟨(List.range (ns.length * k)).map fun q => (w.cell? ⟨b, off + q, none⟩).getD undef, Src.ofSlice w hk _ _ _ _ (by simp) (fun j u hu => ?_) (fun u hu => ?_), fun i y hy j t ht => ?_, fun n' hn' => ?_⟩
 ·
  simp only [List.getElem?_map, Option.map_eq_some_iff] at hu
  obtain ⟨q, hq, rfl⟩ := hu
  obtain ⟨hq1, hq2⟩ := List.getElem?_eq_some_iff.1 hq
  simp at hq1 hq2
  subst hq2
  obtain ⟨v, h1, _⟩ := hget j hq1
  rw [Addr.add_mid, h1]
  rfl
 ·
  obtain ⟨q, hq, rfl⟩ := List.mem_map.1 hu
  obtain ⟨v, h1, h2⟩ := hget q (by simpa using hq)
  rw [h1]
  exact h2
 ·
  obtain ⟨v, h1, h2⟩ := hc i y hy j t ht
  refine ⟨v, ?_, h2⟩
  have hi := (List.getElem?_eq_some_iff.1 hy).1
  have hj : j < k := by rw [← wid_get hw hy]; exact (List.getElem?_eq_some_iff.1 ht).1
  have hik : i * k + k ≤ ns.length * k := by
   have : (i + 1) * k ≤ ns.length * k := Nat.mul_le_mul_right _ hi
   rwa [Nat.add_mul, Nat.one_mul] at this
  rw [List.getElem?_map, List.getElem?_range (by omega)]
  simp only [Option.map_some, Option.some.injEq]
  rw [← Nat.add_assoc, h1]
  rfl
 ·
  have hle : n' * k ≤ ns.length * k := Nat.mul_le_mul_right _ hn'
  refine run_firstCells_some w k n' _ _ _ _ (by rw [List.length_take, List.length_map, List.length_range]; omega) (fun j u hu => ?_)
  have hj : j < n' * k := by have := (List.getElem?_eq_some_iff.1 hu).1; rw [List.length_take] at this; omega
  rw [List.getElem?_take_of_lt hj, List.getElem?_map, List.getElem?_range (by omega)] at hu
  obtain ⟨v, h1, _⟩ := hget j (by omega)
  simp only [Option.map_some, Option.some.injEq, h1, Option.getD_some] at hu
  rw [Addr.add_mid, h1, hu]
theorem prefix_none (k : Nat) (ad : Option Addr) (cap : Nat) : Prefix P w k (.slice ad 0 cap) 0 [] := fun n' hn' => by
 obtain rfl : n' = 0 := by omega
 cases ad <;> simp [Builtin.firstCells, loadCells, loadCellsFrom]
theorem src_none {tx e' : TypeId} (hk : P.underlying tx = some (.slice e')) (k : Nat) (ad : Option Addr) (cap : Nat) : Src P k tx (.slice ad 0 cap) 0 [] w := by
 cases ad with
 | none => exact Src.ofNil w hk cap
 | some ad => exact Src.ofSlice w hk ad 0 cap [] (by simp) (fun j u hu => by simp at hu) (fun u hu => by simp at hu)
theorem flat_sh {xs : List T} (h : flatL xs = true) {i : Nat} {x : T} (hx : xs[i]? = some x) {j : Nat} {t : T} (ht : x.cells[j]? = some t) : ∃ u, t = .sc u := by
 have h1 := List.all_eq_true.1 (List.all_eq_true.1 h x (List.mem_of_getElem? hx)) t (List.mem_of_getElem? ht)
 cases t <;> simp at h1
 exact ⟨_, rfl⟩
theorem elems_src (R : Rel cx g tmps look a w) {x : T} {xv : Value} {ns : List T} {lg : List Nat} {k : Nat} (hx : FrV w g look (NN cx w g look) xv x) (h : (elemsR x).run look = some (ns, lg)) (hw : wid k ns = true)
 {tx e' : TypeId} (hk : P.underlying tx = some (.slice e')) (hns : ∀ u, x ≠ .sc u) : ∃ news, Src P k tx xv ns.length news w ∧ RowL w (NN cx w g look) k news ns ∧ Prefix P w k xv ns.length news := by
 cases x with
 | nil =>
  simp only [elemsR, ret_some] at h
  obtain ⟨rfl, _⟩ := h
  obtain ⟨ad, rfl⟩ := hx
  exact ⟨[], src_none hk k ad 0, fun i y hy => by simp at hy, prefix_none k ad 0⟩
 | sc u => exact absurd rfl (hns u)
 | win o off len =>
  simp only [elemsR, bind_some, obj_some, guard_some, pure_some] at h
  obtain ⟨ob, _, _, ⟨rfl, _⟩, ⟨_, _, _, ⟨hg, _⟩, ⟨rfl, _⟩, _⟩, _⟩ := h
  simp only [Bool.and_eq_true, decide_eq_true_eq] at hg
  obtain ⟨⟨ha, hr⟩, hle⟩ := hg
  have hlen : (((look o).xs.drop off).take len).length = len := by simp; omega
  have hv := win_sh R (v := xv) hx ha hr hle (A := fun b => NN cx w g look b ∨ g o = some b) (fun b hb => .inr hb) (fun b hb => .inl hb)
  obtain ⟨_, _, hwv⟩ := hx
  obtain ⟨ad, cap, rfl, hcap, hrest⟩ := hwv ha
  by_cases hz : len = 0
  ·
   subst hz
   rw [List.take_zero]
   exact ⟨[], src_none hk k ad cap, fun i y hy => by simp at hy, prefix_none k ad cap⟩
  ·
   rcases hrest with rfl | ⟨b, hgb, rfl, hsz⟩
   · omega
   ·
    have hkk : (look o).k = k := by
     have h0 : 0 < (((look o).xs.drop off).take len).length := by omega
     have h1 := List.getElem?_eq_getElem h0
     rw [← wid_get hw h1]
     rw [List.getElem?_take_of_lt (by omega), List.getElem?_drop] at h1
     obtain ⟨_, _, h2, _⟩ := root_cells R ha h1
     exact h2.symm
    have := src_cells (P := P) (w := w) (N := NN cx w g look) hk hw (b := b) (off := off * (look o).k) (cap := cap) (fun i y hy j t ht => by
     have hi : i < len := by have := (List.getElem?_eq_some_iff.1 hy).1; omega
     rw [List.getElem?_take_of_lt hi, List.getElem?_drop] at hy
     obtain ⟨b', h1, _, h3⟩ := root_cells R ha hy
     obtain rfl := Option.some.inj (hgb.symm.trans h1)
     obtain ⟨v, h4, h5⟩ := h3 j t ht
     rw [hr] at h5
     refine ⟨v, ?_, h5⟩
     rw [← h4, hkk, Nat.add_mul])
    rw [hlen] at this ⊢
    exact this
 | sl xs src =>
  have hxs : valid look src ∧ ns = xs ∧ (src = [] ∨ flatL xs = true) := by
   cases src with
   | nil =>
    simp only [elemsR, ret_some] at h
    exact ⟨fun p hp => by simp at hp, h.1, .inl rfl⟩
   | cons p r =>
    simp only [elemsR, bind_some, guard_some, pure_some] at h
    obtain ⟨_, _, _, h1, ⟨_, _, _, ⟨h2, _⟩, ⟨rfl, _⟩, _⟩, _⟩ := h
    exact ⟨chk_some h1, rfl, .inr h2⟩
  obtain ⟨hvl, rfl, hfl⟩ := hxs
  obtain ⟨_, _, hv⟩ := hx
  rcases (hv hvl).inv with ⟨rfl, ad, cap, rfl⟩ | ⟨b, off, cap, k', cs, rfl, hA, hl', hwk, hc, hcv⟩
  · exact ⟨[], src_none hk k ad cap, fun i y hy => by simp at hy, prefix_none k ad cap⟩
  ·
   refine src_cells (P := P) (w := w) hk hw (fun i y hy j t ht => ⟨cs i j, ?_, ?_⟩)
   ·
    have h1 := hc i y hy j t ht
    rw [hwk i y hy |>.symm.trans (wid_get hw hy)] at h1
    exact h1
   ·
    have h1 := hcv i y hy j t ht
    rcases hfl with rfl | hfl
    · exact h1.mono fun b hb => ⟨srcA_nil.1 hb, rfl⟩
    ·
     obtain ⟨u, rfl⟩ := flat_sh hfl hy ht
     obtain ⟨h2, h3⟩ := h1.sc_inv
     rw [h2]
     exact .sc h3
 | _ => simp only [elemsR, fail_some] at h
theorem string_src {tx : TypeId} (hk : P.underlying tx = some .string) (s : ByteArray) : Src P 1 tx (.string s) s.size (byteCells s) w ∧ RowL w N 1 (byteCells s) (s.data.toList.map fun b => .sc (.int .u8 b.toNat)) := by
 refine ⟨Src.ofString w hk s, fun i y hy j t ht => ?_⟩
 simp only [List.getElem?_map, Option.map_eq_some_iff] at hy
 obtain ⟨u, hu, rfl⟩ := hy
 cases j with
 | zero =>
  simp only [T.cells, List.getElem?_cons_zero, Option.some.injEq] at ht
  subst ht
  exact ⟨.int .u8 u.toNat, by simp only [byteCells, Nat.mul_one, Nat.add_zero, List.getElem?_map, hu, Option.map_some], .sc rfl⟩
 | succ j => simp [T.cells] at ht
end
end Go.Proofs.YtmjmoagmolgacaaGreatDoor.PM
namespace Go.Proofs.YtmjmoagmolgacaaGreatDoor.PM
open Go
section
variable {P : Program} {w w' : World} {g : Nat → Option Nat} {look : Nat → Ob} {cx : Cx} {tmps : List T} {a : Act} {N : Nat → Prop}
theorem nextcap_le {need cap : Nat} (h : cap < need) : Builtin.nextslicecap need cap ≤ 2 * need + 192 := by
 unfold Builtin.nextslicecap
 split
 · omega
 ·
  split
  · omega
  ·
   have key : ∀ r c, c < need → Builtin.growBy need r c ≤ 2 * need + 192 := by
    intro r
    induction r with
    | zero => intro c hc; simp only [Builtin.growBy]; omega
    | succ r ih =>
     intro c hc
     simp only [Builtin.growBy]
     split
     · omega
     ·
      by_cases h2 : c + (c + 768) / 4 < need
      · exact ih _ h2
      ·
       cases r with
       | zero => simp only [Builtin.growBy]; omega
       | succ r => simp only [Builtin.growBy]; rw [if_pos (by omega)]; omega
   exact key 4 cap h
theorem zeroCells_size {zero : Array Value} {n k : Nat} (h : zero.size = k) : (Builtin.zeroCells zero n).size = n * k := by simp [Builtin.zeroCells, h]
theorem rowM_append {k : Nat} {olds news rest : List Value} {xs ns : List T} (h1 : RowL w N k olds xs) (h2 : RowL w N k news ns) (hl : olds.length = xs.length * k) (hw1 : ∀ (i : Nat) x, xs[i]? = some x → x.width = k) (hw2 : wid k ns = true)
 {c : Array Value} (hc : ∀ q, q < olds.length + news.length → c[q]? = (olds ++ news)[q]?) (hn : news.length = ns.length * k) : RowM w N k c (xs ++ ns) := by
 intro i x hx
 by_cases hi : i < xs.length
 ·
  rw [List.getElem?_append_left hi] at hx
  refine ⟨hw1 i x hx, fun j t ht => ?_⟩
  obtain ⟨v, h3, h4⟩ := h1 i x hx j t ht
  have hlt := (List.getElem?_eq_some_iff.1 h3).1
  exact ⟨v, by rw [hc _ (by omega), List.getElem?_append_left hlt]; exact h3, h4⟩
 ·
  rw [List.getElem?_append_right (by omega)] at hx
  have hwx := wid_get hw2 hx
  refine ⟨hwx, fun j t ht => ?_⟩
  obtain ⟨v, h3, h4⟩ := h2 _ x hx j t ht
  have hlt := (List.getElem?_eq_some_iff.1 h3).1
  have e : i * k + j = olds.length + ((i - xs.length) * k + j) := by
   rw [hl, ← Nat.add_assoc, ← Nat.add_mul]
   congr 2
   omega
  exact ⟨v, by rw [e, hc _ (by omega), List.getElem?_append_right (by omega), Nat.add_sub_cancel_left]; exact h3, h4⟩
theorem strR_some {e : TypeId} {k : Nat} {tx : TypeId} {b : Bool} {l : List Nat} (h : (strR P e k tx).run look = some (b, l)) : (b = false ∧ P.underlying tx = some (.slice e)) ∨ (b = true ∧ P.underlying tx = some .string ∧ k = 1) := by
 unfold strR at h
 split at h
 ·
  rename_i e' hu
  split at h
  · rename_i he; subst he; exact .inl ⟨(ret_some.1 h).1, hu⟩
  · simp only [fail_some] at h
 ·
  rename_i hu
  split at h
  · rename_i hk; exact .inr ⟨(ret_some.1 h).1, hu, hk⟩
  · simp only [fail_some] at h
 · simp only [fail_some] at h
theorem news_src (R : Rel cx g tmps look a w) {e : TypeId} {k : Nat} {tx : TypeId} {str : Bool} {l l' : List Nat} {x : T} {xv : Value} {ns : List T} (hx : FrV w g look (NN cx w g look) xv x)
 (h1 : (strR P e k tx).run look = some (str, l)) (h2 : (newsR x str).run look = some (ns, l')) (hw : wid k ns = true) : ∃ news, Src P k tx xv ns.length news w ∧ RowL w (NN cx w g look) k news ns := by
 rcases strR_some h1 with ⟨rfl, hu⟩ | ⟨rfl, hu, rfl⟩
 ·
  unfold newsR at h2
  split at h2
  · rename_i hb; cases hb
  · exact let ⟨n, h3, h4, _⟩ := elems_src R hx h2 hw hu (fun u hu => by cases hu); ⟨n, h3, h4⟩
  · exact let ⟨n, h3, h4, _⟩ := elems_src R hx h2 hw hu (fun u hu => by cases hu); ⟨n, h3, h4⟩
  · exact let ⟨n, h3, h4, _⟩ := elems_src R hx h2 hw hu (fun u hu => by cases hu); ⟨n, h3, h4⟩
  · simp only [fail_some] at h2
 ·
  unfold newsR at h2
  split at h2
  ·
   rename_i u _
   obtain ⟨rfl, _⟩ := hx
   cases xv with
   | string s =>
    simp only [elemsR, ret_some] at h2
    obtain ⟨rfl, _⟩ := h2
    obtain ⟨h3, h4⟩ := string_src (w := w) (N := NN cx w g look) hu s
    refine ⟨_, ?_, h4⟩
    have : (s.data.toList.map fun b => T.sc (.int .u8 b.toNat)).length = s.size := by simp
    rw [this]
    exact h3
   | _ => simp only [elemsR, fail_some] at h2
  · rename_i hb; cases hb
  · rename_i hb; cases hb
  · rename_i hb; cases hb
  · simp only [fail_some] at h2
theorem append_grow (R : Rel cx g tmps look a w) {base : Nat} (hb : (look base).born = false) {e t tx ty : TypeId} {i : TypeInfo} {z : Value} (ht : P.underlying t = some (.slice e)) (hi : P.info? e = some i) (hz : i.zero = some z) (hzs : z.cells.size = i.size)
 {ad : Option Addr} {len cap : Nat} {olds : List Value} {xs ns : List T} (hold : (Builtin.firstCells i.size len (.slice ad len cap)).run P w.drew = .ok olds.toArray w.drew) (hol : olds.length = len * i.size) (hxl : xs.length = len)
 (hO : RowL w (NN cx w g look) i.size olds xs) (hw1 : ∀ (q : Nat) x, xs[q]? = some x → x.width = i.size) {xv : Value} {news : List Value} (hs : Src P i.size tx xv ns.length news w) (hN : RowL w (NN cx w g look) i.size news ns) (hw2 : wid i.size ns = true)
 (hg : cap < len + ns.length) (hm1 : (len + ns.length) * i.bytes ≤ 70368744177664) (hm2 : len + ns.length ≤ 70368744177664) (dst : Option Tmp) :
 ∃ u w' g', (Builtin.append_ #[t, tx] ty #[.slice ad len cap, xv]).run P w = .ok u w' ∧ Rel cx g' (putT tmps dst (.win base 0 (len + ns.length))) (up look base (Ob.mkRow i.size (xs ++ ns))) (a.put dst u) w' := by
 have hn63 : ((len + ns.length : Nat) : Int) ≤ 9223372036854775807 := by omega
 have hfit : Builtin.nextslicecap (len + ns.length) cap * i.bytes ≤ 281474976710656 := by
  by_cases h0 : Builtin.nextslicecap (len + ns.length) cap ≤ 2 * (len + ns.length)
  ·
   have := Nat.mul_le_mul_right i.bytes h0
   rw [Nat.mul_assoc] at this
   omega
  ·
   have h256 : 256 ≤ cap := by
    unfold Builtin.nextslicecap at h0
    split at h0
    · omega
    ·
     split at h0
     · omega
     · omega
   have h1 := nextcap_le hg
   have h2 : 2 * (len + ns.length) + 192 ≤ 3 * (len + ns.length) := by omega
   have := Nat.mul_le_mul_right i.bytes (Nat.le_trans h1 h2)
   rw [Nat.mul_assoc] at this
   omega
 have hrun := run_append_grow_src (P := P) w t tx ty e i z ht hi hz ad len cap olds hold xv ns.length news hs hg hn63 hfit
 have hcap : len + ns.length ≤ grownCap w (len + ns.length) cap e := by simp [grownCap, Question.cut]
 refine ⟨_, _, up g base (some w.heap.size), hrun, ?_⟩
 have hnl := hs.newsLen
 have hsz : ((olds ++ news).toArray ++ Builtin.zeroCells z.cells (grownCap w (len + ns.length) cap e - (len + ns.length))).size = grownCap w (len + ns.length) cap e * i.size := by
  rw [Array.size_append, zeroCells_size hzs]
  simp only [List.size_toArray, List.length_append]
  rw [hol, hnl, ← Nat.add_mul, ← Nat.add_mul]
  congr 1
  omega
 refine row_new (w' := w.drew.alloc (.cells ((olds ++ news).toArray ++ Builtin.zeroCells z.cells (grownCap w (len + ns.length) cap e - (len + ns.length))) e)) R hb (c := (olds ++ news).toArray ++ Builtin.zeroCells z.cells (grownCap w (len + ns.length) cap e - (len + ns.length))) (E := e) (fr := (0, 0)) (rowM_append (rest := []) hO hN (by rw [hxl]; exact hol) hw1 hw2 (fun q hq => ?_) hnl) rfl rfl rfl rfl (fun i _ h => by simp at h) _ _ hcap (by rw [hsz]; exact Nat.le_refl _) dst
 rw [Array.getElem?_append_left (by simpa using hq)]
 simp
end
end Go.Proofs.YtmjmoagmolgacaaGreatDoor.PM
namespace Go.Proofs.YtmjmoagmolgacaaGreatDoor.PM
open Go
theorem lift1_cells (v : Value) : (lift1 v).cells = [lift1 v] := by
 unfold lift1
 split
 · rfl
 · rfl
 · split <;> rfl
theorem lift_width (v : Value) : (lift v).width = v.cells.size := by
 cases v with
 | agg cs => simp [lift, T.width, T.cells, Value.cells]
 | _ => simp only [lift, T.width, lift1_cells, Value.cells]; rfl
theorem up_up {α : Type} (f : Nat → α) (o : Nat) (x y : α) : up (up f o x) o y = up f o y := by
 funext q; unfold up; split <;> rfl
section
variable {P : Program} {w w' : World} {g : Nat → Option Nat} {look : Nat → Ob} {cx : Cx} {tmps : List T} {a : Act} {N : Nat → Prop}
theorem phantom_new (R : Rel cx g tmps look a w) {n : Nat} (hb : (look n).born = false) (k : Nat) (ad : Option Addr) (dst : Option Tmp) :
 Rel cx (up g n none) (putT tmps dst (.win n 0 0)) (up look n (Ob.mkRow k [])) (a.put dst (.slice ad 0 0)) w := by
 have hne : ∀ q, (look q).born = true → q ≠ n := fun q hq e => by rw [e, hb] at hq; cases hq
 have hown : ∀ q b, Own (up look n (Ob.mkRow k [])) q → up g n none q = some b → Own look q ∧ g q = some b ∧ q ≠ n := fun q b hq hgq => by
  by_cases h : q = n
  · subst h; rw [up_same] at hgq; cases hgq
  · unfold Own at hq; rw [up_ne _ _ h] at hq hgq; exact ⟨hq, hgq, h⟩
 have C : Chg w g look w (up g n none) (up look n (Ob.mkRow k [])) := by
  refine ⟨Nat.le_refl _, fun _ _ _ => rfl, rfl, rfl, rfl, fun q hq => ?_, fun q b hq hgq => ?_⟩
  ·
   rw [up_ne _ _ (hne q hq), up_ne _ _ (hne q hq)]
   exact ⟨hq, Nat.le_refl _, fun ha => ⟨ha, rfl, rfl, fun _ _ => ⟨rfl, fun _ => rfl⟩⟩⟩
  ·
   obtain ⟨h1, h2, _⟩ := hown q b hq hgq
   exact .inl ⟨q, h1, h2⟩
 have E := R.ext C
 refine R.step C dst ?_ (fun q ha => ?_) (fun q q' b h1 h2 h3 h4 => ?_) (fun q b ha hgq => ?_)
 · refine ⟨by rw [up_same], ⟨_, _, rfl, Nat.le_refl _, .inl rfl⟩, fun _ => ⟨_, _, rfl, Nat.le_refl _, .inl rfl⟩⟩
 ·
  by_cases h : q = n
  ·
   subst h
   intro _
   rw [up_same, up_same]
   exact ⟨rfl, rfl, rfl⟩
  ·
   rw [up_ne _ _ h] at ha
   exact RootV.mono E (R.rt q) (up_ne _ _ h) (up_ne _ _ h) (fun _ _ => rfl)
 ·
  obtain ⟨a1, a2, _⟩ := hown q b h1 h3
  obtain ⟨b1, b2, _⟩ := hown q' b h2 h4
  exact R.inj q q' b a1 b1 a2 b2
 ·
  by_cases h : q = n
  · subst h; rw [up_same] at hgq; cases hgq
  ·
   rw [up_ne _ _ h] at ha hgq ⊢
   obtain ⟨h3, h4⟩ := R.blk q b ha hgq
   refine ⟨h3, fun hm => by rw [if_pos hm] at h4; exact h4, fun hm => ?_⟩
   rw [hm] at h4
   exact (E.n b h4).1
theorem NN_own {look' : Nat → Ob} (h : ∀ q, Own look' q → Own look q) {b : Nat} (hb : NN cx w g look b) : NN cx w g look' b := ⟨hb.1, hb.2.1, fun o ho => hb.2.2 o (h o ho)⟩
theorem RowL.mono {N' : Nat → Prop} {k : Nat} {news : List Value} {ns : List T} (h : RowL w N k news ns) (hN : ∀ b, N b → N' b) : RowL w N' k news ns := fun i y hy j t ht =>
 let ⟨v, h1, h2⟩ := h i y hy j t ht
 ⟨v, h1, h2.mono fun b hb => ⟨hN b hb, rfl⟩⟩
theorem append_ok (R : Rel cx g tmps look a w) {ts : Array TypeId} {base : Nat} {d x : T} {dv xv : Value} {e : Eff} {lg : List Nat} (hb : (look base).born = false)
 (hd : FrV w g look (NN cx w g look) dv d) (hx : FrV w g look (NN cx w g look) xv x) (hts : ts.size = 2) (h : (appendR P ts d x base).run look = some (e, lg)) (ty : TypeId) (dst : Option Tmp) :
 ∃ u w' g', (Builtin.append_ ts ty #[dv, xv]).run P w = .ok u w' ∧ Rel cx g' (putT tmps dst e.val) (updL look e.wr) (a.put dst u) w' := by
 simp only [appendR, bind_some, opt_some, guard_some] at h
 obtain ⟨el, _, _, ⟨hel, _⟩, ⟨k, _, _, ⟨hk, _⟩, ⟨by_, _, _, ⟨hby, _⟩, ⟨z, _, _, ⟨hz, _⟩, ⟨tx, _, _, ⟨htx, _⟩, ⟨str, _, _, hstr, ⟨ns, _, _, hns, ⟨_, _, _, ⟨hok, _⟩, h, _⟩, _⟩, _⟩, _⟩, _⟩, _⟩, _⟩, _⟩ := h
 simp only [Bool.and_eq_true, beq_iff_eq] at hok
 obtain ⟨hw2, hzw⟩ := hok
 obtain ⟨t, ht0, hu⟩ : ∃ t, ts[0]? = some t ∧ P.underlying t = some (.slice el) := by
  simp only [Option.bind_eq_some_iff] at hel
  obtain ⟨t, h1, h2⟩ := hel
  exact ⟨t, h1, elemT_some h2⟩
 obtain rfl : ts = #[t, tx] := by
  apply Array.ext_getElem?
  intro q
  match q with
  | 0 => simpa using ht0
  | 1 => simpa using htx
  | q + 2 => rw [Array.getElem?_eq_none (by omega), Array.getElem?_eq_none (by simp)]
 obtain ⟨i, _, hi, rfl⟩ := bytes_info hby w
 obtain rfl : i.size = k := by
  have := hk
  unfold szT at this
  rw [hi] at this
  simpa using this
 obtain ⟨zv, _, rfl, hz2⟩ := zero_run hz w
 rw [hi] at hz2
 have hzi : i.zero = some zv := by simpa using hz2
 have hzs : zv.cells.size = i.size := by
  rw [← hzw, lift_width]
 obtain ⟨news, hs, hN⟩ := news_src R hx hstr hns hw2
 have hnl := hs.newsLen
 cases d with
 | nil =>
  simp only [bind_some, guard_some, pure_some] at h
  obtain ⟨_, _, _, ⟨hmm, _⟩, ⟨rfl, _⟩, _⟩ := h
  have hmm := of_decide_eq_true hmm
  unfold most at hmm
  obtain ⟨ad, rfl⟩ := hd
  by_cases h0 : ns.length = 0
  ·
   have : ns = [] := List.eq_nil_of_length_eq_zero h0
   subst this
   have : news = [] := List.eq_nil_of_length_eq_zero (by simpa using hnl)
   subst this
   exact ⟨_, w, _, run_append_nothing w t tx ty el i hu hi ad 0 0 (Nat.le_refl _) xv hs, phantom_new R hb _ ad dst⟩
  ·
   have := append_grow R (ty := ty) hb hu hi hzi hzs (ad := ad) (len := 0) (cap := 0) (olds := []) (xs := []) (by cases ad <;> simp [Builtin.firstCells, loadCells, loadCellsFrom]) (by simp) rfl (fun i y hy => by simp at hy) (fun q x hx => by simp at hx) hs hN hw2 (by omega) (by simpa using hmm.1) (by simpa using hmm.2) dst
   simp only [Nat.zero_add, List.nil_append] at this
   exact this
 | win o off len =>
  cases off with
  | succ off => simp only [fail_some] at h
  | zero =>
  simp only [bind_some, obj_some, guard_some, pure_some] at h
  obtain ⟨ob, _, _, ⟨rfl, _⟩, ⟨_, _, _, ⟨hg, _⟩, ⟨rfl, _⟩, _⟩, _⟩ := h
  simp only [Bool.and_eq_true, beq_iff_eq, decide_eq_true_eq] at hg
  obtain ⟨⟨⟨⟨⟨ha, hm⟩, hr⟩, hok⟩, hle⟩, hm1, hm2⟩ := hg
  unfold most at hm1 hm2
  have hbo : base ≠ o := fun e => by have := alive_born R ha; rw [← e, hb] at this; cases this
  obtain ⟨_, _, hwv⟩ := hd
  obtain ⟨ad, cap, rfl, hcap, hrest⟩ := hwv ha
  have hlen : ((look o).xs.take len).length = len := by simp; omega
  have hwid1 : ∀ (q : Nat) x, ((look o).xs.take len)[q]? = some x → x.width = i.size := fun q x hx => by
   have hq : q < len := by have := (List.getElem?_eq_some_iff.1 hx).1; omega
   rw [List.getElem?_take_of_lt hq] at hx
   obtain ⟨_, _, h2, _⟩ := root_cells R ha hx
   rw [h2, hok]
  have holds : ∃ olds : List Value, (Builtin.firstCells i.size len (.slice ad len cap)).run P w.drew = .ok olds.toArray w.drew ∧ olds.length = len * i.size ∧ RowL w (NN cx w g look) i.size olds ((look o).xs.take len) := by
   by_cases h0 : len = 0
   ·
    subst h0
    exact ⟨[], by cases ad <;> simp [Builtin.firstCells, loadCells, loadCellsFrom], by simp, fun i y hy => by simp at hy⟩
   ·
    rcases hrest with rfl | ⟨b, hgb, rfl, hsz⟩
    · omega
    ·
     obtain ⟨olds, h1, h2, _⟩ := src_cells (P := P) (w := w) (N := NN cx w g look) (tx := t) (e' := el) hu (k := i.size) (ns := (look o).xs.take len) (by
      unfold wid
      rw [List.all_eq_true]
      intro x hx
      obtain ⟨q, hq, rfl⟩ := List.getElem_of_mem hx
      simpa using hwid1 q _ (List.getElem?_eq_getElem hq)) (b := b) (off := 0 * (look o).k) (cap := cap) (fun q y hy j t' ht' => by
      have hq : q < len := by have := (List.getElem?_eq_some_iff.1 hy).1; omega
      rw [List.getElem?_take_of_lt hq] at hy
      obtain ⟨b', h1, _, h3⟩ := root_cells R ha hy
      obtain rfl := Option.some.inj (hgb.symm.trans h1)
      obtain ⟨v, h4, h5⟩ := h3 j t' ht'
      rw [hr] at h5
      exact ⟨v, by rw [← h4, hok]; congr 2; omega, h5⟩)
     have h3 := h1.cellsD
     have h4 := h1.newsLen
     rw [hlen] at h3 h4
     exact ⟨olds, h3, h4, h2⟩
  obtain ⟨olds, ho1, ho2, ho3⟩ := holds
  have hKill : (look o).kill.born = true ∧ (look o).kill.alive = false ∧ (look o).ver ≤ (look o).kill.ver := ⟨alive_born R ha, rfl, Nat.le_succ _⟩
  by_cases hroom : len + ns.length ≤ cap
  ·
   by_cases hn0 : ns.length = 0
   ·
    have : ns = [] := List.eq_nil_of_length_eq_zero hn0
    subst this
    have : news = [] := List.eq_nil_of_length_eq_zero (by simpa using hnl)
    subst this
    have hrun := run_append_nothing w t tx ty el i hu hi ad len cap hcap xv hs
    refine ⟨_, w, up g base (g o), hrun, ?_⟩
    have hlk : up (up look o (look o).kill) base (Ob.mkRow i.size ((look o).xs.take len ++ [])) base = Ob.mkRow i.size ((look o).xs.take len ++ []) := up_same _ _ _
    refine R.over ⟨ha, hm⟩ (look o).kill hKill hb (Ob.mkRow i.size ((look o).xs.take len ++ [])) (fun _ => ⟨rfl, rfl, hr.symm, hok.symm, fun q y hy => ?_⟩) (.inl rfl) dst ?_
    ·
     simp only [List.append_nil] at hy
     have hq : q < len := by have := (List.getElem?_eq_some_iff.1 hy).1; omega
     rwa [List.getElem?_take_of_lt hq] at hy
    ·
     refine ⟨by rw [hlk], ⟨_, _, rfl, hcap, ?_⟩, fun _ => ⟨_, _, rfl, hcap, ?_⟩⟩
     ·
      rcases hrest with rfl | ⟨b, hgb, rfl, hsz⟩
      · exact .inl (by omega)
      · exact .inr ⟨_, _, rfl⟩
     ·
      rcases hrest with rfl | ⟨b, hgb, rfl, hsz⟩
      · exact .inl rfl
      ·
       refine .inr ⟨b, by rw [up_same]; exact hgb, by rw [hlk]; simp, ?_⟩
       rw [hlk]
       rw [hok] at hsz
       exact hsz
   ·
    rcases hrest with rfl | ⟨b, hgb, rfl, hsz⟩
    · omega
    ·
     have hroot := (R.rt o ha).2
     rw [hgb] at hroot
     obtain ⟨C, E, fr, hh, hfr, hxs⟩ := hroot
     have hcs : csz w b = C.size := by simp [csz, hh]
     have hoff : (0 : Nat) * (look o).k = 0 := Nat.zero_mul _
     rw [hcs, hok, Nat.zero_add] at hsz
     have hfit : len * i.size + news.length ≤ C.size := by
      rw [hnl, ← Nat.add_mul]
      exact Nat.le_trans (Nat.mul_le_mul_right _ hroom) hsz
     have hrun := run_append_room_src (P := P) w t tx ty el i hu hi b 0 len cap xv ns.length news hs hroom (fun j hj => by simp [World.cell?, hh]; omega) (fun j hj => hfr _ (.inl (by omega)))
     simp only [Nat.zero_add] at hrun
     rw [hoff]
     have R1 := R.write (w' := w.setCells b (len * i.size) news) ⟨ha, hm⟩ hgb ({ born := true, alive := true, may := true, row := true, ver := (look o).ver + 1, k := (look o).k, xs := (look o).xs.take len ++ ns } : Ob) ⟨rfl, rfl, rfl, rfl, Nat.lt_succ_self _⟩ (off := len * i.size) (vs := news) rfl (fun c' hc' => by
      obtain ⟨C', E', fr', hh', hsz', hout, hinn⟩ := hc'
      obtain ⟨rfl, rfl, rfl⟩ : C' = C ∧ E' = E ∧ fr' = fr := by
       have := hh'.symm.trans hh
       simp only [Option.some.injEq, Obj.cells.injEq] at this
       exact this
      show RowM w (NN cx w g look) (look o).k c' ((look o).xs.take len ++ ns)
      rw [hok]
      have hO : RowL w (NN cx w g look) i.size (c'.toList.take (len * i.size)) ((look o).xs.take len) := fun q y hy j t' ht' => by
       have hq : q < len := by have := (List.getElem?_eq_some_iff.1 hy).1; omega
       have hy' := hy
       rw [List.getElem?_take_of_lt hq] at hy'
       obtain ⟨h1, h2⟩ := hxs q y hy'
       obtain ⟨v, h3, h4⟩ := h2 j t' ht'
       rw [hr] at h4
       have hj : j < i.size := by rw [← hwid1 q y hy]; exact (List.getElem?_eq_some_iff.1 ht').1
       have hlt : q * i.size + j < len * i.size := by
        have : (q + 1) * i.size ≤ len * i.size := Nat.mul_le_mul_right _ hq
        rw [Nat.add_mul, Nat.one_mul] at this
        omega
       refine ⟨v, ?_, h4⟩
       rw [List.getElem?_take_of_lt hlt, Array.getElem?_toList, hout _ (.inl hlt)]
       rw [hok] at h3
       exact h3
      refine rowM_append (olds := c'.toList.take (len * i.size)) (rest := []) hO hN (by rw [hlen]; simp; omega) hwid1 hw2 (fun q hq => ?_) hnl
      have hl1 : (c'.toList.take (len * i.size)).length = len * i.size := by simp; omega
      rw [hl1] at hq
      by_cases hq1 : q < len * i.size
      · rw [List.getElem?_append_left (by omega), List.getElem?_take_of_lt hq1, Array.getElem?_toList]
      ·
       rw [List.getElem?_append_right (by omega), hl1]
       have := hinn (q - len * i.size) (by omega) (by omega)
       rw [show len * i.size + (q - len * i.size) = q by omega] at this
       exact this) none (v := undef) (val := .dead) trivial
     have hlo1 : up look o ({ born := true, alive := true, may := true, row := true, ver := (look o).ver + 1, k := (look o).k, xs := (look o).xs.take len ++ ns } : Ob) o = { born := true, alive := true, may := true, row := true, ver := (look o).ver + 1, k := (look o).k, xs := (look o).xs.take len ++ ns } := up_same _ _ _
     have hlk : up (up look o (look o).kill) base (Ob.mkRow i.size ((look o).xs.take len ++ ns)) base = Ob.mkRow i.size ((look o).xs.take len ++ ns) := up_same _ _ _
     refine ⟨_, _, up g base (g o), hrun, ?_⟩
     have R2 := R1.over (o := o) (by unfold Own; rw [hlo1]; exact ⟨rfl, rfl⟩) (look o).kill ⟨alive_born R ha, rfl, by rw [hlo1]; exact Nat.le_refl _⟩ (n := base) (by rw [up_ne _ _ hbo]; exact hb) (Ob.mkRow i.size ((look o).xs.take len ++ ns)) (fun _ => by
      rw [hlo1]
      exact ⟨rfl, rfl, rfl, hok.symm, fun q y hy => hy⟩) (.inl rfl) dst (v := .slice (some ⟨b, 0, none⟩) (len + ns.length) cap) (val := .win base 0 (len + ns.length)) (by
      rw [up_up]
      refine ⟨by rw [hlk], ⟨_, _, rfl, hroom, .inr ⟨_, _, rfl⟩⟩, fun _ => ⟨_, _, rfl, hroom, .inr ⟨b, by rw [up_same]; exact hgb, by rw [hlk]; simp, ?_⟩⟩⟩
      rw [hlk]
      have := R1
      have hcz : csz (w.setCells b (len * i.size) news) b = csz w b := by
       obtain ⟨c', h1, h2, _⟩ := heap_setCells_at b news (len * i.size) w C hh
       simp [csz, h1, hh, h2]
      rw [hcz, hcs, Nat.zero_add]
      exact hsz)
     rw [up_up] at R2
     exact R2
  ·
   have R1 := R.kill ⟨ha, hm⟩ (look o).kill hKill
   have hmonoN : ∀ b, NN cx w g look b → NN cx w g (up look o (look o).kill) b := fun b hb' => NN_own (fun q hq => by
    unfold Own at hq
    by_cases h2 : q = o
    · subst h2; exact ⟨ha, hm⟩
    · rw [up_ne _ _ h2] at hq; exact hq) hb'
   have := append_grow R1 (ty := ty) (base := base) (by rw [up_ne _ _ hbo]; exact hb) hu hi hzi hzs (ad := ad) (len := len) (cap := cap) ho1 ho2 hlen (ho3.mono hmonoN) hwid1 hs (hN.mono hmonoN) hw2 (by omega) hm1 hm2 dst
   exact this
 | _ => simp only [fail_some] at h
end
end Go.Proofs.YtmjmoagmolgacaaGreatDoor.PM
namespace Go.Proofs.YtmjmoagmolgacaaGreatDoor.PM
open Go
section
variable {P : Program} {w w' : World} {g : Nat → Option Nat} {look : Nat → Ob} {cx : Cx} {tmps : List T} {a : Act} {N : Nat → Prop}
theorem splice3 {xs ys : List T} {off : Nat} (h : off + ys.length ≤ xs.length) (i : Nat) : (xs.take off ++ ys ++ xs.drop (off + ys.length))[i]? = if i < off then xs[i]? else if i < off + ys.length then ys[i - off]? else xs[i]? := splice_get h
theorem copy_ok (R : Rel cx g tmps look a w) {ts : Array TypeId} {d x : T} {dv xv : Value} {e : Eff} {lg : List Nat}
 (hd : FrV w g look (NN cx w g look) dv d) (hx : FrV w g look (NN cx w g look) xv x) (h : (copyR P ts d x).run look = some (e, lg)) (ty : TypeId) (dst : Option Tmp) :
 ∃ u w', (Builtin.copy_ ts ty #[dv, xv]).run P w = .ok u w' ∧ Rel cx g (putT tmps dst e.val) (updL look e.wr) (a.put dst u) w' := by
 simp only [copyR, bind_some, opt_some, guard_some] at h
 obtain ⟨el, _, _, ⟨hel, _⟩, ⟨k, _, _, ⟨hk, _⟩, ⟨_, _, _, ⟨hsc, _⟩, ⟨tx, _, _, ⟨htx, _⟩, ⟨ns, _, _, hns, ⟨_, _, _, ⟨hok, _⟩, h, _⟩, _⟩, _⟩, _⟩, _⟩, _⟩ := h
 simp only [Bool.and_eq_true] at hok
 obtain ⟨hw2, hex⟩ := hok
 obtain ⟨ex, hex⟩ := Option.isSome_iff_exists.1 hex
 obtain ⟨t, ht0, hu⟩ : ∃ t, ts[0]? = some t ∧ P.underlying t = some (.slice el) := by
  simp only [Option.bind_eq_some_iff] at hel
  obtain ⟨t, h1, h2⟩ := hel
  exact ⟨t, h1, elemT_some h2⟩
 obtain ⟨news, hs, hN, hpre⟩ := elems_src R hx hns hw2 (elemT_some hex) (fun u hu => by subst hu; simp [scOf] at hsc)
 have hnl := hs.newsLen
 cases d with
 | nil =>
  simp only [pure_some] at h
  obtain ⟨rfl, _⟩ := h
  obtain ⟨ad, rfl⟩ := hd
  refine ⟨.int .i64 0, w, ?_, R.quiet dst ⟨rfl, rfl⟩⟩
  have h1 := hpre 0 (Nat.zero_le _)
  simp only [Nat.zero_mul, List.take_zero] at h1
  have h2 := hs.len w
  cases ad <;> simp [Builtin.copy_, ht0, run_underlying hu, h2, sizeOf_run hk, h1, storeCells, goInt]
 | win o off len =>
  simp only [bind_some, obj_some, guard_some, pure_some] at h
  obtain ⟨ob, _, _, ⟨rfl, _⟩, ⟨_, _, _, ⟨hg, _⟩, ⟨rfl, _⟩, _⟩, _⟩ := h
  simp only [Bool.and_eq_true, beq_iff_eq, decide_eq_true_eq] at hg
  obtain ⟨⟨⟨⟨ha, hm⟩, hr⟩, hok⟩, hle⟩ := hg
  obtain ⟨_, _, hwv⟩ := hd
  obtain ⟨ad, cap, rfl, hcap, hrest⟩ := hwv ha
  have hmin : Nat.min ns.length len = min ns.length len := rfl
  have h1 := hpre (min ns.length len) (Nat.min_le_left _ _)
  have h2 := hs.len w
  by_cases h0 : min ns.length len = 0
  ·
   refine ⟨.int .i64 0, w, ?_, ?_⟩
   ·
    simp only [h0, Nat.zero_mul, List.take_zero] at h1
    cases ad <;> simp [Builtin.copy_, ht0, run_underlying hu, h2, sizeOf_run hk, hmin, h0, h1, storeCells, goInt]
   ·
    rw [h0]
    simp only [List.take_zero, List.append_nil, Nat.add_zero, List.take_append_drop]
    have C : Chg w g look w g (up look o { look o with ver := (look o).ver + 1 }) := by
     refine ⟨Nat.le_refl _, fun _ _ _ => rfl, rfl, rfl, rfl, fun q hq => ?_, fun q b hq hgq => ?_⟩
     ·
      by_cases e : q = o
      · subst e; rw [up_same]; exact ⟨hq, Nat.le_succ _, fun h => ⟨h, rfl, rfl, fun _ _ => ⟨rfl, fun _ => rfl⟩⟩⟩
      · rw [up_ne _ _ e]; exact ⟨hq, Nat.le_refl _, fun h => ⟨h, rfl, rfl, fun _ _ => ⟨rfl, fun _ => rfl⟩⟩⟩
     ·
      by_cases e : q = o
      · subst e; exact .inl ⟨q, ⟨ha, hm⟩, hgq⟩
      · unfold Own at hq; rw [up_ne _ _ e] at hq; exact .inl ⟨q, hq, hgq⟩
    have E := R.ext C
    have hsame : ∀ q, (up look o { look o with ver := (look o).ver + 1 } q).alive = (look q).alive ∧ (up look o { look o with ver := (look o).ver + 1 } q).may = (look q).may ∧ (up look o { look o with ver := (look o).ver + 1 } q).born = (look q).born ∧ (up look o { look o with ver := (look o).ver + 1 } q).row = (look q).row ∧ (up look o { look o with ver := (look o).ver + 1 } q).k = (look q).k ∧ (up look o { look o with ver := (look o).ver + 1 } q).xs = (look q).xs := fun q => by
     by_cases e : q = o
     · subst e; rw [up_same]; exact ⟨rfl, rfl, rfl, rfl, rfl, rfl⟩
     · rw [up_ne _ _ e]; exact ⟨rfl, rfl, rfl, rfl, rfl, rfl⟩
    have hown : ∀ q, Own (up look o { look o with ver := (look o).ver + 1 }) q → Own look q := fun q hq => by
     obtain ⟨e1, e2, _⟩ := hsame q
     unfold Own at hq ⊢
     rw [e1, e2] at hq; exact hq
    refine R.step C dst ⟨rfl, rfl⟩ (fun q haq => ?_) (fun q q' b a1 a2 a3 a4 => R.inj q q' b (hown q a1) (hown q' a2) a3 a4) (fun q b haq hgq => ?_)
    ·
     obtain ⟨e1, e2, e3, e4, e5, e6⟩ := hsame q
     rw [e1] at haq
     have := R.rt q haq
     intro _
     rw [e3, e4, e5, e6]
     refine ⟨this.1, ?_⟩
     have h3 := this.2
     cases hgq : g q with
     | none => rw [hgq] at h3; exact h3
     | some b =>
      rw [hgq] at h3
      obtain ⟨c, E', fr, h4, h5, h6⟩ := h3
      refine ⟨c, E', fr, h4, h5, fun i y hy => ⟨(h6 i y hy).1, fun j t' ht' => ?_⟩⟩
      obtain ⟨v, h7, h8⟩ := (h6 i y hy).2 j t' ht'
      exact ⟨v, h7, h8.mono E⟩
    ·
     obtain ⟨e1, e2, _⟩ := hsame q
     rw [e1] at haq
     rw [e2]
     obtain ⟨h3, h4⟩ := R.blk q b haq hgq
     refine ⟨h3, fun hm => by rw [if_pos hm] at h4; exact h4, fun hm => ?_⟩
     rw [hm] at h4
     exact (E.n b h4).1
  ·
   rcases hrest with rfl | ⟨b, hgb, rfl, hsz⟩
   · omega
   ·
    have hroot := (R.rt o ha).2
    rw [hgb] at hroot
    obtain ⟨C, E, fr, hh, hfr, hxs⟩ := hroot
    have hcs : csz w b = C.size := by simp [csz, hh]
    rw [hcs, hok] at hsz
    have htl : (news.take (min ns.length len * k)).length = min ns.length len * k := by
     rw [List.length_take, hnl]
     have := Nat.mul_le_mul_right k (Nat.min_le_left ns.length len)
     omega
    have hfit : off * k + min ns.length len * k ≤ C.size := by
     rw [← Nat.add_mul]
     have : off + min ns.length len ≤ off + cap := by have := Nat.min_le_right ns.length len; omega
     exact Nat.le_trans (Nat.mul_le_mul_right _ this) hsz
    have hone : ∀ u ∈ news.take (min ns.length len * k), u.oneCell' = true := fun u hu => hs.one u (List.mem_of_mem_take hu)
    have hst := run_storeCells_cells (P := P) b (off * k) (news.take (min ns.length len * k)) 0 w (fun q hq => by simp [World.cell?, hh]; omega) (fun q hq => hfr _ (.inl (by omega))) hone
    simp only [Nat.add_zero] at hst
    refine ⟨.int .i64 (min ns.length len : Nat), w.setCells b (off * k) (news.take (min ns.length len * k)), ?_, ?_⟩
    ·
     rw [hok]
     simp [Builtin.copy_, ht0, run_underlying hu, h2, sizeOf_run hk, hmin, h1, hst, goInt]
    ·
     refine R.write ⟨ha, hm⟩ hgb ({ look o with ver := (look o).ver + 1, xs := (look o).xs.take off ++ ns.take (min ns.length len) ++ (look o).xs.drop (off + min ns.length len) } : Ob) ⟨alive_born R ha, ha, hm, rfl, Nat.lt_succ_self _⟩ (off := off * k) (vs := news.take (min ns.length len * k)) rfl (fun c' hc' i y hy => ?_) dst ⟨rfl, rfl⟩
     show y.width = (look o).k ∧ ∀ (q : Nat) t, y.cells[q]? = some t → ∃ v, c'[i * (look o).k + q]? = some v ∧ CellV w g look (NN cx w g look) (look o).row v t
     obtain ⟨C', E', fr', hh', hsz', hout, hinn⟩ := hc'
     obtain ⟨rfl, rfl, rfl⟩ : C' = C ∧ E' = E ∧ fr' = fr := by
      have := hh'.symm.trans hh
      simp only [Option.some.injEq, Obj.cells.injEq] at this
      exact this
     have hnl' : (ns.take (min ns.length len)).length = min ns.length len := by rw [List.length_take]; omega
     have hsp := splice3 (xs := (look o).xs) (ys := ns.take (min ns.length len)) (off := off) (by rw [hnl']; have := Nat.min_le_right ns.length len; omega) i
     rw [hnl'] at hsp
     have hy' : ((look o).xs.take off ++ ns.take (min ns.length len) ++ (look o).xs.drop (off + min ns.length len))[i]? = some y := hy
     rw [hsp] at hy'
     rw [htl] at hout hinn
     have outer : (i < off ∨ off + min ns.length len ≤ i) → (look o).xs[i]? = some y → y.width = (look o).k ∧ ∀ (q : Nat) t, y.cells[q]? = some t → ∃ v, c'[i * (look o).k + q]? = some v ∧ CellV w g look (NN cx w g look) (look o).row v t := fun hi hxi => by
      obtain ⟨h3, h4⟩ := hxs i y hxi
      refine ⟨h3, fun q t' ht' => ?_⟩
      obtain ⟨v, h5, h6⟩ := h4 q t' ht'
      have hq : q < k := by rw [← hok, ← h3]; exact (List.getElem?_eq_some_iff.1 ht').1
      refine ⟨v, ?_, h6⟩
      rw [hok] at h5 ⊢
      rw [hout _ ?_]
      · exact h5
      ·
       rcases hi with hi | hi
       ·
        have : (i + 1) * k ≤ off * k := Nat.mul_le_mul_right _ hi
        rw [Nat.add_mul, Nat.one_mul] at this
        left; omega
       ·
        have : (off + min ns.length len) * k ≤ i * k := Nat.mul_le_mul_right _ hi
        rw [Nat.add_mul] at this
        right; omega
     by_cases hi : i < off
     ·
      rw [if_pos hi] at hy'
      exact outer (.inl hi) hy'
     ·
      rw [if_neg hi] at hy'
      by_cases hi2 : i < off + min ns.length len
      ·
       rw [if_pos hi2] at hy'
       rw [List.getElem?_take_of_lt (by omega)] at hy'
       have hwy := wid_get hw2 hy'
       refine ⟨by rw [hok]; exact hwy, fun q t' ht' => ?_⟩
       obtain ⟨v, h5, h6⟩ := hN _ y hy' q t' ht'
       have hq : q < k := by rw [← hwy]; exact (List.getElem?_eq_some_iff.1 ht').1
       refine ⟨v, ?_, by rw [hr]; exact h6⟩
       have hlt : (i - off) * k + q < min ns.length len * k := by
        have : (i - off + 1) * k ≤ min ns.length len * k := Nat.mul_le_mul_right _ (by omega)
        rw [Nat.add_mul, Nat.one_mul] at this
        omega
       have h7 := hinn ((i - off) * k + q) hlt (by omega)
       rw [List.getElem?_take_of_lt hlt, h5] at h7
       rw [← h7, hok]
       congr 1
       have : off * k + (i - off) * k = i * k := by rw [← Nat.add_mul]; congr 1; omega
       omega
      ·
       rw [if_neg hi2] at hy'
       exact outer (.inr (by omega)) hy'
 | _ => simp only [fail_some] at h
end
end Go.Proofs.YtmjmoagmolgacaaGreatDoor.PM
namespace Go.Proofs.YtmjmoagmolgacaaGreatDoor.PM
open Go
section
variable {P : Program} {w w' : World} {g : Nat → Option Nat} {look : Nat → Ob} {cx : Cx} {tmps : List T} {a : Act} {N : Nat → Prop}
def Ran (P : Program) (cx : Cx) (tmps : List T) (look : Nat → Ob) (a : Act) (w : World) (o : Oper) (e : Eff) : Prop :=
 ∃ u w' g', ((execOp a.eval o).run P w = .ok (.value u) w' ∨ ((execOp a.eval o).run P w = .ok .skip w' ∧ u = undef)) ∧ Rel cx g' (putT tmps o.dst e.val) (updL look e.wr) (a.put o.dst u) w'
theorem Ran.wp {o : Oper} {e : Eff} (h : Ran P cx tmps look a w o e) {K : Act → World → Prop} {Q : Exit → Act → World → Prop} (hK : ∀ g' a' w', Rel cx g' (putT tmps o.dst e.val) (updL look e.wr) a' w' → K a' w') : o.wp P a w K Q := by
 obtain ⟨u, w', g', h1 | ⟨h1, rfl⟩, h2⟩ := h
 · exact wp_value h1 (hK _ _ _ h2)
 · exact wp_skip' h1 (hK _ _ _ h2)
theorem evals_ok (R : Rel cx g tmps look a w) (ps : Array (Nat × Operand)) : (ps.map fun (i, x) => (i, a.eval x)).toList.length = (ps.toList.map fun p => (p.1, evalT tmps p.2)).length ∧
 ∀ (m : Nat) (p : Nat × Value) (q : Nat × T), (ps.map fun (i, x) => (i, a.eval x)).toList[m]? = some p → (ps.toList.map fun p => (p.1, evalT tmps p.2))[m]? = some q → p.1 = q.1 ∧ FrV w g look (NN cx w g look) p.2 q.2 := by
 refine ⟨by simp, fun m p q h1 h2 => ?_⟩
 simp only [Array.toList_map, List.getElem?_map, Option.map_eq_some_iff] at h1 h2
 obtain ⟨x, h3, rfl⟩ := h1
 obtain ⟨y, h4, rfl⟩ := h2
 rw [h3] at h4
 obtain rfl := Option.some.inj h4
 exact ⟨rfl, eval_ok R _⟩
theorem ran_quiet (R : Rel cx g tmps look a w) {o : Oper} {u : Value} {t : T} (h : (execOp a.eval o).run P w = .ok (.value u) w) (hv : FrV w g look (NN cx w g look) u t) : Ran P cx tmps look a w o ⟨t, []⟩ :=
 ⟨u, w, g, .inl h, R.quiet o.dst hv⟩
theorem optV (R : Rel cx g tmps look a w) (x : Option Operand) : OptV w g look (NN cx w g look) (x.map a.eval) (x.map (evalT tmps)) := by
 cases x with
 | none => trivial
 | some x => exact eval_ok R x
theorem markStringish_run (w : World) (b : Nat) (c : Array Value) (e : TypeId) (h : w.heap[b]? = some (.cells c e (0, 0))) : (markStringish ⟨b, 0, none⟩).run P w = .ok () (w.freeze ⟨b, c.size, none⟩ 1) := by
 simp [markStringish, World.shape?, h]
theorem conv_str {s : ByteArray} {e : TypeId} (soft : softOk = true) (hu : bytesT P e = some 1) (R : Rel cx g tmps look a w) {base : Nat} (hb : (look base).born = false) (dst : Option Tmp) :
 ∃ u w' g', (Conv.stringToBytes e s).run P w = .ok u w' ∧ Rel cx g' (putT tmps dst (.win base 0 s.size)) (up look base (Ob.mkRow 1 (s.data.toList.map fun b => .sc (.int .u8 b.toNat)))) (a.put dst u) w' := by
 let cap := (Question.appendCap s.size 0 e).cut (w.tape w.drawn (.appendCap s.size 0 e))
 have hcap : s.size ≤ cap := by simp [cap, Question.cut]
 let c : Array Value := (s.data.map fun b => Value.int .u8 b.toNat) ++ Array.replicate (cap - s.size) (.int .u8 0)
 have hc : c.size = cap := by simp only [c, Array.size_append, Array.size_map, Array.size_replicate]; show s.size + (cap - s.size) = cap; omega
 refine ⟨.slice (some ⟨w.heap.size, 0, none⟩) s.size cap, { w.drew with heap := w.heap.push (.cells c e (c.size, c.size + 1)) }, up g base (some w.heap.size), ?_, ?_⟩
 ·
  have hfz : ({ w.drew with heap := w.heap.push (.cells c e) } : World).freeze ⟨w.heap.size, c.size, none⟩ 1 = { w.drew with heap := w.heap.push (.cells c e (c.size, c.size + 1)) } := by
   unfold World.freeze
   rw [if_neg (by omega)]
   simp only [World.drew]
   congr 1
   apply Array.ext_getElem?
   intro q
   rw [Array.getElem?_modify]
   by_cases hq : w.heap.size = q
   · subst hq; simp
   · rw [if_neg hq, Array.getElem?_push, Array.getElem?_push, if_neg (Ne.symm hq), if_neg (Ne.symm hq)]
  have hm := markStringish_run (P := P) { w.drew with heap := w.heap.push (.cells c e) } w.heap.size c e (by simp)
  rw [hfz] at hm
  simp only [Conv.stringToBytes, Sem.run_bind, run_choose, Question.forced, Bool.false_eq_true, if_false, Result.andThen_ok, newRow, run_newObj, Sem.run_pure]
  exact (congrArg (fun r => Result.andThen r _) hm).trans rfl
 ·
  refine row_new (w' := { w.drew with heap := w.heap.push (.cells c e (c.size, c.size + 1)) }) R hb (c := c) (E := e) (fr := (c.size, c.size + 1)) (fun i x hx => ?_) rfl rfl rfl rfl (fun i hi h => by rcases hi with hi | hi | hi <;> first | omega | (rw [soft] at hi; cases hi)) s.size cap hcap (by rw [hc, Nat.mul_one]; exact Nat.le_refl _) dst (k := 1)
  simp only [List.getElem?_map, Option.map_eq_some_iff] at hx
  obtain ⟨b, hb', rfl⟩ := hx
  refine ⟨rfl, fun j t ht => ?_⟩
  cases j with
  | zero =>
   simp only [T.cells, List.getElem?_cons_zero, Option.some.injEq] at ht
   subst ht
   refine ⟨.int .u8 b.toNat, ?_, .sc rfl⟩
   have hi := (List.getElem?_eq_some_iff.1 hb').1
   simp only [Nat.mul_one, Nat.add_zero, c]
   rw [Array.getElem?_append_left (by simpa using hi), Array.getElem?_map, ← Array.getElem?_toList, hb']
   rfl
  | succ j => simp [T.cells] at ht
end
end Go.Proofs.YtmjmoagmolgacaaGreatDoor.PM
namespace Go.Proofs.YtmjmoagmolgacaaGreatDoor.PM
open Go
section
variable {P : Program} {w w' : World} {g : Nat → Option Nat} {look : Nat → Ob} {cx : Cx} {tmps : List T} {a : Act} {N : Nat → Prop}
theorem bytesOf_some : ∀ {ns : List T} {bs : List UInt8}, bytesOf ns = some bs → ∃ is : List Int, ns = is.map (fun b => .sc (.int .u8 b)) ∧ bs = is.map fun b => UInt8.ofNat b.toNat
 | [], bs, h => by simp only [bytesOf, Option.some.injEq] at h; subst h; exact ⟨[], rfl, rfl⟩
 | t :: r, bs, h => by
  unfold bytesOf at h
  split at h
  · cases ‹_ :: _ = []›
  ·
   rename_i b r' he
   obtain ⟨rfl, rfl⟩ := List.cons.inj he
   simp only [Option.map_eq_some_iff] at h
   obtain ⟨l, h1, rfl⟩ := h
   obtain ⟨is, rfl, rfl⟩ := bytesOf_some h1
   exact ⟨b :: is, rfl, rfl⟩
  · cases h
theorem fold_push (is : List Int) : ∀ acc : ByteArray, is.foldl (fun r n => r.push (UInt8.ofNat n.toNat)) acc = ⟨acc.data ++ (is.map fun b => UInt8.ofNat b.toNat).toArray⟩ := by
 induction is with
 | nil => intro acc; simp
 | cons n r ih => intro acc; rw [List.foldl_cons, ih]; simp [ByteArray.push]
theorem bytes_ok (R : Rel cx g tmps look a w) {x : T} {xv : Value} {ns : List T} {bs : List UInt8} {lg : List Nat} (hx : FrV w g look (NN cx w g look) xv x) (h : (elemsR x).run look = some (ns, lg)) (hw : wid 1 ns = true)
 {src e' : TypeId} (hk : P.underlying src = some (.slice e')) (hns : ∀ u, x ≠ .sc u) (hb : bytesOf ns = some bs) : (Conv.bytesToString xv).run P w = .ok (.string ⟨bs.toArray⟩) w ∧ ∃ a n c, xv = .slice a n c := by
 obtain ⟨news, hs, hN, hpre⟩ := elems_src R hx h hw hk hns
 obtain ⟨is, rfl, rfl⟩ := bytesOf_some hb
 have hnl := hs.newsLen
 have hnews : news = is.map (Value.int .u8) := by
  apply List.ext_getElem?
  intro q
  by_cases hq : q < is.length
  ·
   have h1 : (is.map fun b => T.sc (.int .u8 b))[q]? = some (.sc (.int .u8 is[q])) := by simp [hq]
   obtain ⟨v, h2, h3⟩ := hN q _ h1 0 _ rfl
   obtain ⟨rfl, _⟩ := h3.sc_inv
   simp only [Nat.mul_one, Nat.add_zero] at h2
   rw [h2]
   simp [hq]
  · rw [List.getElem?_eq_none (by simp at hnl; omega), List.getElem?_eq_none (by simp; omega)]
 subst hnews
 have hshape : ∃ a c, xv = .slice a is.length c := by
  have hl := hs.len w
  cases x with
  | nil => obtain ⟨ad, rfl⟩ := hx; simp only [elemsR, ret_some] at h; have h1 := congrArg List.length h.1; simp at h1; exact ⟨ad, 0, by simp [h1]⟩
  | sc u => exact absurd rfl (hns u)
  | sl xs s => obtain ⟨⟨ad, c, rfl, _⟩, _⟩ := hx; simp [Builtin.lenOf] at hl; exact ⟨ad, c, by rw [hl]⟩
  | win o off len => obtain ⟨_, ⟨ad, c, rfl, _⟩, _⟩ := hx; simp [Builtin.lenOf] at hl; exact ⟨ad, c, by rw [hl]⟩
  | _ => simp only [elemsR, fail_some] at h
 obtain ⟨ad, c, rfl⟩ := hshape
 refine ⟨?_, _, _, _, rfl⟩
 have hp := hpre is.length (by simp)
 simp only [Nat.mul_one] at hp
 rw [List.take_of_length_le (by simp)] at hp
 cases ad with
 | none =>
  simp [Builtin.firstCells] at hp
  subst hp
  simp [Conv.bytesToString]
  rfl
 | some ad =>
  have hl : (loadCells ad is.length).run P w = .ok (is.map (Value.int .u8)).toArray w := by
   simpa [Builtin.firstCells] using hp
  rw [run_bytesToString w ad is.length c is hl, fold_push]
  simp
end
end Go.Proofs.YtmjmoagmolgacaaGreatDoor.PM
namespace Go.Proofs.YtmjmoagmolgacaaGreatDoor.PM
open Go
section
variable {P : Program} {w : World} {g : Nat → Option Nat} {look : Nat → Ob} {N : Nat → Prop}
theorem eqSc_run {t : TypeId} {x y : T} {u v : Value} {r : Bool} (hx : FrC w g look N u x) (hy : FrC w g look N v y) (h : eqSc P t x y = some r) (d : Nat) : (Op.equalIn (d + 1) t u v).run P w = .ok r w := by
 unfold eqSc at h
 split at h
 ·
  rename_i hu
  obtain ⟨rfl, _⟩ := hx
  obtain ⟨rfl, _⟩ := hy
  split at h
  ·
   rename_i hk
   subst hk
   obtain rfl := Option.some.inj h
   exact run_equalIn_int w d t _ _ _ _ hu
  · cases h
 ·
  rename_i hu
  obtain ⟨rfl, _⟩ := hx
  obtain ⟨rfl, _⟩ := hy
  obtain rfl := Option.some.inj h
  exact run_equalIn_bool' w d t _ _ hu
 ·
  rename_i hu
  obtain ⟨rfl, _⟩ := hx
  obtain ⟨rfl, _⟩ := hy
  obtain rfl := Option.some.inj h
  exact run_equalIn_string w d t _ _ hu
 · cases h
theorem eqBool_run {t : TypeId} {a b r : Bool} (h : eqSc P t (.sc (.bool a)) (.sc (.bool b)) = some r) :
 (binOp .eql t (.bool a) (.bool b)).run P w = .ok (.bool r) w ∧ (binOp .neq t (.bool a) (.bool b)).run P w = .ok (.bool !r) w := by
 have he : (Op.equalIn 10000 t (.bool a) (.bool b)).run P w = .ok r w := eqSc_run (g := fun _ => none) (look := fun _ => .gone) (N := fun _ => False) (x := .sc (.bool a)) (y := .sc (.bool b)) ⟨rfl, rfl⟩ ⟨rfl, rfl⟩ h 9999
 constructor
 ·
  simp only [binOp]
  simp [Op.equal, Op.maxDepth, he]
 ·
  simp only [binOp]
  simp [Op.equal, Op.maxDepth, he]
theorem eqFs_run {xs ys : List T} {us vs : Array Value} (hx : ∀ (i : Nat) c, xs[i]? = some c → ∃ u, us[i]? = some u ∧ FrC w g look N u c) (hy : ∀ (i : Nat) c, ys[i]? = some c → ∃ u, vs[i]? = some u ∧ FrC w g look N u c) (d : Nat) :
 ∀ (fs : List Field) (r : Bool), fs.all (fun f => f.name != "_" && aggT P f.type == some false) = true → eqFs P xs ys (fs.map fun f => (f.offset, f.type)) = some r → (Op.eqFields (d + 1) us vs fs).run P w = .ok r w
 | [], r, _, h => by obtain rfl := Option.some.inj h; rfl
 | f :: fs, r, ha, h => by
  simp only [List.all_cons, Bool.and_eq_true, bne_iff_ne, beq_iff_eq] at ha
  obtain ⟨⟨hn, hg⟩, ha⟩ := ha
  simp only [List.map_cons, eqFs] at h
  split at h
  ·
   rename_i x y h1 h2
   obtain ⟨u, h3, h4⟩ := hx _ _ h1
   obtain ⟨v, h5, h6⟩ := hy _ _ h2
   split at h
   ·
    rename_i a b h7 h8
    obtain rfl := Option.some.inj h
    have ih := eqFs_run hx hy d fs b ha h8
    simp only [Op.eqFields, hn, ne_eq, not_false_eq_true, if_true, Sem.run_bind, part, isAgg_run hg, Result.andThen_ok, Bool.false_eq_true, if_false, h3, h5, Sem.run_pure, eqSc_run h4 h6 h7 d]
    cases a
    · simp
    · simpa using ih
   · cases h
  · cases h
theorem eqAgg_run {t : TypeId} {xs ys : List T} {u v : Value} {fs : List (Nat × TypeId)} {r : Bool} (hx : FrV w g look N u (.agg xs)) (hy : FrV w g look N v (.agg ys)) (h1 : eqT P t = some fs) (h2 : eqFs P xs ys fs = some r) :
 (∀ op x y, (eqGuard op t x y u v).run P w = .ok () w) ∧ (binOp .eql t u v).run P w = .ok (.bool r) w ∧ (binOp .neq t u v).run P w = .ok (.bool !r) w := by
 obtain ⟨us, rfl, _, hx⟩ := hx
 obtain ⟨vs, rfl, _, hy⟩ := hy
 unfold eqT at h1
 split at h1
 ·
  rename_i fs' hu
  split at h1
  ·
   rename_i hc
   simp only [Bool.and_eq_true, Bool.not_eq_true'] at hc
   obtain ⟨⟨hg, hp⟩, ha⟩ := hc
   obtain rfl := Option.some.inj h1
   have hf : P.fieldsOf t = fs' := by simp [Program.fieldsOf, hu]
   have hu' : P.underlying t = some (.struct (P.fieldsOf t)) := by rw [hf]; exact hu
   have hr := eqFs_run (P := P) hx hy 9998 fs'.toList r ha h2
   have he : (Op.equalIn 10000 t (.agg us) (.agg vs)).run P w = .ok r w := by
    rw [run_equalIn_agg w 9999 t us vs hu' hp, hf]; exact hr
   refine ⟨fun op x y => run_eqGuard_agg w op t x y us vs hg, ?_, ?_⟩
   · rw [run_eql_struct, he]; rfl
   · rw [run_neq_struct, he]; rfl
  · cases h1
 · cases h1
theorem iface_run {t : TypeId} {ms : Array (String × TypeId)} (ht : P.underlying t = some (.interface ms)) {b : Bool} {v : Value} (hv : if b = true then ∃ u x, v = .iface u x else v = .nilIface) :
 (∀ op x, (eqGuard op t x (.const .nilIface) v .nilIface).run P w = .ok () w) ∧ (binOp .eql t v .nilIface).run P w = .ok (.bool !b) w ∧ (binOp .neq t v .nilIface).run P w = .ok (.bool b) w := by
 have hn : ∀ d : Nat, (Op.equalIn (d + 1) t .nilIface .nilIface).run P w = .ok true w := fun d => by simp [Op.equalIn, run_underlying ht]
 cases b with
 | false =>
  rw [if_neg (by decide)] at hv
  subst hv
  refine ⟨fun op x => ?_, ?_, ?_⟩
  · cases op <;> cases x <;> simp [eqGuard]
  ·
   simp only [binOp]
   simp [Op.equal, Op.maxDepth, hn 9999]
  ·
   simp only [binOp]
   simp [Op.equal, Op.maxDepth, hn 9999]
 | true =>
  rw [if_pos rfl] at hv
  obtain ⟨u, x, rfl⟩ := hv
  have h : ∀ d : Nat, (Op.equalIn (d + 1) t (.iface u x) .nilIface).run P w = .ok false w := fun d => by simp [Op.equalIn, run_underlying ht]
  refine ⟨fun op y => ?_, ?_, ?_⟩
  · cases op <;> simp [eqGuard]
  ·
   simp only [binOp]
   simp [Op.equal, Op.maxDepth, h 9999]
  ·
   simp only [binOp]
   simp [Op.equal, Op.maxDepth, h 9999]
end
end Go.Proofs.YtmjmoagmolgacaaGreatDoor.PM
namespace Go.Proofs.YtmjmoagmolgacaaGreatDoor.PM
open Go
section
variable {P : Program} {w w' : World} {g : Nat → Option Nat} {look : Nat → Ob} {cx : Cx} {tmps : List T} {a : Act} {N : Nat → Prop} {E : Env}
theorem eff_v {r : Rd T} {e : Eff} {l : List Nat} (h : (do pure ⟨← r, []⟩ : Rd Eff).run look = some (e, l)) : ∃ t l', r.run look = some (t, l') ∧ e = ⟨t, []⟩ := by
 simp only [bind_some, pure_some] at h
 obtain ⟨t, l₁, _, h1, ⟨h2, _⟩, _⟩ := h
 exact ⟨t, l₁, h1, h2⟩
theorem opt_map {x : Option Value} {t : T} {l : List Nat} (h : (Rd.ofOption (x.map T.sc)).run look = some (t, l)) : ∃ v, x = some v ∧ t = .sc v := by
 rw [opt_some] at h
 simp only [Option.map_eq_some_iff] at h
 obtain ⟨v, h1, h2⟩ := h.1
 exact ⟨v, h1, h2.symm⟩
theorem run_pureOf {s : Sem Value} {v : Value} (h : pureOf s = some v) (w : World) : s.run P w = .ok v w := by rw [pureOf_some h]; rfl
theorem args_map (R : Rel cx g tmps look a w) (xs : Array Operand) : ∀ (vs : List T), xs.toList.map (evalT tmps) = vs → (xs.map a.eval).toList.length = vs.length ∧ ∀ (i : Nat) t, vs[i]? = some t → ∃ v, (xs.map a.eval)[i]? = some v ∧ FrV w g look (NN cx w g look) v t := by
 rintro _ rfl
 refine ⟨by simp, fun i t ht => ?_⟩
 simp only [List.getElem?_map, Option.map_eq_some_iff] at ht
 obtain ⟨x, hx, rfl⟩ := ht
 exact ⟨_, by simp at hx; simp [hx], eval_ok R x⟩
theorem scs_ok : ∀ {ts : List T} {vs us : List Value}, ts.mapM scOf = some vs → us.length = ts.length → (∀ (i : Nat) t, ts[i]? = some t → ∃ u, us[i]? = some u ∧ FrV w g look N u t) → us = vs
 | [], vs, us, h, hl, _ => by simp at h; subst h; exact List.eq_nil_of_length_eq_zero (by simpa using hl)
 | t :: r, vs, us, h, hl, hu => by
  rw [List.mapM_cons] at h
  simp only [Option.bind_eq_bind, Option.bind_eq_some_iff, Option.pure_def, Option.some.injEq] at h
  obtain ⟨v, h1, vs', h2, rfl⟩ := h
  cases us with
  | nil => simp at hl
  | cons u us =>
   have h3 := scs_ok h2 (by simpa using hl) (fun i t ht => hu (i + 1) t ht)
   obtain ⟨u', h4, h5⟩ := hu 0 t rfl
   simp at h4
   subst h4
   cases t <;> simp [scOf] at h1
   subst h1
   obtain ⟨rfl, _⟩ := frV_sc h5
   rw [h3]
end
def isCall (o : Oper) : Bool := match o.op with
 | .call c => match c.callee with
  | .value _ => true
  | _ => false
 | _ => false
section
variable {P : Program} {w w' : World} {g : Nat → Option Nat} {look : Nat → Ob} {cx : Cx} {tmps : List T} {a : Act} {N : Nat → Prop} {E : Env}
theorem intToInt_plain {k : IntKind} {n : Int} {v : Value} (h : pureOf (Conv.intToInt k n) = some v) : plainB v = true := by
 have := pureOf_some h
 unfold Conv.intToInt at this
 cases this
 rfl
set_option maxHeartbeats 1000000 in
theorem op_ran (R : Rel cx g tmps look a w) {base : Nat} {o : Oper} {e : Eff} {l : List Nat} (hb : (look base).born = false) (hn : isCall o = false) (h : (opR P E tmps base o).run look = some (e, l)) : Ran P cx tmps look a w o e := by
 have ev := eval_ok R
 obtain ⟨dst, op, type, pos, after, gd⟩ := o
 cases op <;> simp only [opR, fail_some] at h
 case move x =>
  rw [ret_some] at h
  obtain ⟨rfl, _⟩ := h
  exact ran_quiet R rfl (ev x)
 case assign x =>
  rw [ret_some] at h
  obtain ⟨rfl, _⟩ := h
  exact ran_quiet R rfl (ev x)
 case pick c x y =>
  split at h
  ·
   rename_i t ht
   rw [ret_some] at h
   obtain ⟨rfl, _⟩ := h
   have hc := ev c
   rw [ht] at hc
   obtain ⟨hc, _⟩ := frV_sc hc
   refine ran_quiet R (u := if t then a.eval x else a.eval y) ?_ ?_
   · simp [execOp, hc, asBool]
   ·
    cases t
    · exact ev y
    · exact ev x
  · simp only [fail_some] at h
 case alloc t =>
  simp only [bind_some, opt_some, guard_some, pure_some] at h
  obtain ⟨z, _, _, ⟨hz, _⟩, ⟨n, _, _, ⟨hn', _⟩, ⟨_, _, _, ⟨hg, _⟩, ⟨rfl, _⟩, _⟩, _⟩, _⟩ := h
  simp only [Bool.and_eq_true, beq_iff_eq] at hg
  obtain ⟨v, hv, rfl, _⟩ := zero_run hz w
  obtain ⟨u, w', h1, h2⟩ := box_new (P := P) R hb (t := t) (lift_ok v) hg.1 hg.2 dst
  exact ⟨.pointer (some u), w', _, .inl (by simp [execOp, Instr.alloc, hv, h1]), h2⟩
 case box t x =>
  simp only [bind_some, opt_some, guard_some, pure_some] at h
  obtain ⟨n, _, _, ⟨hn', _⟩, ⟨_, _, _, ⟨hg, _⟩, ⟨rfl, _⟩, _⟩, _⟩ := h
  simp only [Bool.and_eq_true, beq_iff_eq] at hg
  obtain ⟨u, w', h1, h2⟩ := box_new (P := P) R hb (t := t) (ev x) hg.1 hg.2 dst
  exact ⟨.pointer (some u), w', _, .inl (by simp [execOp, Instr.box, h1]), h2⟩
 case build t ps =>
  obtain ⟨y, l', h1, rfl⟩ := eff_v h
  obtain ⟨hl, hp⟩ := evals_ok R ps
  obtain ⟨u, h2, h3⟩ := build_ok (P := P) (w := w) hl hp h1
  refine ran_quiet R (u := u) ?_ h3
  simp only [execOp]
  simp only [Array.toArray_toList] at h2
  simp [h2]
 case buildSlice t n ps =>
  obtain ⟨hl, hp⟩ := evals_ok R ps
  obtain ⟨u, w', g', h2, h3⟩ := buildSlice_ok (P := P) R hb hl hp h dst
  simp only [Array.toArray_toList] at h2
  exact ⟨u, w', g', .inl (by simp [execOp, h2]), h3⟩
 case load t x =>
  obtain ⟨y, l', h1, rfl⟩ := eff_v h
  have hx := ev x
  cases x with
  | global n =>
   obtain ⟨u, h2, h3⟩ := take_run (P := P) (w := w) (b := n) (off := 0) (Q := fun _ _ => False) (cs := []) (j := 0) h1 (fun j t ht => by simp at ht)
   have h2' : (Instr.loadAt t (a.eval (.global n))).run P w = .ok u w := h2
   exact ran_quiet R (by simp [execOp, h2']) (h3.fr fun _ _ hf => hf.elim)
  | _ =>
   obtain ⟨u, h2, h3⟩ := load_ok (P := P) R hx h1
   exact ran_quiet R (by simp [execOp, h2]) h3
 case store t x y =>
  simp only [bind_some, pure_some] at h
  obtain ⟨wr, _, _, h1, ⟨rfl, _⟩, _⟩ := h
  obtain ⟨w', h2, h3⟩ := store_ok (P := P) R (ev x) (ev y) h1 dst
  exact ⟨undef, w', g, .inr ⟨by simp [execOp, h2], rfl⟩, h3⟩
 case nilCheck x =>
  have hx := ev x
  split at h
  ·
   rename_i o' i j ht
   rw [ret_some] at h
   obtain ⟨rfl, _⟩ := h
   rw [ht] at hx
   have hx2 := hx
   obtain ⟨_, ⟨b, off, hv⟩, _⟩ := hx2
   refine ran_quiet R (u := a.eval x) ?_ hx
   simp [execOp, hv]
  ·
   rename_i y j s ht
   rw [ret_some] at h
   obtain ⟨rfl, _⟩ := h
   rw [ht] at hx
   have hx2 := hx
   obtain ⟨⟨b, off, hv⟩, _⟩ := hx2
   refine ran_quiet R (u := a.eval x) ?_ hx
   simp [execOp, hv]
  ·
   rename_i f c ht
   rw [ret_some] at h
   obtain ⟨rfl, _⟩ := h
   rw [ht] at hx
   have hx2 := hx
   obtain ⟨vs, hv, _⟩ := hx2
   refine ran_quiet R (u := a.eval x) ?_ hx
   simp [execOp, hv]
  · simp only [fail_some] at h
 case binOp bop t x y yt =>
  obtain ⟨z, l', h1, rfl⟩ := eff_v h
  have hx := ev x
  have hy := ev y
  split at h1
  ·
   rename_i u v hu hv
   rw [hu] at hx
   rw [hv] at hy
   obtain ⟨hx, _⟩ := frV_sc hx
   obtain ⟨hy, _⟩ := frV_sc hy
   simp only [bind_some, opt_some] at h1
   obtain ⟨r, _, _, ⟨hr, _⟩, h1, _⟩ := h1
   obtain ⟨h2, h3⟩ := eqBool_run (P := P) (w := w) hr
   have hg : ∀ op x y, eqGuard op t x y (.bool u) (.bool v) = pure () := fun op x y => plain_guard rfl
   cases bop <;> simp only [fail_some, pure_some] at h1
   ·
    obtain ⟨rfl, _⟩ := h1
    exact ran_quiet R (u := .bool r) (by simp [execOp, hx, hy, hg, h2]) ⟨rfl, rfl⟩
   ·
    obtain ⟨rfl, _⟩ := h1
    exact ran_quiet R (u := .bool !r) (by simp [execOp, hx, hy, hg, h3]) ⟨rfl, rfl⟩
  ·
   rename_i u v _ hu hv
   split at h1
   ·
    rename_i hp
    rw [Bool.and_eq_true] at hp
    rw [hu] at hx
    rw [hv] at hy
    obtain ⟨hx, _⟩ := frV_sc hx
    obtain ⟨hy, _⟩ := frV_sc hy
    rw [opt_some] at h1
    simp only [Option.bind_eq_some_iff] at h1
    obtain ⟨⟨r, hr, h3⟩, _⟩ := h1
    unfold scP at h3
    split at h3
    ·
     rename_i hpr
     obtain rfl := Option.some.inj h3
     refine ran_quiet R (u := r) ?_ ⟨rfl, hpr⟩
     simp only [execOp, hx, hy, plain_guard hp.1]
     simp [run_pureOf hr]
    · cases h3
   · simp only [fail_some] at h1
  ·
   rename_i b c hu hv
   rw [hu] at hx
   split at h1
   ·
    rename_i ms ht
    obtain ⟨hg, h2, h3⟩ := iface_run (P := P) (w := w) ht hx
    simp only [pure_some] at h1
    obtain ⟨rfl, _⟩ := h1
    have hc : a.eval (.const Value.nilIface) = .nilIface := rfl
    exact ran_quiet R (u := .bool !b) (by simp [execOp, hc, hg, h2]) ⟨rfl, rfl⟩
   ·
    rename_i ms ht
    obtain ⟨hg, h2, h3⟩ := iface_run (P := P) (w := w) ht hx
    simp only [pure_some] at h1
    obtain ⟨rfl, _⟩ := h1
    have hc : a.eval (.const Value.nilIface) = .nilIface := rfl
    exact ran_quiet R (u := .bool b) (by simp [execOp, hc, hg, h3]) ⟨rfl, rfl⟩
   · simp only [fail_some] at h1
  ·
   rename_i xs ys hu hv
   rw [hu] at hx
   rw [hv] at hy
   simp only [bind_some, opt_some] at h1
   obtain ⟨fs, _, _, ⟨hf, _⟩, ⟨r, _, _, ⟨hr, _⟩, h1, _⟩, _⟩ := h1
   obtain ⟨hg, h2, h3⟩ := eqAgg_run (P := P) hx hy hf hr
   cases bop <;> simp only [fail_some, pure_some] at h1
   ·
    obtain ⟨rfl, _⟩ := h1
    exact ran_quiet R (u := .bool r) (by simp [execOp, hg, h2]) ⟨rfl, rfl⟩
   ·
    obtain ⟨rfl, _⟩ := h1
    exact ran_quiet R (u := .bool !r) (by simp [execOp, hg, h3]) ⟨rfl, rfl⟩
  · simp only [fail_some] at h1
 case unOp uop t x =>
  obtain ⟨z, l', h1, rfl⟩ := eff_v h
  have hx := ev x
  split at h1
  ·
   rename_i u hu
   split at h1
   ·
    rename_i hp
    rw [hu] at hx
    obtain ⟨hx, _⟩ := frV_sc hx
    rw [opt_some] at h1
    simp only [Option.bind_eq_some_iff] at h1
    obtain ⟨⟨r, hr, h3⟩, _⟩ := h1
    unfold scP at h3
    split at h3
    ·
     rename_i hpr
     obtain rfl := Option.some.inj h3
     exact ran_quiet R (u := r) (by simp [execOp, hx, run_pureOf hr]) ⟨rfl, hpr⟩
    · cases h3
   · simp only [fail_some] at h1
  · simp only [fail_some] at h1
 case convert src d x =>
  have hx := ev x
  split at h
  ·
   rename_i k n _ k' ht hs hd
   obtain ⟨z, l', h1, rfl⟩ := eff_v h
   obtain ⟨r, hr, rfl⟩ := opt_map h1
   rw [ht] at hx
   obtain ⟨hx, _⟩ := frV_sc hx
   exact ran_quiet R (u := r) (by simp [execOp, convert, hx, run_underlying hs, run_underlying hd, run_pureOf hr]) ⟨rfl, intToInt_plain hr⟩
  ·
   rename_i s ht hs hd
   rw [ret_some] at h
   obtain ⟨rfl, _⟩ := h
   rw [ht] at hx
   obtain ⟨hx, _⟩ := frV_sc hx
   exact ran_quiet R (u := .string s) (by simp [execOp, convert, hx, run_underlying hs, run_underlying hd]) ⟨rfl, rfl⟩
  ·
   rename_i s el ht hs hd
   simp only [bind_some, guard_some, pure_some] at h
   obtain ⟨_, _, _, ⟨h1, _⟩, ⟨_, _, _, ⟨h2, _⟩, ⟨rfl, _⟩, _⟩, _⟩ := h
   have hel : P.underlying el = some (.int .u8) := by
    split at h1
    · assumption
    · cases h1
   simp only [Bool.and_eq_true, beq_iff_eq] at h2
   rw [ht] at hx
   obtain ⟨hx, _⟩ := frV_sc hx
   obtain ⟨u, w', g', h3, h4⟩ := conv_str (P := P) h2.1 h2.2.1.2 R hb (s := s) dst
   exact ⟨u, w', g', .inl (by simp [execOp, convert, hx, run_underlying hs, run_underlying hd, run_underlying hel, h3]), h4⟩
  ·
   rename_i el hs hd
   simp only [bind_some, guard_some, opt_some, pure_some] at h
   obtain ⟨_, _, _, ⟨h1, _⟩, ⟨ns, _, _, h2, ⟨bs, _, _, ⟨h3, _⟩, ⟨_, _, _, ⟨h4, _⟩, ⟨rfl, _⟩, _⟩, _⟩, _⟩, _⟩ := h
   have hel : P.underlying el = some (.int .u8) := by
    split at h1
    · assumption
    · cases h1
   rw [Bool.and_eq_true] at h4
   obtain ⟨h5, ad, n, c, h6⟩ := bytes_ok (P := P) R hx h2 h4.2 hs (fun u hu => by rw [hu] at h4; simp [scOf] at h4) h3
   refine ran_quiet R (u := .string ⟨bs.toArray⟩) ?_ ⟨rfl, rfl⟩
   rw [h6] at h5
   cases ad <;> simp [execOp, convert, h6, run_underlying hs, run_underlying hd, run_underlying hel, h5]
  · simp only [fail_some] at h
 case makeFunc fn first caps =>
  cases fn with
  | func f =>
   simp only [bind_some, guard_some, pure_some] at h
   obtain ⟨_, _, _, ⟨h1, _⟩, ⟨rfl, _⟩, _⟩ := h
   simp only [Bool.and_eq_true, beq_iff_eq] at h1
   have hf : first = #[] := Array.eq_empty_of_size_eq_zero h1.1
   subst hf
   refine ran_quiet R (u := .func (.func f) #[] (caps.map a.eval)) (by simp [execOp, Instr.makeFunc]) ?_
   obtain ⟨h2, h3⟩ := args_map R caps _ rfl
   refine ⟨_, rfl, by simp, fun i c hc => ?_⟩
   obtain ⟨v, h4, h5⟩ := h3 i c hc
   have hp := List.all_eq_true.1 h1.2 c (List.mem_of_getElem? hc)
   cases c <;> simp at hp
   exact ⟨v, _, _, _, h4, rfl, h5⟩
  | _ => simp only [fail_some] at h
 case makeSlice t x y =>
  obtain ⟨u, w', g', h1, h2⟩ := makeSlice_ok (P := P) R hb (ev x) (ev y) h dst
  exact ⟨u, w', g', .inl (by simp [execOp, h1]), h2⟩
 case slice t x lo hi mx =>
  obtain ⟨z, l', h1, rfl⟩ := eff_v h
  obtain ⟨u, h2, h3⟩ := slice_ok (P := P) R (ev x) (optV R hi) (optV R lo) (optV R mx) h1
  exact ran_quiet R (by simp [execOp, h2]) h3
 case fieldAddr t x f =>
  obtain ⟨z, l', h1, rfl⟩ := eff_v h
  simp only [bind_some, opt_some, guard_some] at h1
  obtain ⟨ft, _, _, ⟨hf, _⟩, ⟨n, _, _, ⟨hn', _⟩, ⟨_, _, _, ⟨h0, _⟩, h1, _⟩, _⟩, _⟩ := h1
  have h0 := of_decide_eq_true h0
  have hx := ev x
  split at h1
  ·
   rename_i o' i j ht
   rw [pure_some] at h1
   obtain ⟨rfl, _⟩ := h1
   rw [ht] at hx
   obtain ⟨b, off, hv, hp⟩ := ptr_field (n := ft.1) hx
   exact ran_quiet R (by simp [execOp, hv, fieldAt_run hf hn' h0]) hp
  ·
   rename_i y j s ht
   rw [pure_some] at h1
   obtain ⟨rfl, _⟩ := h1
   rw [ht] at hx
   obtain ⟨b, off, hv, hp⟩ := rp_field (n := ft.1) hx
   exact ran_quiet R (by simp [execOp, hv, fieldAt_run hf hn' h0]) hp
  · simp only [fail_some] at h1
 case field t x f =>
  obtain ⟨z, l', h1, rfl⟩ := eff_v h
  simp only [bind_some, opt_some] at h1
  obtain ⟨ft, _, _, ⟨hf, _⟩, h1, _⟩ := h1
  have hx := ev x
  split at h1
  ·
   rename_i cs ht
   rw [ht] at hx
   obtain ⟨vs, hv, hsz, hc⟩ := hx
   obtain ⟨u, h2, h3⟩ := part_ok (P := P) (w := w) hsz hc h1
   obtain ⟨fs, fd, h4, h5, rfl⟩ := fieldT_some hf
   exact ran_quiet R (u := u) (by simp [execOp, Instr.field, hv, run_underlying h4, h5, asAgg, h2]) h3
  · simp only [fail_some] at h1
 case indexAddr t x ix =>
  obtain ⟨z, l', h1, rfl⟩ := eff_v h
  obtain ⟨u, h2, h3⟩ := indexAddr_ok (P := P) R (ev x) (ev ix) h1
  exact ran_quiet R (by simp [execOp, h2]) h3
 case index t x ix =>
  obtain ⟨z, l', h1, rfl⟩ := eff_v h
  have hx := ev x
  have hi := ev ix
  split at h1
  ·
   rename_i s k i ht hti hu
   split at h1
   ·
    rename_i h0
    rw [opt_some] at h1
    simp only [Option.map_eq_some_iff] at h1
    obtain ⟨⟨b, hb', rfl⟩, _⟩ := h1
    rw [ht] at hx
    rw [hti] at hi
    obtain ⟨hx, _⟩ := frV_sc hx
    obtain ⟨hi, _⟩ := frV_sc hi
    exact ran_quiet R (u := .int .u8 b.toNat) (by simp [execOp, Instr.index, hx, hi, asIntOf, run_underlying hu, h0, hb']) ⟨rfl, rfl⟩
   · simp only [fail_some] at h1
  · simp only [fail_some] at h1
 case extract x i =>
  obtain ⟨z, l', h1, rfl⟩ := eff_v h
  have hx := ev x
  split at h1
  ·
   rename_i ts ht
   rw [opt_some] at h1
   rw [ht] at hx
   obtain ⟨vs, hv, hsz, hc⟩ := hx
   obtain ⟨u, h2, h3⟩ := hc i z h1.1
   refine ran_quiet R (u := u) (by simp [execOp, Instr.extract, hv, h2]) ?_
   rw [frV_eq (by rintro cs rfl; exact h3)]
   exact h3
  · simp only [fail_some] at h1
 case call c =>
  obtain ⟨callee, args, ats⟩ := c
  cases callee with
  | value f => simp [isCall] at hn
  | invoke r m => simp only [fail_some] at h
  | builtin b =>
   obtain ⟨hl, hargs⟩ := args_map R args _ rfl
   cases b <;> simp only [fail_some] at h
   case append =>
    split at h
    ·
     rename_i d x hdx
     rw [hdx] at hl hargs
     obtain ⟨dv, hd1, hd2⟩ := hargs 0 d rfl
     obtain ⟨xv, hx1, hx2⟩ := hargs 1 x rfl
     have ha : args.map a.eval = #[dv, xv] := by
      apply Array.ext_getElem?
      intro q
      match q with
      | 0 => simpa using hd1
      | 1 => simpa using hx1
      | q + 2 => rw [Array.getElem?_eq_none (by simp at hl ⊢; omega), Array.getElem?_eq_none (by simp)]
     split at h
     ·
      rename_i hts
      obtain ⟨u, w', g', h1, h2⟩ := append_ok (P := P) R hb hd2 hx2 hts h type dst
      refine ⟨u, w', g', .inl ?_, h2⟩
      simp [execOp, resolve, invoke, builtin, ha, h1]
     · simp only [fail_some] at h
    · simp only [fail_some] at h
   case copy =>
    split at h
    ·
     rename_i d x hdx
     rw [hdx] at hl hargs
     obtain ⟨dv, hd1, hd2⟩ := hargs 0 d rfl
     obtain ⟨xv, hx1, hx2⟩ := hargs 1 x rfl
     have ha : args.map a.eval = #[dv, xv] := by
      apply Array.ext_getElem?
      intro q
      match q with
      | 0 => simpa using hd1
      | 1 => simpa using hx1
      | q + 2 => rw [Array.getElem?_eq_none (by simp at hl ⊢; omega), Array.getElem?_eq_none (by simp)]
     obtain ⟨u, w', h1, h2⟩ := copy_ok (P := P) R hd2 hx2 h type dst
     refine ⟨u, w', g, .inl ?_, h2⟩
     simp [execOp, resolve, invoke, builtin, ha, h1]
    · simp only [fail_some] at h
   case len =>
    split at h
    ·
     rename_i x hdx
     obtain ⟨z, l', h1, rfl⟩ := eff_v h
     rw [hdx] at hl hargs
     obtain ⟨xv, hx1, hx2⟩ := hargs 0 x rfl
     have ha : args.map a.eval = #[xv] := by
      apply Array.ext_getElem?
      intro q
      match q with
      | 0 => simpa using hx1
      | q + 1 => rw [Array.getElem?_eq_none (by simp at hl ⊢; omega), Array.getElem?_eq_none (by simp)]
     obtain ⟨u, h2, h3⟩ := len_ok (P := P) (w := w) hx2 h1 type
     refine ran_quiet R (u := u) ?_ h3
     simp [execOp, resolve, invoke, builtin, ha, h2]
    · simp only [fail_some] at h
   case min =>
    obtain ⟨z, l', h1, rfl⟩ := eff_v h
    split at h1
    ·
     rename_i vs hvs
     split at h1
     ·
      rw [opt_some] at h1
      simp only [Option.bind_eq_some_iff] at h1
      obtain ⟨⟨r, hr, h3⟩, _⟩ := h1
      unfold scP at h3
      split at h3
      ·
       rename_i hpr
       obtain rfl := Option.some.inj h3
       have ha : (args.map a.eval).toList = vs := scs_ok hvs hl (fun i t ht => by obtain ⟨u, h4, h5⟩ := hargs i t ht; exact ⟨u, by simpa using h4, h5⟩)
       have ha : args.map a.eval = vs.toArray := by rw [← ha]
       exact ran_quiet R (u := r) (by simp [execOp, resolve, invoke, builtin, ha, run_pureOf hr]) ⟨rfl, hpr⟩
      · cases h3
     · simp only [fail_some] at h1
    · simp only [fail_some] at h1
   case max =>
    obtain ⟨z, l', h1, rfl⟩ := eff_v h
    split at h1
    ·
     rename_i vs hvs
     split at h1
     ·
      rw [opt_some] at h1
      simp only [Option.bind_eq_some_iff] at h1
      obtain ⟨⟨r, hr, h3⟩, _⟩ := h1
      unfold scP at h3
      split at h3
      ·
       rename_i hpr
       obtain rfl := Option.some.inj h3
       have ha : (args.map a.eval).toList = vs := scs_ok hvs hl (fun i t ht => by obtain ⟨u, h4, h5⟩ := hargs i t ht; exact ⟨u, by simpa using h4, h5⟩)
       have ha : args.map a.eval = vs.toArray := by rw [← ha]
       exact ran_quiet R (u := r) (by simp [execOp, resolve, invoke, builtin, ha, run_pureOf hr]) ⟨rfl, hpr⟩
      · cases h3
     · simp only [fail_some] at h1
    · simp only [fail_some] at h1
end
end Go.Proofs.YtmjmoagmolgacaaGreatDoor.PM
namespace Go.Proofs.YtmjmoagmolgacaaGreatDoor.PM
open Go
def EnvOk (P : Program) (E : Env) (cx : Cx) : Prop :=
 ∀ (g : Nat → Option Nat) (tmps : List T) (look : Nat → Ob) (a : Act) (w : World), Rel cx g tmps look a w → ∀ (base : Nat) (o : Oper) (e : Eff) (l : List Nat),
  (∀ q, base ≤ q → q < base + room → (look q).born = false) → isCall o = true → (opR P E tmps base o).run look = some (e, l) → ∀ (K : Act → World → Prop) (Q : Exit → Act → World → Prop),
   (∀ g' a' w', Rel cx g' (putT tmps o.dst e.val) (updL look e.wr) a' w' → K a' w') → o.wp P a w K Q
section
variable {P : Program} {E : Env} {w w' : World} {g : Nat → Option Nat} {look : Nat → Ob} {cx : Cx} {tmps : List T} {a : Act}
theorem op_wp (hE : EnvOk P E cx) (R : Rel cx g tmps look a w) {base : Nat} {o : Oper} {e : Eff} {l : List Nat} (hb : ∀ q, base ≤ q → q < base + room → (look q).born = false)
 (h : (opR P E tmps base o).run look = some (e, l)) {K : Act → World → Prop} {Q : Exit → Act → World → Prop} (hK : ∀ g' a' w', Rel cx g' (putT tmps o.dst e.val) (updL look e.wr) a' w' → K a' w') : o.wp P a w K Q := by
 by_cases hc : isCall o = true
 · exact hE g tmps look a w R base o e l hb hc h K Q hK
 · exact (op_ran R (hb base (Nat.le_refl _) (by unfold room; omega)) (by simpa using hc) h).wp hK
theorem want_ok (R : Rel cx g tmps look a w) {ops : Array Oper} {o : Oper} {b : Bool} (h : wantR ops tmps o = some b) : Region.wanted o (yielded ops a.tmps) = b := by
 unfold wantR at h
 unfold Region.wanted
 cases hg : o.guard with
 | none => rw [hg] at h; simpa using h
 | some p =>
  obtain ⟨j, want⟩ := p
  rw [hg] at h
  simp only at h ⊢
  unfold yielded
  cases hd : (ops[j]?).bind (·.dst) with
  | none => rw [hd] at h; simp at h
  | some d =>
   rw [hd] at h
   simp only [Option.bind_some] at h ⊢
   cases ht : tmps[d]? with
   | none => rw [ht] at h; simp at h
   | some t =>
    rw [ht] at h
    have hf := R.tm d t ht
    have hlt : d < a.tmps.size := by rw [R.size]; exact (List.getElem?_eq_some_iff.1 ht).1
    have hget : a.tmps.getD d undef = a.tmps[d] := by simp [hlt]
    rw [Array.getElem?_eq_getElem hlt]
    rw [hget] at hf
    cases t with
    | sc v =>
     cases v with
     | bool c =>
      simp only [Option.some.injEq] at h
      obtain ⟨hf, _⟩ := frV_sc hf
      rw [hf]
      simp only
      rw [← h]
      cases c <;> cases want <;> rfl
     | _ => simp at h
    | tup ts =>
     cases ts with
     | nil =>
      simp only [Option.some.injEq] at h
      obtain ⟨vs, hv, _⟩ := hf
      rw [hv]
      simp only
      rw [← h]
      rfl
     | cons _ _ => simp at h
    | _ => simp at h
structure Trace (P : Program) (E : Env) (ops : Array Oper) (nx : Nat) (S : Nat → St) (L : Nat → Log) : Prop where
 step : ∀ (i : Nat) o, ops[i]? = some o → stepR P E ops nx i o (S i) = some (S (i + 1), L i)
theorem runOps_trace {ops : Array Oper} {nx : Nat} : ∀ (l : List Oper) (i : Nat) (s s' : St) (logs : List Log), runOps P E ops nx i l s = some (s', logs) →
 ∃ S : Nat → St, ∃ L : Nat → Log, S i = s ∧ S (i + l.length) = s' ∧ logs = (List.range l.length).map (fun q => L (i + q)) ∧ ∀ q o, l[q]? = some o → stepR P E ops nx (i + q) o (S (i + q)) = some (S (i + q + 1), L (i + q))
 | [], i, s, s', logs, h => by
  simp only [runOps, Option.some.injEq, Prod.mk.injEq] at h
  obtain ⟨rfl, rfl⟩ := h
  exact ⟨fun _ => s, fun _ => ⟨0, [], []⟩, rfl, rfl, rfl, fun q o hq => by simp at hq⟩
 | o :: r, i, s, s', logs, h => by
  simp only [runOps] at h
  split at h
  · cases h
  ·
   rename_i s1 l1 h1
   split at h
   · cases h
   ·
    rename_i s2 ls h2
    simp only [Option.some.injEq, Prod.mk.injEq] at h
    obtain ⟨rfl, rfl⟩ := h
    obtain ⟨S, L, e1, e2, e3, e4⟩ := runOps_trace r (i + 1) s1 s2 ls h2
    refine ⟨fun q => if q ≤ i then s else S q, fun q => if q ≤ i then l1 else L q, by simp, ?_, ?_, ?_⟩
    ·
     simp only [List.length_cons]
     rw [if_neg (by omega), show i + (r.length + 1) = i + 1 + r.length by omega]
     exact e2
    ·
     rw [List.length_cons, List.range_succ_eq_map, List.map_cons, e3, List.map_map]
     congr 1
     · simp
     ·
      refine List.map_congr_left fun q _ => ?_
      simp only [Function.comp]
      rw [if_neg (by omega)]
      congr 1
      omega
    ·
     intro q o' hq
     cases q with
     | zero =>
      simp only [List.getElem?_cons_zero, Option.some.injEq] at hq
      subst hq
      simp only [Nat.add_zero, Nat.le_refl, if_true]
      rw [if_neg (by omega), e1]
      exact h1
     | succ q =>
      have := e4 q o' (by simpa using hq)
      simp only
      rw [if_neg (by omega), if_neg (by omega), if_neg (by omega)]
      rw [show i + (q + 1) = i + 1 + q by omega]
      exact this
def effOf (P : Program) (E : Env) (ops : Array Oper) (nx : Nat) (i : Nat) (o : Oper) (s : St) : Eff :=
 match wantR ops s.tmps o with
 | some true => match (opR P E s.tmps (nx + room * i) o).run (lookIn s.store) with
  | some (e, _) => e
  | none => ⟨undT, []⟩
 | _ => ⟨undT, []⟩
theorem step_eff {ops : Array Oper} {nx i : Nat} {o : Oper} {s s' : St} {l : Log} (h : stepR P E ops nx i o s = some (s', l)) :
 s'.tmps = putT s.tmps o.dst (effOf P E ops nx i o s).val ∧ lookIn s'.store = updL (lookIn s.store) (effOf P E ops nx i o s).wr ∧ s'.nx = s.nx ∧ l.i = i ∧ l.wr = (effOf P E ops nx i o s).wr.map (·.1) ∧
 wrOk (lookIn s.store) (nx + room * i) (effOf P E ops nx i o s).wr = true ∧
 ((wantR ops s.tmps o = some false ∧ effOf P E ops nx i o s = ⟨undT, []⟩) ∨ (wantR ops s.tmps o = some true ∧ (opR P E s.tmps (nx + room * i) o).run (lookIn s.store) = some (effOf P E ops nx i o s, l.rd))) := by
 unfold stepR at h
 split at h
 · cases h
 ·
  rename_i hw
  have he : effOf P E ops nx i o s = ⟨undT, []⟩ := by unfold effOf; rw [hw]
  simp only [Option.some.injEq, Prod.mk.injEq] at h
  obtain ⟨rfl, rfl⟩ := h
  rw [he]
  exact ⟨rfl, rfl, rfl, rfl, rfl, rfl, .inl ⟨hw, rfl⟩⟩
 ·
  rename_i hw
  split at h
  · cases h
  ·
   rename_i e l' her
   have he : effOf P E ops nx i o s = e := by unfold effOf; rw [hw]; simp only; rw [her]
   split at h
   ·
    rename_i hok
    simp only [Option.some.injEq, Prod.mk.injEq] at h
    obtain ⟨rfl, rfl⟩ := h
    rw [he]
    exact ⟨rfl, lookIn_putAll _ _, rfl, rfl, rfl, hok, .inr ⟨hw, her⟩⟩
   · cases h
theorem step_wp (hE : EnvOk P E cx) {ops : Array Oper} {nx i : Nat} {o : Oper} {s s' : St} {l : Log} (ho : ops[i]? = some o) (h : stepR P E ops nx i o s = some (s', l))
 {tmps' : List T} {look' : Nat → Ob} (R : Rel cx g tmps' look' a w) (hwant : wantR ops tmps' o = wantR ops s.tmps o) (hop : ∀ x : Oper, x = o → ∀ b, opR P E tmps' b x = opR P E s.tmps b x) (hlook : ∀ q ∈ l.rd, look' q = lookIn s.store q)
 (hb : ∀ q, nx + room * i ≤ q → q < nx + room * i + room → (look' q).born = false) {K : Act → World → Prop} {Q : Exit → Act → World → Prop}
 (hK : ∀ g' a' w', Rel cx g' (putT tmps' o.dst (effOf P E ops nx i o s).val) (updL look' (effOf P E ops nx i o s).wr) a' w' → K a' w') : wpOp P ops Q i K a w := by
 unfold wpOp
 simp only [ho]
 obtain ⟨_, _, _, _, _, _, h1⟩ := step_eff h
 rcases h1 with ⟨h1, h2⟩ | ⟨h1, h2⟩
 ·
  rw [want_ok R (hwant.trans h1), if_neg (by simp)]
  refine hK g _ _ ?_
  rw [h2]
  exact R.quiet o.dst ⟨#[], rfl, rfl, fun i c hc => by simp at hc⟩
 ·
  rw [want_ok R (hwant.trans h1), if_pos rfl]
  refine .inl (op_wp hE R (l := l.rd) hb ?_ hK)
  rw [hop o rfl]
  exact Rd.local1 _ h2 hlook
theorem ops_wp' (hE : EnvOk P E cx) {ops : Array Oper} {nx : Nat} {S : Nat → St} {L : Nat → Log} (hT : Trace P E ops nx S L) {Q : Exit → Act → World → Prop}
 (hfresh : ∀ i q, i ≤ ops.size → nx + room * i ≤ q → (lookIn (S i).store q).born = false) (hQ : ∀ g a w, Rel cx g (S ops.size).tmps (lookIn (S ops.size).store) a w → Q .normal a w) :
 ∀ (n i : Nat), i + n = ops.size → ∀ g a w, Rel cx g (S i).tmps (lookIn (S i).store) a w → wpOps P ops Q (List.range' i n) a w
 | 0, i, hi, g, a, w, R => by
  simp only [List.range'_zero, wpOps]
  obtain rfl : i = ops.size := by omega
  exact hQ g a w R
 | n + 1, i, hi, g, a, w, R => by
  rw [List.range'_succ, wpOps_cons]
  have hlt : i < ops.size := by omega
  have ho : ops[i]? = some ops[i] := Array.getElem?_eq_getElem hlt
  have hs := hT.step i _ ho
  obtain ⟨h1, h2, _⟩ := step_eff hs
  refine step_wp hE ho hs R rfl (fun _ _ _ => rfl) (fun _ _ => rfl) (fun q hq _ => hfresh i q (by omega) hq) (fun g' a' w' R' => ?_)
  refine ops_wp' hE hT hfresh hQ n (i + 1) (by omega) g' a' w' ?_
  rw [h1, h2]
  exact R'
end
end Go.Proofs.YtmjmoagmolgacaaGreatDoor.PM
namespace Go.Proofs.YtmjmoagmolgacaaGreatDoor.PM
open Go
theorem opR_congr {P : Program} {E : Env} {tmps tmps' : List T} {b : Nat} (o : Oper) (h : ∀ x ∈ o.op.operands, evalT tmps' x = evalT tmps x) : opR P E tmps' b o = opR P E tmps b o := by
 obtain ⟨dst, op, type, pos, after, gd⟩ := o
 have pairs : ∀ ps : Array (Nat × Operand), (∀ x ∈ ps.map (·.2), evalT tmps' x = evalT tmps x) → (ps.toList.map fun p => (p.1, evalT tmps' p.2)) = ps.toList.map fun p => (p.1, evalT tmps p.2) := fun ps hp =>
  List.map_congr_left fun p hm => by rw [hp p.2 (Array.mem_map.2 ⟨p, by simpa using hm, rfl⟩)]
 have lists : ∀ ps : Array Operand, (∀ x ∈ ps, evalT tmps' x = evalT tmps x) → ps.toList.map (evalT tmps') = ps.toList.map (evalT tmps) := fun ps hp =>
  List.map_congr_left fun x hm => hp x (by simpa using hm)
 cases op <;> simp only [Op.operands] at h <;> simp only [opR]
 case build t ps => rw [pairs ps fun x hx => h x (by simpa using hx)]
 case buildSlice t n ps => rw [pairs ps fun x hx => h x (by simpa using hx)]
 case makeFunc fn first caps =>
  cases fn with
  | func f => simp only; rw [lists caps fun x hx => h x (by simp [hx])]
  | _ => rfl
 case call c =>
  obtain ⟨callee, args, ats⟩ := c
  have ha := lists args fun x hx => h x (by simp [Call.operands, hx])
  cases callee with
  | builtin b => simp only [ha]; cases b <;> rfl
  | value f => simp only [ha, h f (by simp [Call.operands])]
  | invoke r m => rfl
 case slice t x lo hi mx => cases lo <;> cases hi <;> cases mx <;> simp_all
 all_goals (first | rfl | (simp_all; done))
theorem updL_out {q : Nat} : ∀ (wr : List (Nat × Ob)) (look : Nat → Ob), q ∉ wr.map (·.1) → updL look wr q = look q
 | [], _, _ => rfl
 | (o, x) :: r, look, h => by
  simp only [List.map_cons, List.mem_cons, not_or] at h
  rw [updL, updL_out r _ h.2, up_ne _ _ h.1]
theorem updL_in {q : Nat} : ∀ (wr : List (Nat × Ob)) (look look' : Nat → Ob), q ∈ wr.map (·.1) → updL look wr q = updL look' wr q
 | [], _, _, h => by simp at h
 | (o, x) :: r, look, look', h => by
  rw [updL, updL]
  by_cases hr : q ∈ r.map (·.1)
  · exact updL_in r _ _ hr
  ·
   simp only [List.map_cons, List.mem_cons] at h
   have : q = o := h.resolve_right hr
   subst this
   rw [updL_out r _ hr, updL_out r _ hr, up_same, up_same]
section
variable {P : Program} {E : Env} {ops : Array Oper} {nx : Nat} {S : Nat → St} {L : Nat → Log}
abbrev efs (P : Program) (E : Env) (ops : Array Oper) (nx : Nat) (S : Nat → St) (j : Nat) : Eff := effOf P E ops nx j (ops.getD j default) (S j)
abbrev dstOf (ops : Array Oper) (j : Nat) : Option Tmp := (ops.getD j default).dst
def appl (P : Program) (E : Env) (ops : Array Oper) (nx : Nat) (S : Nat → St) (j : Nat) (x : List T × (Nat → Ob)) : List T × (Nat → Ob) :=
 (putT x.1 (dstOf ops j) (efs P E ops nx S j).val, updL x.2 (efs P E ops nx S j).wr)
def foldD (P : Program) (E : Env) (ops : Array Oper) (nx : Nat) (S : Nat → St) (D : Nat → Bool) : Nat → List T × (Nat → Ob)
 | 0 => ((S 0).tmps, lookIn (S 0).store)
 | j + 1 => if D j then appl P E ops nx S j (foldD P E ops nx S D j) else foldD P E ops nx S D j
theorem putT_length (ts : List T) (d : Option Tmp) (v : T) : (putT ts d v).length = ts.length := by cases d <;> simp [putT]
theorem foldD_length (D : Nat → Bool) (n : Nat) : (foldD P E ops nx S D n).1.length = (S 0).tmps.length := by
 induction n with
 | zero => rfl
 | succ n ih =>
  simp only [foldD]
  split
  · simp only [appl, putT_length]; exact ih
  · exact ih
theorem putT_get {ts ts' : List T} {d : Option Tmp} {v : T} {t : Nat} (hl : ts.length = ts'.length) (h : d ≠ some t → ts[t]? = ts'[t]?) : (putT ts d v)[t]? = (putT ts' d v)[t]? := by
 cases d with
 | none => exact h (by simp)
 | some d =>
  simp only [putT, List.getElem?_set]
  by_cases hd : d = t
  · subst hd; rw [if_pos rfl, if_pos rfl, hl]
  · rw [if_neg hd, if_neg hd]; exact h (by simpa using hd)
theorem putT_ne {ts : List T} {d : Option Tmp} {v : T} {t : Nat} (h : d ≠ some t) : (putT ts d v)[t]? = ts[t]? := by
 cases d with
 | none => rfl
 | some d => simp only [putT, List.getElem?_set]; rw [if_neg (by simpa using h)]
theorem foldD_tmp {D D' : Nat → Bool} {t : Nat} : ∀ n, (∀ j, j < n → dstOf ops j = some t → D j = D' j) → (foldD P E ops nx S D n).1[t]? = (foldD P E ops nx S D' n).1[t]?
 | 0, _ => rfl
 | n + 1, h => by
  have ih := foldD_tmp n (fun j hj hd => h j (by omega) hd)
  have hl : (foldD P E ops nx S D n).1.length = (foldD P E ops nx S D' n).1.length := by rw [foldD_length, foldD_length]
  simp only [foldD]
  by_cases hd : dstOf ops n = some t
  ·
   rw [h n (by omega) hd]
   split
   · exact putT_get hl (fun _ => ih)
   · exact ih
  ·
   have e1 : (if D n then appl P E ops nx S n (foldD P E ops nx S D n) else foldD P E ops nx S D n).1[t]? = (foldD P E ops nx S D n).1[t]? := by
    split
    · exact putT_ne hd
    · rfl
   have e2 : (if D' n then appl P E ops nx S n (foldD P E ops nx S D' n) else foldD P E ops nx S D' n).1[t]? = (foldD P E ops nx S D' n).1[t]? := by
    split
    · exact putT_ne hd
    · rfl
   rw [e1, e2, ih]
theorem foldD_root {D D' : Nat → Bool} {q : Nat} : ∀ n, (∀ j, j < n → q ∈ (efs P E ops nx S j).wr.map (·.1) → D j = D' j) → (foldD P E ops nx S D n).2 q = (foldD P E ops nx S D' n).2 q
 | 0, _ => rfl
 | n + 1, h => by
  have ih := foldD_root n (fun j hj hd => h j (by omega) hd)
  simp only [foldD]
  by_cases hd : q ∈ (efs P E ops nx S n).wr.map (·.1)
  ·
   rw [h n (by omega) hd]
   split
   · exact updL_in _ _ _ hd
   · exact ih
  ·
   have e1 : (if D n then appl P E ops nx S n (foldD P E ops nx S D n) else foldD P E ops nx S D n).2 q = (foldD P E ops nx S D n).2 q := by
    split
    · exact updL_out _ _ hd
    · rfl
   have e2 : (if D' n then appl P E ops nx S n (foldD P E ops nx S D' n) else foldD P E ops nx S D' n).2 q = (foldD P E ops nx S D' n).2 q := by
    split
    · exact updL_out _ _ hd
    · rfl
   rw [e1, e2, ih]
theorem getD_of {j : Nat} (h : j < ops.size) : ops[j]? = some (ops.getD j default) := by simp [h]
theorem foldD_all (hT : Trace P E ops nx S L) : ∀ n, n ≤ ops.size → ∀ D : Nat → Bool, (∀ j, j < n → D j = true) → foldD P E ops nx S D n = ((S n).tmps, lookIn (S n).store)
 | 0, _, _, _ => rfl
 | n + 1, hn, D, hD => by
  have ih := foldD_all hT n (by omega) D (fun j hj => hD j (by omega))
  obtain ⟨h1, h2, _⟩ := step_eff (hT.step n _ (getD_of (by omega)))
  simp only [foldD, hD n (by omega), if_true, ih, appl]
  rw [h1, h2]
theorem foldD_none {D : Nat → Bool} {i : Nat} : ∀ n, i ≤ n → (∀ j, i ≤ j → D j = false) → foldD P E ops nx S D n = foldD P E ops nx S D i
 | 0, hi, _ => by
  obtain rfl : i = 0 := by omega
  rfl
 | n + 1, hi, hD => by
  by_cases h : i = n + 1
  · subst h; rfl
  ·
   simp only [foldD]
   rw [hD n (by omega), if_neg (by simp)]
   exact foldD_none n (by omega) hD
theorem foldD_lt (hT : Trace P E ops nx S L) {i : Nat} (hi : i ≤ ops.size) : foldD P E ops nx S (fun j => decide (j < i)) ops.size = ((S i).tmps, lookIn (S i).store) := by
 rw [foldD_none ops.size hi (fun j hj => by simp; omega)]
 exact foldD_all hT i hi _ (fun j hj => by simpa using hj)
theorem fresh (hT : Trace P E ops nx S L) (h0 : ∀ q, nx ≤ q → (lookIn (S 0).store q).born = false) : ∀ i, i ≤ ops.size → ∀ q, nx + room * i ≤ q → (lookIn (S i).store q).born = false
 | 0, _, q, hq => h0 q (by simpa using hq)
 | i + 1, hi, q, hq => by
  have ih := fresh hT h0 i (by omega)
  have hroom : room * (i + 1) = room * i + room := Nat.mul_succ _ _
  obtain ⟨_, h2, _, _, _, h6, _⟩ := step_eff (hT.step i _ (getD_of (by omega)))
  rw [h2]
  by_cases hm : q ∈ (efs P E ops nx S i).wr.map (·.1)
  ·
   obtain ⟨p, hp, rfl⟩ := List.mem_map.1 hm
   have := List.all_eq_true.1 h6 p hp
   simp only [Bool.or_eq_true, Bool.and_eq_true, decide_eq_true_eq] at this
   rcases this with h | h
   · rw [ih p.1 (by omega)] at h; cases h
   · omega
  ·
   rw [updL_out _ _ hm]
   exact ih q (by omega)
theorem wr_born (hT : Trace P E ops nx S L) (h0 : ∀ q, nx ≤ q → (lookIn (S 0).store q).born = false) {i : Nat} (hi : i < ops.size) {q : Nat} (hq1 : nx + room * i ≤ q) (hq2 : q < nx + room * i + room) :
 ∀ j, j ≤ ops.size → (lookIn (S j).store q).born = true → q ∈ (efs P E ops nx S i).wr.map (·.1)
 | 0, _, hb => by
  rw [h0 q (by omega)] at hb; cases hb
 | j + 1, hj, hb => by
  obtain ⟨_, h2, _, _, _, h6, _⟩ := step_eff (hT.step j _ (getD_of (by omega)))
  rw [h2] at hb
  by_cases hm : q ∈ (efs P E ops nx S j).wr.map (·.1)
  ·
   by_cases hij : i = j
   · subst hij; exact hm
   ·
    obtain ⟨p, hp, rfl⟩ := List.mem_map.1 hm
    have := List.all_eq_true.1 h6 p hp
    simp only [Bool.or_eq_true, Bool.and_eq_true, decide_eq_true_eq] at this
    rcases this with h | h
    · exact wr_born hT h0 hi hq1 hq2 j (by omega) h
    ·
     exfalso
     rcases Nat.lt_or_ge i j with h7 | h7
     ·
      have : room * (i + 1) ≤ room * j := Nat.mul_le_mul_left _ h7
      rw [Nat.mul_succ] at this
      omega
     ·
      have : room * (j + 1) ≤ room * i := Nat.mul_le_mul_left _ (by omega)
      rw [Nat.mul_succ] at this
      omega
  ·
   rw [updL_out _ _ hm] at hb
   exact wr_born hT h0 hi hq1 hq2 j (by omega) hb
end
abbrev before (ops : Array Oper) (j : Nat) : List Nat := (predsR ops.toList []).getD j []
theorem predsR_append : ∀ (l : List Oper) (acc : List (List Nat)), ∃ r, predsR l acc = acc ++ r ∧ r.length = l.length
 | [], acc => ⟨[], by simp [predsR], rfl⟩
 | o :: l, acc => by
  obtain ⟨r, h1, h2⟩ := predsR_append l (acc ++ [((o.after.toList.filter (Region.binds .any)).map (·.on)) ++ ((o.after.toList.filter (Region.binds .any)).map (·.on)).flatMap fun i => acc.getD i []])
  exact ⟨(((o.after.toList.filter (Region.binds .any)).map (·.on)) ++ ((o.after.toList.filter (Region.binds .any)).map (·.on)).flatMap fun i => acc.getD i []) :: r, by rw [predsR, h1]; simp, by simp [h2]⟩
theorem predsR_get : ∀ (l : List Oper) (acc : List (List Nat)) (q : Nat) o, l[q]? = some o → (∀ e ∈ o.after.toList, Region.binds .any e = true → e.on < acc.length + q) → ∀ i, i ∈ (predsR l acc).getD (acc.length + q) [] →
 (∃ e ∈ o.after.toList, Region.binds .any e = true ∧ (e.on = i ∨ i ∈ (predsR l acc).getD e.on []))
 | [], _, _, _, h, _, _, _ => by simp at h
 | o :: l, acc, q, o', h, hb, i, hi => by
  cases q with
  | zero =>
   simp only [List.getElem?_cons_zero, Option.some.injEq] at h
   subst h
   obtain ⟨r, h1, h2⟩ := predsR_append l (acc ++ [((o.after.toList.filter (Region.binds .any)).map (·.on)) ++ ((o.after.toList.filter (Region.binds .any)).map (·.on)).flatMap fun i => acc.getD i []])
   have hp : predsR (o :: l) acc = acc ++ (((o.after.toList.filter (Region.binds .any)).map (·.on)) ++ ((o.after.toList.filter (Region.binds .any)).map (·.on)).flatMap fun i => acc.getD i []) :: r := by
    rw [predsR, h1]; simp
   rw [hp] at hi ⊢
   simp only [Nat.add_zero, List.getD_eq_getElem?_getD, List.getElem?_append_right (Nat.le_refl _), Nat.sub_self, List.getElem?_cons_zero, Option.getD_some, List.mem_append, List.mem_map, List.mem_flatMap, List.mem_filter] at hi
   rcases hi with ⟨e, ⟨he1, he2⟩, rfl⟩ | ⟨_, ⟨e, ⟨he1, he2⟩, rfl⟩, hi⟩
   · exact ⟨e, he1, he2, .inl rfl⟩
   ·
    refine ⟨e, he1, he2, .inr ?_⟩
    have := hb e he1 he2
    rw [List.getD_eq_getElem?_getD, List.getElem?_append_left (by omega)]
    exact hi
  | succ q =>
   have := predsR_get l (acc ++ [((o.after.toList.filter (Region.binds .any)).map (·.on)) ++ ((o.after.toList.filter (Region.binds .any)).map (·.on)).flatMap fun i => acc.getD i []]) q o' (by simpa using h) (fun e he hbe => by have := hb e he hbe; simp; omega) i (by
    rw [predsR] at hi
    rw [List.length_append, List.length_singleton, Nat.add_assoc, Nat.add_comm 1 q]
    exact hi)
   rw [predsR]
   exact this
end Go.Proofs.YtmjmoagmolgacaaGreatDoor.PM
namespace Go.Proofs.YtmjmoagmolgacaaGreatDoor.PM
open Go
theorem logsR_pairs {ps : List (List Nat)} : ∀ {l : List Log}, logsR ps l = true → l.Pairwise fun a b => (ps.getD b.i []).contains a.i = true ∨ (meets a.wr b.rd = false ∧ meets a.wr b.wr = false ∧ meets b.wr a.rd = false)
 | [], _ => List.Pairwise.nil
 | x :: r, hl => by
  simp only [logsR, Bool.and_eq_true] at hl
  refine List.Pairwise.cons (fun b hb => ?_) (logsR_pairs hl.2)
  have := List.all_eq_true.1 hl.1 b hb
  simp only [Bool.or_eq_true, Bool.not_eq_true', Bool.or_eq_false_iff] at this
  exact this.imp id fun ⟨⟨h1, h2⟩, h3⟩ => ⟨h1, h2, h3⟩
theorem bare_meets {a b : Log} (h : a.bare = true ∨ b.bare = true) : meets a.wr b.rd = false ∧ meets a.wr b.wr = false ∧ meets b.wr a.rd = false := by
 unfold Log.bare at h
 simp only [Bool.and_eq_true, List.isEmpty_iff] at h
 rcases h with ⟨h1, h2⟩ | ⟨h1, h2⟩
 · rw [h1, h2]; simp [meets]
 · rw [h1, h2]; simp [meets]
theorem logsR_get {ps : List (List Nat)} {l : List Log} (h : logsR ps (l.filter fun l => !l.bare) = true) (i j : Nat) (a b : Log) (hij : i < j) (ha : l[i]? = some a) (hb : l[j]? = some b) :
 (ps.getD b.i []).contains a.i = true ∨ (meets a.wr b.rd = false ∧ meets a.wr b.wr = false ∧ meets b.wr a.rd = false) := by
 by_cases hbare : a.bare = true ∨ b.bare = true
 · exact .inr (bare_meets hbare)
 ·
  simp only [not_or, Bool.not_eq_true] at hbare
  have hp := List.pairwise_filter.1 (logsR_pairs h)
  obtain ⟨hi, rfl⟩ := List.getElem?_eq_some_iff.1 ha
  obtain ⟨hj, rfl⟩ := List.getElem?_eq_some_iff.1 hb
  exact List.pairwise_iff_getElem.1 hp i j hi hj hij (by simp [hbare.1]) (by simp [hbare.2])
theorem meets_false {a b : List Nat} (h : meets a b = false) {q : Nat} (hq : q ∈ a) : q ∉ b := by
 intro hb
 unfold meets at h
 rw [List.any_eq_false] at h
 exact h q hq (by simpa using hb)
section
variable {P : Program} {E : Env} {ops : Array Oper} {nx : Nat} {S : Nat → St} {L : Nat → Log} {cx : Cx} {Q : Exit → Act → World → Prop}
theorem apart_get (h : apartR ops (predsR ops.toList []) = true) {i j : Nat} (hij : i < j) (hj : j < ops.size) : i ∈ before ops j ∨ Oper.apart ops (ops.getD i default) (ops.getD j default) = true := by
 have h1 := List.all_eq_true.1 (List.all_eq_true.1 h j (by simpa using hj)) i (by simpa using hij)
 rw [getD_of (by omega), getD_of hj] at h1
 simpa using h1
theorem back_get (h : backR ops = true) {j : Nat} (hj : j < ops.size) : ∀ e ∈ (ops.getD j default).after, Region.binds .any e = true → e.on < j := by
 intro e he hb
 have h1 := List.all_eq_true.1 h j (by simpa using hj)
 rw [getD_of hj] at h1
 have h2 := Array.all_eq_true_iff_forall_mem.1 h1 e he
 simpa [hb] using h2
theorem draw_wp (hE : EnvOk P E cx) (hT : Trace P E ops nx S L) (h0 : ∀ q, nx ≤ q → (lookIn (S 0).store q).born = false) (hok : okOps ops = true) (hlog : logsR (predsR ops.toList []) (((List.range ops.size).map L).filter fun l => !l.bare) = true)
 (hQ : ∀ g a w, Rel cx g (S ops.size).tmps (lookIn (S ops.size).store) a w → Q .normal a w) :
 ∀ (fuel : Nat) (listed : Array Bool), listed.size = ops.size → (List.range ops.size).countP (fun j => !listed.getD j false) = fuel →
  (∀ j, j < ops.size → listed.getD j false = true → ∀ i ∈ before ops j, listed.getD i false = true) →
  ∀ g a w, Rel cx g (foldD P E ops nx S (fun j => listed.getD j false) ops.size).1 (foldD P E ops nx S (fun j => listed.getD j false) ops.size).2 a w → wpAny P .any ops Q fuel listed a w := by
 simp only [okOps, Bool.and_eq_true] at hok
 obtain ⟨⟨hback, hapart⟩, _⟩ := hok
 have hbefore : ∀ (listed : Array Bool), listed.size = ops.size → (∀ j, j < ops.size → listed.getD j false = true → ∀ i ∈ before ops j, listed.getD i false = true) → ∀ i, i < ops.size →
  (∀ e ∈ (ops.getD i default).after, Region.binds .any e = true → listed.getD e.on false = true) → ∀ q ∈ before ops i, listed.getD q false = true := by
  intro listed hs hcl i hi hr q hq
  obtain ⟨e, he, hb, h1⟩ := predsR_get ops.toList [] i _ (by rw [Array.getElem?_toList]; exact getD_of hi) (fun e he hb => by simpa using back_get hback hi e (by simpa using he) hb) q (by simpa using hq)
  have h2 := hr e (by simpa using he) hb
  rcases h1 with rfl | h1
  · exact h2
  · exact hcl e.on (by have := back_get hback hi e (by simpa using he) hb; omega) h2 q h1
 intro fuel
 induction fuel with
 | zero =>
  intro listed hs hcount hcl g a w R
  have hall : ∀ j, j < ops.size → listed.getD j false = true := fun j hj => by
   rw [List.countP_eq_zero] at hcount
   simpa using hcount j (by simpa using hj)
  refine ⟨?_, hQ g a w ?_⟩
  ·
   rw [List.eq_nil_iff_forall_not_mem]
   intro i hi
   obtain ⟨h1, o, ho, _⟩ := mem_ready.1 hi
   have hlt := (Array.getElem?_eq_some_iff.1 ho).1
   have h2 := hall i hlt
   simp [hs, hlt] at h1 h2
   rw [h1] at h2
   cases h2
  ·
   rw [foldD_all hT ops.size (Nat.le_refl _) _ hall] at R
   exact R
 | succ fuel ih =>
  intro listed hs hcount hcl g a w R
  refine ⟨fun hr => ?_, fun i hi => ?_⟩
  ·
   -- the least that has not run is ready
   exfalso
   have hex : ∃ j, j < ops.size ∧ listed.getD j false = false := by
    have : 0 < (List.range ops.size).countP (fun j => !listed.getD j false) := by omega
    rw [List.countP_pos_iff] at this
    obtain ⟨j, h1, h2⟩ := this
    exact ⟨j, by simpa using h1, by simpa using h2⟩
   obtain ⟨j, hj1, hj2⟩ := hex
   have key : ∀ n, ∀ j, j ≤ n → j < ops.size → listed.getD j false = false → ∃ i, i ∈ Region.ready .any ops listed := by
    intro n
    induction n with
    | zero =>
     intro j hjn hj1 hj2
     refine ⟨j, mem_ready.2 ⟨?_, _, getD_of hj1, fun e he hb => ?_⟩⟩
     · simp [hs, hj1] at hj2 ⊢; exact hj2
     · have := back_get hback hj1 e he hb; omega
    | succ n ihn =>
     intro j hjn hj1 hj2
     by_cases h1 : ∀ e ∈ (ops.getD j default).after, Region.binds .any e = true → listed.getD e.on false = true
     · exact ⟨j, mem_ready.2 ⟨by simp [hs, hj1] at hj2 ⊢; exact hj2, _, getD_of hj1, h1⟩⟩
     ·
      have : ∃ e ∈ (ops.getD j default).after, Region.binds .any e = true ∧ listed.getD e.on false = false := by
       refine Classical.byContradiction fun hn => h1 fun e he hb => ?_
       cases h2 : listed.getD e.on false with
       | true => rfl
       | false => exact absurd ⟨e, he, hb, h2⟩ hn
      obtain ⟨e, he, hb, h2⟩ := this
      have := back_get hback hj1 e he hb
      exact ihn e.on (by omega) (by omega) h2
   obtain ⟨i, hi⟩ := key j j (Nat.le_refl _) hj1 hj2
   rw [hr] at hi
   cases hi
  ·
   obtain ⟨h1, o, ho, hready⟩ := mem_ready.1 hi
   have hin : i < ops.size := (Array.getElem?_eq_some_iff.1 ho).1
   obtain rfl : ops.getD i default = o := Option.some.inj ((getD_of hin).symm.trans ho)
   have hDi : listed.getD i false = false := by simp [hs, hin] at h1 ⊢; exact h1
   have hpre := hbefore listed hs hcl i hin hready
   have hs_i := hT.step i _ ho
   obtain ⟨e1, e2, _, e4, e5, e6, e7⟩ := step_eff hs_i
   have hout : ∀ j, j < ops.size → j ≠ i → (listed.getD j false ≠ decide (j < i)) → (Oper.apart ops (ops.getD i default) (ops.getD j default) = true ∨ Oper.apart ops (ops.getD j default) (ops.getD i default) = true) ∧
    (∀ q ∈ (efs P E ops nx S j).wr.map (·.1), q ∉ (L i).rd ∧ q ∉ (efs P E ops nx S i).wr.map (·.1)) := by
    intro j hj hji hne
    obtain ⟨_, _, _, f4, f5, _⟩ := step_eff (hT.step j _ (getD_of hj))
    have gi : ((List.range ops.size).map L)[i]? = some (L i) := by simp [hin]
    have gj : ((List.range ops.size).map L)[j]? = some (L j) := by simp [hj]
    rcases Nat.lt_or_ge j i with hlt | hge
    ·
     have hDj : listed.getD j false = false := by
      cases hd : listed.getD j false with
      | false => rfl
      | true => rw [hd] at hne; simp [hlt] at hne
     have hno : j ∉ before ops i := fun hm => by rw [hpre j hm] at hDj; cases hDj
     refine ⟨.inr ((apart_get hapart hlt hin).resolve_left hno), fun q hq => ?_⟩
     have := (logsR_get hlog j i _ _ hlt gj gi).resolve_left (by rw [f4, e4]; simpa using hno)
     rw [← f5] at hq
     exact ⟨meets_false this.1 hq, by rw [← e5]; exact meets_false this.2.1 hq⟩
    ·
     have hlt : i < j := by omega
     have hDj : listed.getD j false = true := by
      cases hd : listed.getD j false with
      | true => rfl
      | false => rw [hd] at hne; simp [show ¬ j < i by omega] at hne
     have hno : i ∉ before ops j := fun hm => by have := hcl j hj hDj i hm; rw [hDi] at this; cases this
     refine ⟨.inl ((apart_get hapart hlt hj).resolve_left hno), fun q hq => ?_⟩
     have := (logsR_get hlog i j _ _ hlt gi gj).resolve_left (by rw [f4, e4]; simpa using hno)
     rw [← f5] at hq
     refine ⟨meets_false this.2.2 hq, fun hc => ?_⟩
     rw [← e5] at hc
     exact meets_false this.2.1 hc hq
   have hapart2 : ∀ j, j < ops.size → j ≠ i → (listed.getD j false ≠ decide (j < i)) → ∀ d, dstOf ops j = some d → d ∉ Oper.looksAt ops (ops.getD i default) ∧ dstOf ops i ≠ some d := by
    intro j hj hji hne d hd
    rcases (hout j hj hji hne).1 with h | h
    ·
     obtain ⟨a1, a2, a3⟩ := Oper.apart_spec h
     exact ⟨a3 d hd, fun hh => a2 d hh hd⟩
    ·
     obtain ⟨a1, a2, a3⟩ := Oper.apart_spec h
     exact ⟨a1 d hd, fun hh => a2 d hd hh⟩
   have htmp : ∀ t, t ∈ Oper.looksAt ops (ops.getD i default) → (foldD P E ops nx S (fun j => listed.getD j false) ops.size).1[t]? = (S i).tmps[t]? := by
    intro t ht
    have := foldD_tmp (P := P) (E := E) (ops := ops) (nx := nx) (S := S) (D := fun j => listed.getD j false) (D' := fun j => decide (j < i)) (t := t) ops.size (fun j hj hd => by
     by_cases hji : j = i
     · subst hji; simp only [hDi]; simp
     ·
      refine Classical.byContradiction fun hne => ?_
      exact (hapart2 j hj hji hne t hd).1 ht)
    rw [this, foldD_lt hT (by omega)]
   have hroot : ∀ q, q ∈ (L i).rd → (foldD P E ops nx S (fun j => listed.getD j false) ops.size).2 q = lookIn (S i).store q := by
    intro q hq
    have := foldD_root (P := P) (E := E) (ops := ops) (nx := nx) (S := S) (D := fun j => listed.getD j false) (D' := fun j => decide (j < i)) (q := q) ops.size (fun j hj hd => by
     by_cases hji : j = i
     · subst hji; simp only [hDi]; simp
     ·
      refine Classical.byContradiction fun hne => ?_
      exact ((hout j hj hji hne).2 q hd).1 hq)
    rw [this, foldD_lt hT (by omega)]
   have hfresh : ∀ q, nx + room * i ≤ q → q < nx + room * i + room → ((foldD P E ops nx S (fun j => listed.getD j false) ops.size).2 q).born = false := by
    intro q hq1 hq2
    have := foldD_root (P := P) (E := E) (ops := ops) (nx := nx) (S := S) (D := fun j => listed.getD j false) (D' := fun j => decide (j < i)) (q := q) ops.size (fun j hj hd => by
     by_cases hji : j = i
     · subst hji; simp only [hDi]; simp
     ·
      refine Classical.byContradiction fun hne => ?_
      obtain ⟨_, _, _, _, _, f6, _⟩ := step_eff (hT.step j _ (getD_of hj))
      obtain ⟨p, hp, rfl⟩ := List.mem_map.1 hd
      have h3 := List.all_eq_true.1 f6 p hp
      simp only [Bool.or_eq_true, Bool.and_eq_true, decide_eq_true_eq] at h3
      rcases h3 with h3 | h3
      · exact ((hout j hj hji hne).2 p.1 hd).2 (wr_born hT h0 hin hq1 hq2 j (by omega) h3)
      ·
       rcases Nat.lt_or_ge i j with h7 | h7
       ·
        have : room * (i + 1) ≤ room * j := Nat.mul_le_mul_left _ h7
        rw [Nat.mul_succ] at this
        omega
       ·
        have : room * (j + 1) ≤ room * i := Nat.mul_le_mul_left _ (by omega)
        rw [Nat.mul_succ] at this
        omega)
    rw [this, foldD_lt hT (by omega)]
    exact fresh hT h0 i (by omega) q hq1
   have hevT : ∀ x, (∃ t, x = .tmp t ∧ t ∈ Oper.looksAt ops (ops.getD i default)) ∨ (∀ t, x ≠ .tmp t) → evalT (foldD P E ops nx S (fun j => listed.getD j false) ops.size).1 x = evalT (S i).tmps x := by
    intro x hx
    cases x with
    | tmp t =>
     rcases hx with ⟨t', he, hm⟩ | h
     ·
      obtain rfl := Operand.tmp.inj he
      simp only [evalT, htmp t hm]
     · exact absurd rfl (h t)
    | _ => rfl
   refine step_wp hE ho hs_i R ?_ ?_ hroot hfresh (fun g' a' w' R' => ?_)
   ·
    unfold wantR
    cases hg : (ops.getD i default).guard with
    | none => rfl
    | some p =>
     obtain ⟨j, want⟩ := p
     simp only
     cases hd : (ops[j]?).bind (·.dst) with
     | none => rfl
     | some d =>
      simp only [Option.bind_some]
      rw [htmp d (List.mem_append_right _ (by rw [hg]; simp [hd]))]
   ·
    rintro x rfl b
    refine opR_congr _ fun y hy => hevT y ?_
    cases y with
    | tmp t => exact .inl ⟨t, rfl, List.mem_append_left _ (List.mem_filterMap.2 ⟨.tmp t, by simpa using hy, rfl⟩)⟩
    | _ => exact .inr fun t h => by cases h
   ·
    -- what has run now
    have hD' : ∀ j, (listed.setIfInBounds i true).getD j false = (decide (j = i) || listed.getD j false) := by
     intro j
     by_cases hji : i = j
     · subst hji; simp [hs, hin]
     · rw [getD_set_ne false hji]; simp [Ne.symm hji]
    refine ih (listed.setIfInBounds i true) (by simp [hs]) ?_ ?_ g' a' w' ?_
    ·
     -- one less
     have hcc : ∀ (l : List Nat), l.Nodup → i ∈ l → l.countP (fun j => !listed.getD j false) = l.countP (fun j => !(listed.setIfInBounds i true).getD j false) + 1 := by
      intro l
      induction l with
      | nil => intro _ h; simp at h
      | cons x r ihl =>
       intro hn hm
       rw [List.nodup_cons] at hn
       rw [List.countP_cons, List.countP_cons, hD' x]
       by_cases hx : x = i
       ·
        subst hx
        have hno : r.countP (fun j => !listed.getD j false) = r.countP (fun j => !(listed.setIfInBounds x true).getD j false) := List.countP_congr fun y hy => by
         rw [hD' y]
         have : y ≠ x := fun e => hn.1 (e ▸ hy)
         simp [this]
        rw [hno]
        simp only [hDi]
        simp
       ·
        have hm' : i ∈ r := by
         rcases List.mem_cons.1 hm with h | h
         · exact absurd h.symm hx
         · exact h
        rw [ihl hn.2 hm']
        simp only [hx, decide_false, Bool.false_or]
        omega
     have := hcc (List.range ops.size) List.nodup_range (by simpa using hin)
     omega
    ·
     intro j hj hDj q hq
     rw [hD'] at hDj ⊢
     by_cases hji : j = i
     ·
      subst hji
      rw [hpre q hq]; simp
     ·
      have : listed.getD j false = true := by simpa [hji] using hDj
      rw [hcl j hj this q hq]; simp
    ·
     -- the state is the fold's
     have htl : putT (foldD P E ops nx S (fun j => listed.getD j false) ops.size).1 (ops.getD i default).dst (effOf P E ops nx i (ops.getD i default) (S i)).val = (foldD P E ops nx S (fun j => (listed.setIfInBounds i true).getD j false) ops.size).1 := by
      apply List.ext_getElem?
      intro t
      by_cases hd : dstOf ops i = some t
      ·
       have hc := foldD_tmp (P := P) (E := E) (ops := ops) (nx := nx) (S := S) (D := fun j => (listed.setIfInBounds i true).getD j false) (D' := fun j => decide (j < i + 1)) (t := t) ops.size (fun j hj hdj => by
        simp only [hD']
        by_cases hji : j = i
        · subst hji; simp
        ·
         refine Classical.byContradiction fun hne => ?_
         have hne' : listed.getD j false ≠ decide (j < i) := fun e => hne (by simp only [hji, decide_false, Bool.false_or, e]; congr 1; simp; omega)
         exact (hapart2 j hj hji hne' t hdj).2 hd)
       rw [hc, foldD_lt hT (by omega), e1]
       exact putT_get (by rw [foldD_length]; have := foldD_lt (P := P) (E := E) (nx := nx) hT (i := i) (by omega); rw [← show (foldD P E ops nx S (fun j => decide (j < i)) ops.size).1 = (S i).tmps from congrArg Prod.fst this, foldD_length]) (fun h => absurd hd h)
      ·
       rw [putT_ne hd]
       exact foldD_tmp ops.size (fun j hj hdj => by
        rw [hD']
        have : j ≠ i := fun e => hd (e ▸ hdj)
        simp [this])
     have hlk : updL (foldD P E ops nx S (fun j => listed.getD j false) ops.size).2 (effOf P E ops nx i (ops.getD i default) (S i)).wr = (foldD P E ops nx S (fun j => (listed.setIfInBounds i true).getD j false) ops.size).2 := by
      funext q
      by_cases hd : q ∈ (efs P E ops nx S i).wr.map (·.1)
      ·
       have hc := foldD_root (P := P) (E := E) (ops := ops) (nx := nx) (S := S) (D := fun j => (listed.setIfInBounds i true).getD j false) (D' := fun j => decide (j < i + 1)) (q := q) ops.size (fun j hj hdj => by
        simp only [hD']
        by_cases hji : j = i
        · subst hji; simp
        ·
         refine Classical.byContradiction fun hne => ?_
         have hne' : listed.getD j false ≠ decide (j < i) := fun e => hne (by simp only [hji, decide_false, Bool.false_or, e]; congr 1; simp; omega)
         exact ((hout j hj hji hne').2 q hdj).2 hd)
       rw [hc, foldD_lt hT (by omega), e2]
       exact updL_in _ _ _ hd
      ·
       rw [updL_out _ _ hd]
       exact foldD_root ops.size (fun j hj hdj => by
        rw [hD']
        have : j ≠ i := fun e => hd (e ▸ hdj)
        simp [this])
     rw [← htl, ← hlk]
     exact R'
end
end Go.Proofs.YtmjmoagmolgacaaGreatDoor.PM
namespace Go.Proofs.YtmjmoagmolgacaaGreatDoor.PM
open Go
def WS (s : St) : Prop := ∀ q, s.nx ≤ q → (lookIn s.store q).born = false
def RelS (cx : Cx) (g : Nat → Option Nat) (s : St) (a : Act) (w : World) : Prop := Rel cx g s.tmps (lookIn s.store) a w ∧ WS s ∧ cx.m = s.m
def Ex.to : Ex → Exit
 | .normal => .normal
 | .exit id => .exit id
 | .ret => .ret
theorem okPreds_get {ps qs : List (List Nat)} (h : okPreds ps qs = true) {j i : Nat} (hi : (ps.getD j []).contains i = true) : (qs.getD j []).contains i = true := by
 by_cases hj : j < ps.length
 ·
  have h1 := List.all_eq_true.1 (List.all_eq_true.1 h j (by simpa using hj)) i (by simpa using hi)
  exact h1
 ·
  rw [List.getD_eq_getElem?_getD, List.getElem?_eq_none (by omega)] at hi
  simp at hi
theorem logsR_mono {ps qs : List (List Nat)} (h : okPreds ps qs = true) : ∀ {l : List Log}, logsR ps l = true → logsR qs l = true
 | [], _ => rfl
 | x :: r, hl => by
  simp only [logsR, Bool.and_eq_true] at hl ⊢
  refine ⟨?_, logsR_mono h hl.2⟩
  rw [List.all_eq_true] at *
  intro m hm
  have := hl.1 m hm
  rw [Bool.or_eq_true] at this ⊢
  exact this.imp (okPreds_get h) id
section
variable {P : Program} {E : Env} {cx : Cx} {Q : Exit → Act → World → Prop}
theorem step_m {ops : Array Oper} {nx i : Nat} {o : Oper} {s s' : St} {l : Log} (h : stepR P E ops nx i o s = some (s', l)) : s'.m = s.m := by
 unfold stepR at h
 split at h
 · cases h
 ·
  simp only [Option.some.injEq, Prod.mk.injEq] at h
  obtain ⟨rfl, _⟩ := h
  rfl
 ·
  split at h
  · cases h
  ·
   split at h
   ·
    simp only [Option.some.injEq, Prod.mk.injEq] at h
    obtain ⟨rfl, _⟩ := h
    rfl
   · cases h
theorem region_wp (hE : EnvOk P E cx) (hm : P.follows .mixedOrders = true) {id : Nat} {ps : List (List Nat)} {ops : Array Oper} {draw : Bool} (hok : draw = true → okOps ops = true ∧ okPreds ps (predsR ops.toList []) = true) {s s' : St} {g : Nat → Option Nat} {a : Act} {w : World} (R : RelS cx g s a w) (h : regionR P E ps ops draw s = some s')
 (hQ : ∀ g a w, RelS cx g s' a w → Q .normal a w) : (Code.region id ops draw).wp P Q a w := by
 unfold regionR at h
 split at h
 · cases h
 ·
  rename_i s1 logs hrun
  split at h
  · cases h
  ·
   rename_i hdraw
   obtain rfl := Option.some.inj h
   obtain ⟨S, L, e1, e2, e3, e4⟩ := runOps_trace _ _ _ _ _ hrun
   have hT : Trace P E ops s.nx S L := ⟨fun i o ho => by
    have := e4 i o (by simpa using ho)
    simpa using this⟩
   simp only [Nat.zero_add, Array.length_toList] at e2
   have h0 : ∀ q, s.nx ≤ q → (lookIn (S 0).store q).born = false := fun q hq => by rw [e1]; exact R.2.1 q hq
   have hfr : ∀ i q, i ≤ ops.size → s.nx + room * i ≤ q → (lookIn (S i).store q).born = false := fun i q hi hq => fresh hT h0 i hi q hq
   have hend : ∀ g a w, Rel cx g (S ops.size).tmps (lookIn (S ops.size).store) a w → Q .normal a w := fun g a w hR => by
    refine hQ g a w ⟨by rw [e2] at hR; exact hR, fun q hq => ?_, ?_⟩
    have := hfr ops.size q (Nat.le_refl _) hq
    rw [e2] at this
    exact this
    have hm' : ∀ i, i ≤ ops.size → (S i).m = s.m := by
     intro i
     induction i with
     | zero => intro _; rw [e1]
     | succ i ih =>
      intro hi
      have := hT.step i _ (getD_of (by omega))
      rw [← ih (by omega)]
      exact step_m this
    have := hm' ops.size (Nat.le_refl _)
    rw [e2] at this
    exact R.2.2.trans this.symm
   have R0 : Rel cx g (S 0).tmps (lookIn (S 0).store) a w := by rw [e1]; exact R.1
   cases draw with
   | false =>
    refine wp_region ?_
    rw [List.range_eq_range']
    have := ops_wp' hE hT hfr hend ops.size 0 (by omega) g a w R0
    exact this
   | true =>
    obtain ⟨h1, hps⟩ := hok rfl
    simp only [Bool.true_and, Bool.not_eq_true', Bool.not_eq_false] at hdraw
    have h2 := hdraw
    have h2 := logsR_mono hps h2
    rw [e3] at h2
    simp only [Nat.zero_add, Array.length_toList] at h2
    refine wp_region_any hm ?_
    have hrep : ∀ j, (Array.replicate ops.size false).getD j false = false := fun j => by
     simp only [Array.getD_eq_getD_getElem?, Array.getElem?_replicate]
     split <;> rfl
    refine draw_wp hE hT h0 h1 h2 hend ops.size _ (by simp) ?_ (fun j _ hj => by rw [hrep] at hj; cases hj) g a _ ?_
    ·
     rw [List.countP_congr (q := fun _ => true) (fun j _ => by rw [hrep]; simp)]
     simp
    ·
     have : foldD P E ops s.nx S (fun j => (Array.replicate ops.size false).getD j false) ops.size = ((S 0).tmps, lookIn (S 0).store) := by
      rw [foldD_none (i := 0) ops.size (Nat.zero_le _) (fun j _ => hrep j)]
      rfl
     rw [this]
     exact R0.drew
end
end Go.Proofs.YtmjmoagmolgacaaGreatDoor.PM
namespace Go.Proofs.YtmjmoagmolgacaaGreatDoor.PM
open Go
theorem posIn_some : ∀ {l : List Nat} {o j : Nat}, posIn l o = some j → l[j]? = some o
 | [], o, j, h => by simp [posIn] at h
 | x :: r, o, j, h => by
  unfold posIn at h
  split at h
  ·
   rename_i hx
   obtain rfl := Option.some.inj h
   simp [hx]
  ·
   simp only [Option.map_eq_some_iff] at h
   obtain ⟨k, hk, rfl⟩ := h
   simpa using posIn_some hk
theorem posIn_none : ∀ {l : List Nat} {o : Nat}, posIn l o = none → o ∉ l
 | [], o, _ => by simp
 | x :: r, o, h => by
  unfold posIn at h
  split at h
  · cases h
  ·
   rename_i hx
   simp only [Option.map_eq_none_iff] at h
   simp only [List.mem_cons, not_or]
   exact ⟨fun e => hx e.symm, posIn_none h⟩
theorem nodup_at {l : List Nat} (h : l.Nodup) {i j o : Nat} (hi : l[i]? = some o) (hj : l[j]? = some o) : i = j := by
 obtain ⟨hi1, hi2⟩ := List.getElem?_eq_some_iff.1 hi
 obtain ⟨hj1, hj2⟩ := List.getElem?_eq_some_iff.1 hj
 rcases Nat.lt_trichotomy i j with hlt | rfl | hlt
 · exact absurd (hi2.trans hj2.symm) (List.pairwise_iff_getElem.1 h i j hi1 hj1 hlt)
 · rfl
 · exact absurd (hj2.trans hi2.symm) (List.pairwise_iff_getElem.1 h j i hj1 hi1 hlt)
theorem lookIn_zip {α : Type} (F : α → Ob) : ∀ (l : List α) (s j : Nat), lookIn ((l.zipIdx s).map fun p => (p.2, F p.1)) j = if s ≤ j then ((l[j - s]?).map F).getD .gone else .gone
 | [], s, j => by simp [lookIn]
 | x :: r, s, j => by
  rw [List.zipIdx_cons, List.map_cons]
  simp only [lookIn]
  by_cases h : s = j
  · subst h; simp
  ·
   rw [if_neg h, lookIn_zip F r (s + 1) j]
   by_cases h2 : s ≤ j
   ·
    rw [if_pos (by omega), if_pos h2]
    rw [show j - s = (j - (s + 1)) + 1 by omega, List.getElem?_cons_succ]
   · rw [if_neg (by omega), if_neg h2]
theorem lookIn_zip0 {α : Type} (F : α → Ob) (l : List α) (j : Nat) : lookIn (l.zipIdx.map fun p => (p.2, F p.1)) j = ((l[j]?).map F).getD .gone := by
 rw [lookIn_zip F l 0 j, if_pos (Nat.zero_le _), Nat.sub_zero]
structure Ren (w : World) (g : Nat → Option Nat) (look : Nat → Ob) (N : Nat → Prop) (w' : World) (g' : Nat → Option Nat) (look' : Nat → Ob) (N' : Nat → Prop) (f : Nat → Option Nat) (sg : List (Nat × Nat) → Option (List (Nat × Nat))) : Prop where
 o : ∀ o o', f o = some o' → (look o).born = true → (look' o').born = true ∧ ((look' o').alive = true → (look o).alive = true ∧ (look' o').k = (look o).k ∧ g' o' = g o ∧ ∀ b, g o = some b → csz w' b = csz w b)
 s : ∀ l l', sg l = some l' → okSrc look l → okSrc look' l' ∧ (valid look' l' → valid look l ∧ ∀ b, srcA g N l b → srcA g' N' l' b ∧ w'.heap[b]? = w.heap[b]?)
section
variable {w w' : World} {g g' : Nat → Option Nat} {look look' : Nat → Ob} {N N' : Nat → Prop} {f : Nat → Option Nat} {sg : List (Nat × Nat) → Option (List (Nat × Nat))}
theorem PtrV.ren (E : Ren w g look N w' g' look' N' f sg) {o o' i j : Nat} {v : Value} (ho : f o = some o') (h : PtrV g look o i j v) : PtrV g' look' o' i j v := by
 obtain ⟨hb, hv, ha⟩ := h
 obtain ⟨hb', hal⟩ := E.o o o' ho hb
 refine ⟨hb', hv, fun h' => ?_⟩
 obtain ⟨h0, hk, hg, _⟩ := hal h'
 obtain ⟨b, h1, h2⟩ := ha h0
 exact ⟨b, hg.trans h1, by rw [hk]; exact h2⟩
theorem FrC.ren (E : Ren w g look N w' g' look' N' f sg) {v : Value} {t : T} (h : FrC w g look N v t) : FrC w' g' look' N' v (mapC f sg t) := by
 cases t with
 | sc u => exact h
 | nil => exact h
 | sl xs src =>
  simp only [mapC]
  cases hs : sg src with
  | none => trivial
  | some l' =>
   obtain ⟨h1, h2⟩ := E.s _ _ hs h.2.1
   refine ⟨h.1, h1, fun hv => ?_⟩
   obtain ⟨h3, h4⟩ := h2 hv
   exact (h.2.2 h3).mono h4
 | win o off len =>
  simp only [mapC]
  cases ho : f o with
  | none => trivial
  | some o' =>
   obtain ⟨hb, hv, ha⟩ := h
   obtain ⟨hb', hal⟩ := E.o o o' ho hb
   refine ⟨hb', hv, fun h' => ?_⟩
   obtain ⟨h0, hk, hg, hr⟩ := hal h'
   obtain ⟨a, cap, h1, h2, h3⟩ := ha h0
   refine ⟨a, cap, h1, h2, h3.imp id fun ⟨b, h4, h5, h6⟩ => ⟨b, hg.trans h4, by rw [hk]; exact h5, by rw [hk, hr b h4]; exact h6⟩⟩
 | ptr o i j =>
  simp only [mapC]
  cases ho : f o with
  | none => trivial
  | some o' => exact PtrV.ren E ho h
 | rp x j src =>
  simp only [mapC]
  cases hs : sg src with
  | none => trivial
  | some l' =>
   obtain ⟨hv, hok, ha⟩ := h
   obtain ⟨h1, h2⟩ := E.s _ _ hs hok
   refine ⟨hv, h1, fun hvl => ?_⟩
   obtain ⟨h3, h4⟩ := h2 hvl
   obtain ⟨b, off, h5, h6, h7⟩ := ha h3
   refine ⟨b, off, (h4 b h5).1, h6, fun j' t ht => ?_⟩
   obtain ⟨c, h8, h9⟩ := h7 j' t ht
   exact ⟨c, (cell_of_heap (h4 b h5).2 _).trans h8, h9.mono h4⟩
 | fn hf caps =>
  simp only [mapC]
  obtain ⟨vs, h1, h2, h3⟩ := h
  cases hm : caps.mapM (fun c => match c with | .ptr o i j => (f o).map fun o' => T.ptr o' i j | _ => none) with
  | none => trivial
  | some cs =>
   have key : ∀ (caps cs : List T), caps.mapM (fun c => match c with | .ptr o i j => (f o).map fun o' => T.ptr o' i j | _ => none) = some cs → cs.length = caps.length ∧ ∀ (i : Nat) c, cs[i]? = some c → ∃ o o' i' j', caps[i]? = some (.ptr o i' j') ∧ f o = some o' ∧ c = .ptr o' i' j' := by
    intro caps
    induction caps with
    | nil => intro cs h; simp at h; subst h; exact ⟨rfl, fun i c hc => by simp at hc⟩
    | cons c r ih =>
     intro cs h
     rw [List.mapM_cons] at h
     simp only [Option.bind_eq_bind, Option.bind_eq_some_iff, Option.pure_def, Option.some.injEq] at h
     obtain ⟨x, hx, ys, hy, rfl⟩ := h
     obtain ⟨h4, h5⟩ := ih ys hy
     refine ⟨by simp [h4], fun i c' hc => ?_⟩
     cases i with
     | zero =>
      simp only [List.getElem?_cons_zero, Option.some.injEq] at hc
      subst hc
      cases c with
      | ptr o i' j' =>
       simp only [Option.map_eq_some_iff] at hx
       obtain ⟨o', ho', rfl⟩ := hx
       exact ⟨o, o', i', j', rfl, ho', rfl⟩
      | _ => cases hx
     | succ i => simpa using h5 i c' (by simpa using hc)
   obtain ⟨h4, h5⟩ := key caps cs hm
   refine ⟨vs, h1, by rw [h2, h4], fun i c hc => ?_⟩
   obtain ⟨o, o', i', j', h6, h7, rfl⟩ := h5 i c hc
   obtain ⟨u, o2, i2, j2, h8, h9, h10⟩ := h3 i _ h6
   obtain ⟨rfl, rfl, rfl⟩ := T.ptr.inj h9
   exact ⟨u, o', i', j', h8, rfl, h10.ren E h7⟩
 | ifc b => exact h
 | dead => trivial
 | agg cs => exact h.elim
 | tup ts => exact h.elim
theorem mapC_agg {t : T} : ∀ cs, mapC f sg t ≠ .agg cs := by
 intro cs
 cases t <;> simp only [mapC] <;> first | (intro h; cases h; done) | (split <;> (intro h; cases h))
theorem mapC_tup {t : T} : ∀ cs, mapC f sg t ≠ .tup cs := by
 intro cs
 cases t <;> simp only [mapC] <;> first | (intro h; cases h; done) | (split <;> (intro h; cases h))
theorem FrA.ren (E : Ren w g look N w' g' look' N' f sg) {v : Value} {t : T} (h : FrA w g look N v t) : FrA w' g' look' N' v (mapA f sg t) := by
 by_cases hc : ∃ cs, t = .agg cs
 ·
  obtain ⟨cs, rfl⟩ := hc
  obtain ⟨vs, h1, h2, h3⟩ := h
  refine ⟨vs, h1, by simp [h2], fun i c hc => ?_⟩
  simp only [List.getElem?_map, Option.map_eq_some_iff] at hc
  obtain ⟨c', hc', rfl⟩ := hc
  obtain ⟨u, h4, h5⟩ := h3 i c' hc'
  exact ⟨u, h4, h5.ren E⟩
 ·
  have hm : mapA f sg t = mapC f sg t := by cases t <;> first | rfl | exact absurd ⟨_, rfl⟩ hc
  rw [frA_eq (fun cs e => hc ⟨cs, e⟩)] at h
  rw [hm, frA_eq mapC_agg]
  exact h.ren E
theorem mapA_tup {t : T} : ∀ cs, mapA f sg t ≠ .tup cs := by
 intro cs
 by_cases hc : ∃ cs, t = .agg cs
 · obtain ⟨cs, rfl⟩ := hc; intro h; cases h
 ·
  have hm : mapA f sg t = mapC f sg t := by cases t <;> first | rfl | exact absurd ⟨_, rfl⟩ hc
  rw [hm]; exact mapC_tup cs
theorem FrV.ren (E : Ren w g look N w' g' look' N' f sg) {v : Value} {t : T} (h : FrV w g look N v t) : FrV w' g' look' N' v (mapV f sg t) := by
 by_cases hc : ∃ cs, t = .tup cs
 ·
  obtain ⟨cs, rfl⟩ := hc
  obtain ⟨vs, h1, h2, h3⟩ := h
  refine ⟨vs, h1, by simp [h2], fun i c hc => ?_⟩
  simp only [List.getElem?_map, Option.map_eq_some_iff] at hc
  obtain ⟨c', hc', rfl⟩ := hc
  obtain ⟨u, h4, h5⟩ := h3 i c' hc'
  exact ⟨u, h4, h5.ren E⟩
 ·
  have hm : mapV f sg t = mapA f sg t := by cases t <;> first | rfl | exact absurd ⟨_, rfl⟩ hc
  rw [frV_eq (fun cs e => hc ⟨cs, e⟩)] at h
  rw [hm, frV_eq mapA_tup]
  exact h.ren E
theorem mapA_cells {t : T} : (mapA f sg t).cells.length = t.cells.length ∧ ∀ (j : Nat) c', (mapA f sg t).cells[j]? = some c' → ∃ c, t.cells[j]? = some c ∧ c' = mapC f sg c := by
 by_cases hc : ∃ cs, t = .agg cs
 ·
  obtain ⟨cs, rfl⟩ := hc
  refine ⟨by simp [mapA, T.cells], fun j c' hj => ?_⟩
  simp only [mapA, T.cells, List.getElem?_map, Option.map_eq_some_iff] at hj
  obtain ⟨c, h1, rfl⟩ := hj
  exact ⟨c, h1, rfl⟩
 ·
  have hm : mapA f sg t = mapC f sg t := by cases t <;> first | rfl | exact absurd ⟨_, rfl⟩ hc
  have ht : t.cells = [t] := by cases t <;> first | rfl | exact absurd ⟨_, rfl⟩ hc
  have hmc : (mapC f sg t).cells = [mapC f sg t] := by
   cases h : mapC f sg t with
   | agg cs => exact absurd h (mapC_agg cs)
   | _ => rfl
  rw [hm, hmc, ht]
  refine ⟨rfl, fun j c' hj => ?_⟩
  cases j with
  | zero => simp at hj; subst hj; exact ⟨t, rfl, rfl⟩
  | succ j => simp at hj
theorem RootV.ren (E : Ren w g look N w' g' look' N' f sg) {o o' : Nat} (h : RootV w g look N o) (x : Ob) (hx : x = mapOb f sg { look o with ver := x.ver }) (hl : look' o' = x) (hg : g' o' = g o)
 (hb : ∀ b, g o = some b → w'.heap[b]? = w.heap[b]?) (hN : (look o).row = true → ∀ (i : Nat) y, (look o).xs[i]? = some y → ∀ (j : Nat) t, y.cells[j]? = some t → ∀ v, ShV w N v t → ShV w' N' v t) : RootV w' g' look' N' o' := by
 have h1 : x.alive = (look o).alive ∧ x.born = (look o).born ∧ x.row = (look o).row ∧ x.k = (look o).k ∧ x.xs = if (look o).row then (look o).xs else (look o).xs.map (mapA f sg) := by
  rw [hx]
  unfold mapOb
  cases hr : (look o).row <;> simp [hr]
 obtain ⟨e1, e2, e3, e4, e5⟩ := h1
 unfold RootV at *
 rw [hl, hg, e1, e2, e3, e4, e5]
 intro ha
 obtain ⟨hbn, h⟩ := h ha
 refine ⟨hbn, ?_⟩
 cases hgo : g o with
 | none =>
  rw [hgo] at h
  exact ⟨by rw [if_pos h.2]; exact h.1, h.2⟩
 | some b =>
  rw [hgo] at h
  obtain ⟨c, E', fr, h1, h2, h3⟩ := h
  refine ⟨c, E', fr, (hb b hgo).trans h1, fun i hi => (World.frozen?_of_block (a := ⟨b, i, none⟩) (hb b hgo)).trans (h2 i hi), fun i y hy => ?_⟩
  cases hr : (look o).row with
  | true =>
   rw [hr, if_pos rfl] at hy
   obtain ⟨h4, h5⟩ := h3 i y hy
   refine ⟨h4, fun j t ht => ?_⟩
   obtain ⟨v, h6, h7⟩ := h5 j t ht
   rw [hr] at h7
   exact ⟨v, h6, hN hr i y hy j t ht v h7⟩
  | false =>
   rw [hr, if_neg (by simp)] at hy
   simp only [List.getElem?_map, Option.map_eq_some_iff] at hy
   obtain ⟨y', hy', rfl⟩ := hy
   obtain ⟨h4, h5⟩ := h3 i y' hy'
   obtain ⟨h6, h7⟩ := mapA_cells (f := f) (sg := sg) (t := y')
   refine ⟨h6.trans h4, fun j t ht => ?_⟩
   obtain ⟨t', h8, rfl⟩ := h7 j t ht
   obtain ⟨v, h9, h10⟩ := h5 j t' h8
   rw [hr] at h10
   exact ⟨v, h9, FrC.ren E h10.1, h10.2⟩
end
theorem reachN_nodup (look : Nat → Ob) : ∀ (n : Nat) (l done : List Nat), done.Nodup → (reachN look n l done).Nodup
 | 0, _, done, h => by simpa [reachN] using h
 | n + 1, [], done, h => by simpa [reachN] using h
 | n + 1, o :: r, done, h => by
  simp only [reachN]
  split
  · exact reachN_nodup look n _ _ h
  ·
   rename_i hc
   refine reachN_nodup look n _ _ ?_
   simp only [Bool.or_eq_true, not_or, Bool.not_eq_true', Bool.not_eq_true] at hc
   rw [List.nodup_append]
   refine ⟨h, by simp, fun a ha b hb => ?_⟩
   simp only [List.mem_singleton] at hb
   subst hb
   intro e
   subst e
   have := hc.1
   simp [ha] at this
end Go.Proofs.YtmjmoagmolgacaaGreatDoor.PM
namespace Go.Proofs.YtmjmoagmolgacaaGreatDoor.PM
open Go
theorem Ext.trans {w w₁ w₂ : World} {g g₁ g₂ : Nat → Option Nat} {look look₁ look₂ : Nat → Ob} {N N₁ N₂ : Nat → Prop} (h : Ext w g look N w₁ g₁ look₁ N₁) (k : Ext w₁ g₁ look₁ N₁ w₂ g₂ look₂ N₂) : Ext w g look N w₂ g₂ look₂ N₂ := by
 refine ⟨fun b hb => ⟨(k.n b (h.n b hb).1).1, (k.n b (h.n b hb).1).2.trans (h.n b hb).2⟩, fun o ho => ?_⟩
 obtain ⟨a1, a2, a3⟩ := h.o o ho
 obtain ⟨b1, b2, b3⟩ := k.o o a1
 refine ⟨b1, Nat.le_trans a2 b2, fun ha => ?_⟩
 obtain ⟨c1, c2, c3, c4⟩ := b3 ha
 obtain ⟨d1, d2, d3, d4⟩ := a3 c1
 refine ⟨d1, c2.trans d2, c3.trans d3, fun b hb => ?_⟩
 obtain ⟨e1, e2⟩ := d4 b hb
 obtain ⟨f1, f2⟩ := c4 b (d3.trans hb)
 exact ⟨f1.trans e1, fun hv => (f2 (by omega)).trans (e2 (by omega))⟩
theorem Ext.refl (w : World) (g : Nat → Option Nat) (look : Nat → Ob) (N : Nat → Prop) : Ext w g look N w g look N :=
 ⟨fun _ h => ⟨h, rfl⟩, fun _ hb => ⟨hb, Nat.le_refl _, fun ha => ⟨ha, rfl, rfl, fun _ _ => ⟨rfl, fun _ => rfl⟩⟩⟩⟩
section
variable {P : Program} {cx : Cx} {w w' : World} {g g' : Nat → Option Nat} {look : Nat → Ob} {tmps : List T} {a : Act}
theorem phantom_ext {n : Nat} (hb : (look n).born = false) (k : Nat) : Ext w g look (NN cx w g look) w (up g n none) (up look n (Ob.mkRow k [])) (NN cx w (up g n none) (up look n (Ob.mkRow k []))) := by
 refine ⟨fun b ⟨h1, h2, h3⟩ => ⟨⟨h1, h2, fun q hq hgq => ?_⟩, rfl⟩, fun q hq => ?_⟩
 ·
  by_cases h : q = n
  · subst h; rw [up_same] at hgq; cases hgq
  · unfold Own at hq; rw [up_ne _ _ h] at hq hgq; exact h3 q hq hgq
 ·
  have h : q ≠ n := fun e => by rw [e, hb] at hq; cases hq
  rw [up_ne _ _ h, up_ne _ _ h]
  exact ⟨hq, Nat.le_refl _, fun ha => ⟨ha, rfl, rfl, fun _ _ => ⟨rfl, fun _ => rfl⟩⟩⟩
end
end Go.Proofs.YtmjmoagmolgacaaGreatDoor.PM
namespace Go.Proofs.YtmjmoagmolgacaaGreatDoor.PM
open Go
section
variable {cx : Cx} {w : World} {g : Nat → Option Nat} {look : Nat → Ob} {tmps : List T} {a : Act}
theorem pick_length (keep : List (Nat × Bool)) (look : Nat → Ob) : ∀ (l : List T) (i : Nat), (pickTmps keep look i l).length = l.length
 | [], _ => rfl
 | t :: r, i => by simp only [pickTmps, List.length_cons, pick_length keep look r]
theorem pick_ok (R : Rel cx g tmps look a w) (keep : List (Nat × Bool)) : ∀ (l : List T) (i : Nat) (vs : Nat → Value), (∀ (q : Nat) t, l[q]? = some t → FrV w g look (NN cx w g look) (vs q) t) →
 ∀ (q : Nat) t, (pickTmps keep look i l)[q]? = some t → FrV w g look (NN cx w g look) (vs q) t
 | [], _, _, _, q, t, h => by simp [pickTmps] at h
 | x :: r, i, vs, hv, 0, t, h => by
  simp only [pickTmps, List.getElem?_cons_zero, Option.some.injEq] at h
  have hx := hv 0 x rfl
  subst h
  split
  · exact trivial
  · exact hx
  ·
   split
   ·
    obtain ⟨ad, hh⟩ := hx
    rw [hh]
    exact ⟨⟨_, _, rfl, Nat.zero_le _, .inl rfl⟩, okSrc_nil, fun _ => .empty⟩
   ·
    rename_i o off len
    split
    ·
     rename_i hc
     have hrun : (view1 (.win o off len)).run look = some (.sl (((look o).xs.drop off).take len) (if (look o).may then [(o, (look o).ver)] else []), [o]) := by
      simp only [view1, obj, Rd.run_bind, Rd.run, guardR, hc, if_true]
      rfl
     exact (view1_ok R (v := vs 0) (t := .win o off len) hx hrun).1
    · exact trivial
   · exact hx
 | x :: r, i, vs, hv, q + 1, t, h => by
  simp only [pickTmps, List.getElem?_cons_succ] at h
  exact pick_ok R keep r (i + 1) (fun q => vs (q + 1)) (fun q t ht => hv (q + 1) t ht) q t h
theorem normB_ok {s : St} (R : RelS cx g s a w) (keep : List (Nat × Bool)) : ∃ g', RelS cx g' (normB keep s) a w := by
 obtain ⟨R, hws, hcm⟩ := R
 generalize hlook : lookIn s.store = look at R hws
 generalize hts : pickTmps keep look 0 s.tmps = ts
 generalize hK : List.range s.m ++ (reachN look 64 (List.range s.m ++ ts.flatMap refs) []).filter (fun o => !decide (o < s.m)) = K
 have hnd : K.Nodup := by
  rw [← hK, List.nodup_append]
  refine ⟨List.nodup_range, (reachN_nodup _ _ _ _ (by simp)).filter _, fun a ha b hb => ?_⟩
  have h1 : a < s.m := by simpa using ha
  have h2 := (List.mem_filter.1 hb).2
  intro e
  subst e
  simp [h1] at h2
 have hKm : ∀ j, j < s.m → K[j]? = some j := fun j hj => by
  rw [← hK, List.getElem?_append_left (by simpa using hj)]
  simp [hj]
 generalize hsg : srcN K look (fun _ => 0) = sg
 have hnorm : normB keep s = ⟨ts.map (mapV (posIn K) sg), K.zipIdx.map fun p => (p.2, { mapOb (posIn K) sg (look p.1) with ver := 0 }), K.length, s.m⟩ := by
  unfold normB
  simp only [hlook, hts, hK, hsg]
 rw [hnorm]
 have hlk : ∀ j, lookIn (K.zipIdx.map fun p => (p.2, { mapOb (posIn K) sg (look p.1) with ver := 0 })) j = ((K[j]?).map fun o => { mapOb (posIn K) sg (look o) with ver := 0 }).getD .gone := fun j => lookIn_zip0 (fun o => { mapOb (posIn K) sg (look o) with ver := 0 }) K j
 generalize hl' : lookIn (K.zipIdx.map fun p => (p.2, { mapOb (posIn K) sg (look p.1) with ver := 0 })) = look' at hlk
 let g' : Nat → Option Nat := fun j => (K[j]?).bind g
 have hmo : ∀ o, (mapOb (posIn K) sg (look o)).alive = (look o).alive ∧ (mapOb (posIn K) sg (look o)).born = (look o).born ∧ (mapOb (posIn K) sg (look o)).may = (look o).may ∧ (mapOb (posIn K) sg (look o)).k = (look o).k := fun o => by
  unfold mapOb; cases (look o).row <;> exact ⟨rfl, rfl, rfl, rfl⟩
 have hat : ∀ j o, K[j]? = some o → look' j = { mapOb (posIn K) sg (look o) with ver := 0 } ∧ g' j = g o := fun j o hj => by
  rw [hlk j, hj]
  exact ⟨rfl, by simp [g', hj]⟩
 have hout : ∀ j, K[j]? = none → look' j = .gone := fun j hj => by rw [hlk j, hj]; rfl
 have halive : ∀ j, (look' j).alive = true → ∃ o, K[j]? = some o ∧ (look o).alive = true := fun j hj => by
  cases hk : K[j]? with
  | none => rw [hout j hk] at hj; cases hj
  | some o => rw [(hat j o hk).1] at hj; exact ⟨o, rfl, (hmo o).1.symm.trans hj⟩
 have hown : ∀ j, Own look' j → ∃ o, K[j]? = some o ∧ Own look o ∧ g' j = g o := fun j hj => by
  obtain ⟨o, h1, h2⟩ := halive j hj.1
  refine ⟨o, h1, ⟨h2, ?_⟩, (hat j o h1).2⟩
  have := hj.2
  rw [(hat j o h1).1] at this
  exact (hmo o).2.2.1.symm.trans this
 have hNN : ∀ b, NN cx w g look b → NN cx w g' look' b := fun b ⟨h1, h2, h3⟩ => ⟨h1, h2, fun j hj hg => by
  obtain ⟨o, _, h5, h6⟩ := hown j hj
  exact h3 o h5 (h6.symm.trans hg)⟩
 have E : Ren w g look (NN cx w g look) w g' look' (NN cx w g' look') (posIn K) sg := by
  refine ⟨fun o j hj hb => ?_, fun l l' hl hok => ?_⟩
  ·
   obtain ⟨h1, h2⟩ := hat j o (posIn_some hj)
   rw [h1, h2]
   refine ⟨(hmo o).2.1.trans hb, fun ha => ⟨(hmo o).1.symm.trans ha, (hmo o).2.2.2, rfl, fun _ _ => rfl⟩⟩
  ·
   rw [← hsg] at hl
   unfold srcN at hl
   split at hl
   ·
    rename_i hvb
    obtain rfl := Option.some.inj hl
    have hval : valid look l := fun p hp => by
     have := List.all_eq_true.1 hvb p hp
     simpa using this
    refine ⟨fun p hp => ?_, fun _ => ⟨hval, fun b hb => ⟨?_, rfl⟩⟩⟩
    ·
     obtain ⟨q, hq, hqp⟩ := List.mem_filterMap.1 hp
     simp only [Option.map_eq_some_iff] at hqp
     obtain ⟨j, hj, rfl⟩ := hqp
     rw [(hat j q.1 (posIn_some hj)).1]
     exact ⟨(hmo q.1).2.1.trans (hok q hq).1, Nat.zero_le _⟩
    ·
     rcases hb with hb | ⟨p, hp, hgb⟩
     · exact .inl (hNN b hb)
     ·
      cases hpos : posIn K p.1 with
      | some j => exact .inr ⟨(j, 0), List.mem_filterMap.2 ⟨p, hp, by simp [hpos]⟩, (hat j p.1 (posIn_some hpos)).2.trans hgb⟩
      | none =>
       left
       obtain ⟨h1, h2⟩ := R.blk p.1 b (hval p hp).1 hgb
       by_cases hm : (look p.1).may = true
       ·
        rw [if_pos hm] at h2
        refine ⟨h1, .inr h2, fun j hj hgj => ?_⟩
        obtain ⟨o, h5, h6, h7⟩ := hown j hj
        have := R.inj o p.1 b h6 ⟨(hval p hp).1, hm⟩ (h7.symm.trans hgj) hgb
        subst this
        exact posIn_none hpos (List.mem_of_getElem? h5)
       ·
        rw [if_neg hm] at h2
        exact hNN b h2
   · cases hl
 refine ⟨g', ?_, fun q hq => ?_, hcm⟩
 ·
  show Rel cx g' (ts.map (mapV (posIn K) sg)) (lookIn (K.zipIdx.map fun p => (p.2, { mapOb (posIn K) sg (look p.1) with ver := 0 }))) a w
  rw [hl']
  refine ⟨by rw [R.size, List.length_map, ← hts, pick_length], R.dfr, fun t x hx => ?_, fun j => ?_, fun j j' b h1 h2 h3 h4 => ?_, fun j b ha hgb => ?_, R.keep, R.hsz, R.os, R.tape, R.output, R.n0, R.lb, fun j hj => ?_⟩
  ·
   simp only [List.getElem?_map, Option.map_eq_some_iff] at hx
   obtain ⟨y, hy, rfl⟩ := hx
   rw [← hts] at hy
   exact (pick_ok R keep s.tmps 0 (fun q => a.tmps.getD q undef) R.tm t y hy).ren E
  ·
   cases hk : K[j]? with
   | none => intro ha; rw [hout j hk] at ha; cases ha
   | some o =>
    obtain ⟨h1, h2⟩ := hat j o hk
    refine RootV.ren E (R.rt o) { mapOb (posIn K) sg (look o) with ver := 0 } ?_ h1 h2 (fun _ _ => rfl) (fun _ _ _ _ _ _ _ v h => h.mono fun b hb => ⟨hNN b hb, rfl⟩)
    unfold mapOb
    cases (look o).row <;> rfl
  ·
   obtain ⟨o, a1, a2, a3⟩ := hown j h1
   obtain ⟨o', b1, b2, b3⟩ := hown j' h2
   have := R.inj o o' b a2 b2 (a3.symm.trans h3) (b3.symm.trans h4)
   subst this
   exact nodup_at hnd a1 b1
  ·
   obtain ⟨o, h1, h2⟩ := halive j ha
   obtain ⟨h3, h4⟩ := hat j o h1
   obtain ⟨h5, h6⟩ := R.blk o b h2 (h4.symm.trans hgb)
   refine ⟨h5, ?_⟩
   have hmay : (look' j).may = (look o).may := by rw [h3]; exact (hmo o).2.2.1
   rw [hmay]
   split
   · rename_i hm; rw [if_pos hm] at h6; exact h6
   · rename_i hm; rw [if_neg hm] at h6; exact hNN b h6
  ·
   obtain ⟨h1, h2⟩ := R.lent j hj
   obtain ⟨h3, h4⟩ := hat j j (hKm j (by rw [← hcm]; exact hj))
   rw [h3, h4]
   exact ⟨(hmo j).2.1.trans h1, fun ha => by
    obtain ⟨a1, a2, a3, a4⟩ := h2 ((hmo j).1.symm.trans ha)
    exact ⟨a1, (hmo j).2.2.2.trans a2, a3, a4⟩⟩
 ·
  show (lookIn (K.zipIdx.map fun p => (p.2, { mapOb (posIn K) sg (look p.1) with ver := 0 })) q).born = false
  rw [hl', hout q (List.getElem?_eq_none hq)]
  rfl
theorem fresh1_ok {s : St} (R : RelS cx g s a w) (q k : Nat) : ∃ g', RelS cx g' (fresh1 q k s) a w := by
 unfold fresh1
 split
 ·
  rename_i hq
  obtain ⟨R, hws, hm⟩ := R
  have hb := hws s.nx (Nat.le_refl _)
  have R1 := phantom_new R hb k none none
  have E := phantom_ext (w := w) (cx := cx) (g := g) hb k
  have hlk : lookIn (putAll s.store [(s.nx, Ob.mkRow k [])]) = up (lookIn s.store) s.nx (Ob.mkRow k []) := lookIn_putAll _ _
  have hv := R.tm q _ hq
  refine ⟨up g s.nx none, ?_, fun j hj => ?_, hm⟩
  ·
   show Rel cx _ (s.tmps.set q (.win s.nx 0 0)) (lookIn (putAll s.store [(s.nx, Ob.mkRow k [])])) a w
   rw [hlk]
   refine ⟨by rw [List.length_set]; exact R.size, R.dfr, fun t x hx => ?_, R1.rt, R1.inj, R1.blk, R1.keep, R1.hsz, R1.os, R1.tape, R1.output, R1.n0, R1.lb, R1.lent⟩
   by_cases ht : t = q
   ·
    subst ht
    have hlt : t < s.tmps.length := (List.getElem?_eq_some_iff.1 hq).1
    rw [List.getElem?_set_self hlt] at hx
    obtain rfl := Option.some.inj hx
    obtain ⟨ad, hh⟩ := hv
    rw [hh]
    refine ⟨by rw [up_same], ⟨_, _, rfl, Nat.le_refl _, .inl rfl⟩, fun _ => ⟨_, _, rfl, Nat.le_refl _, .inl rfl⟩⟩
   ·
    rw [List.getElem?_set_ne (Ne.symm ht)] at hx
    exact FrV.mono E (R.tm t x hx)
  ·
   show (lookIn (putAll s.store [(s.nx, Ob.mkRow k [])]) j).born = false
   rw [hlk, up_ne _ _ (by simp only at hj; omega)]
   exact hws j (by simp only at hj; omega)
 · exact ⟨g, R⟩
theorem freshR_ok : ∀ (l : List (Nat × Nat)) {s : St} {g : Nat → Option Nat}, RelS cx g s a w → ∃ g', RelS cx g' (freshR l s) a w
 | [], s, g, R => ⟨g, R⟩
 | (q, k) :: r, s, g, R => by
  simp only [freshR]
  split
  · exact freshR_ok r R
  ·
   obtain ⟨g1, R1⟩ := fresh1_ok R q (k - 2)
   exact freshR_ok r R1
theorem norm_ok {s : St} (R : RelS cx g s a w) (keep : List (Nat × Nat)) : ∃ g', RelS cx g' (normR keep s) a w := by
 obtain ⟨g1, R1⟩ := freshR_ok keep R
 exact normB_ok R1 _
end
end Go.Proofs.YtmjmoagmolgacaaGreatDoor.PM
