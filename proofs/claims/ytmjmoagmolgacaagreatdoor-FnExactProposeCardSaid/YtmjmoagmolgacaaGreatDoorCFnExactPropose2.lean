/- Part of the proof of FnExactPropose: no statement of its own. -/
import Derived.LaidLaws
import Derived.LaidMore
import Derived.Test.YtmjmoagmolgacaaGreatDoorCFnExactPropose1
set_option linter.unusedVariables false
set_option linter.unusedSimpArgs false
namespace Go.Proofs.YtmjmoagmolgacaaGreatDoor.PM
open Go
theorem laid_mem {P : Program} {W : World} {n : String} {d : DataW Unit} : ∀ {l : List (String × DataW Unit)} {ps : List MemPlace}, DataW.LaidVars P W l ps → (n, d) ∈ l →
 ∃ g t cs fuel p, P.globalNamed n = some g ∧ (P.globals[g]?).map (·.type) = some t ∧ W.var? P n = some cs ∧ DataW.trod (fun _ => ()) P W 0 (fun _ => true) false fuel t cs.toList = some (d, p)
 | (m, c) :: r, _, ⟨g, t, cs, fuel, p, q, h1, h2, h3, h4, h5, _⟩, hx => by
  rcases List.mem_cons.1 hx with e | hx
  · cases e; exact ⟨g, t, cs, fuel, p, h1, h2, h3, h4⟩
  · exact laid_mem h5 hx
def laidGlob (P : Program) (l : List (String × DataW Unit)) (b : Nat) : Bool := l.any fun x => (match x.2 with | .iface _ _ => true | _ => false) && (decide (P.globalNamed x.1 = some b) &&
 (match (P.globals[b]?).map (·.type) with | some t => (match P.underlying t with | some (.interface _) => true | _ => false) | none => false))
theorem glob_laid {P : Program} {W : World} {l : List (String × DataW Unit)} (h : laidMetH P l W) (hp : (l.all fun x => x.2.handleName?.isNone) = true)
 (hb : (List.range P.globals.size).all (fun b => !isGlob P b || laidGlob P l b) = true) : GlobOk P W (lowA W) := fun b hg => by
 have h0 : laidMet P l W := by
  unfold laidMetH at h
  rw [List.filter_eq_nil_iff.2 fun x hx => by
   have := List.all_eq_true.1 hp x hx
   simpa using this] at h
  exact h
 obtain ⟨ps, hv, _, _⟩ := h0
 obtain ⟨x, hx, _⟩ := isGlob_mem hg
 have hlt : b < P.globals.size := (Array.getElem?_eq_some_iff.1 hx).1
 have h1 := List.all_eq_true.1 hb b (List.mem_range.2 hlt)
 rw [hg, Bool.not_true, Bool.false_or] at h1
 unfold laidGlob at h1
 obtain ⟨⟨n, d⟩, hm, h2⟩ := List.any_eq_true.1 h1
 simp only [Bool.and_eq_true, decide_eq_true_eq] at h2
 obtain ⟨h3, h4, h5⟩ := h2
 cases d <;> simp at h3
 rename_i nm d
 obtain ⟨g, t, cs, fuel, p, e1, e2, e3, e4⟩ := laid_mem hv hm
 obtain rfl : b = g := Option.some.inj (h4.symm.trans e1)
 rw [e2] at h5
 simp only at h5
 split at h5
 ·
  rename_i ms hms
  obtain ⟨_, u, v, hcs, _, _⟩ := iface_of_trod hms e4
  have hc : W.cell? ⟨b, 0, none⟩ = some (.iface u v) := by
   rw [World.var?_cell e1 e3 0, ← Array.getElem?_toList, hcs]
   rfl
  refine ⟨?_, u, v, hc⟩
  rcases Nat.lt_or_ge b W.heap.size with h' | h'
  · exact h'
  · simp [World.cell?, Array.getElem?_eq_none h'] at hc
 · cases h5
end Go.Proofs.YtmjmoagmolgacaaGreatDoor.PM
namespace Go.Proofs.YtmjmoagmolgacaaGreatDoor.PN
open Go Go.Proofs.YtmjmoagmolgacaaGreatDoor.PM
inductive N where
  | l (n : Nat)
  | d (nm n : Nat)
def N.v : N → Nat
  | .l n => n
  | .d _ n => n
def N.add : N → N → N
  | .l x, .l y => .l (x + y)
  | .l x, .d m y => if x = 0 then .d m y else .d 0 (x + y)
  | .d m x, .l y => if y = 0 then .d m x else .d 0 (x + y)
  | .d _ x, .d _ y => .d 0 (x + y)
def N.sub : N → N → N
  | .l x, .l y => .l (x - y)
  | .l x, .d _ y => .d 0 (x - y)
  | .d m x, .l y => if y = 0 then .d m x else .d 0 (x - y)
  | .d _ x, .d _ y => .d 0 (x - y)
def N.same : N → N → Bool
  | .l x, .l y => x == y
  | .d m _, .d m' _ => m != 0 && m == m'
  | _, _ => false
def N.is0 : N → Bool
  | .l n => n == 0
  | .d _ _ => false
abbrev Src := List (Nat × Nat)
inductive V (El : Nat → Type) where
  | bl (b : Bool)
  | bp (neg : Bool) (c : Prop) (d : Decidable c)
  | bb (neg : Bool) (x : Bool)
  | il (k : IntKind) (n : Int)
  | id (k : IntKind) (nm : Nat) (x : Int)
  | s (x : ByteArray)
  | nil
  | s0 (src : Src)
  | sl (t : Nat) (xs : List (El t)) (src : Src)
  | agg (cs : List (V El))
  | win (o : Nat) (full : Bool) (off len : N)
  | ptr (o : Nat) (i : N) (j : Nat)
  | rp (t : Nat) (x : El t) (j : Nat) (src : Src)
  | fn (f : FuncId) (caps : List (V El))
  | tup (ts : List (V El))
  | ifl (b : Bool)
  | ifd (x : Bool)
  | dead
inductive O (El : Nat → Type) where
  | row (alive may keep : Bool) (ver t : Nat) (xs : List (El t)) (last : Option (N × El t))
  | box (alive may : Bool) (ver k : Nat) (agg : Bool) (cs : List (V El))
  | gone
inductive Kd where
  | slice (e c : Nat)
  | array (n e : Nat)
  | struct (fs : List (Nat × Nat))
  | string
  | bool
  | int (k : IntKind)
  | iface
  | other
structure TI (El : Nat → Type) where
  k : Nat
  agg : Bool
  bytes : Nat
  kd : Kd
  zero : Option (V El)
  cs : Option (List (Option Nat))
  eq : Option (List (Nat × Nat))
structure Sg where
  El : Nat → Type
  w : Nat → Nat
  aggE : Nat → Bool
  flat : Nat → Bool
  inh : (t : Nat) → El t
  cells : (t : Nat) → El t → List (V El)
  mkE : (t : Nat) → List (V El) → Option (El t)
  ofStr : (t : Nat) → ByteArray → Option (List (El t))
  toStr : (t : Nat) → List (El t) → Option ByteArray
  ti : Nat → Option (TI El)
  enc : (t : Nat) → El t → T
variable {G : Sg} {El : Nat → Type}
inductive Q (El : Nat → Type) (α : Type) : Type 1 where
  | ret (a : α)
  | fail
  | get (o : Nat) (k : O El → Q El α)
  | need (c : Prop) (d : Decidable c) (k : Q El α)
  | call (ρ : Type) (x : Option ρ) (k : ρ → Q El α)
  | either (β γ : Type) (x : β ⊕ γ) (l : β → Q El α) (r : γ → Q El α)
namespace Q
def bind {α β : Type} : Q El α → (α → Q El β) → Q El β
  | .ret a, f => f a
  | .fail, _ => .fail
  | .get o k, f => .get o fun x => (k x).bind f
  | .need c d k, f => .need c d (k.bind f)
  | .call ρ x k, f => .call ρ x fun r => (k r).bind f
  | .either β γ x l r, f => .either β γ x (fun a => (l a).bind f) (fun b => (r b).bind f)
instance : Monad (Q El) where
  pure := Q.ret
  bind := Q.bind
end Q
def getQ (o : Nat) : Q El (O El) := .get o .ret
def grd (b : Bool) : Q El Unit := match b with
  | true => .ret ()
  | false => .fail
def nd (c : Prop) [d : Decidable c] : Q El Unit := .need c d (.ret ())
def opt {α : Type} : Option α → Q El α
  | some a => .ret a
  | none => .fail
def ndLe : N → N → Q El Unit
  | .l x, .l y => grd (decide (x ≤ y))
  | a, b => nd (a.v ≤ b.v)
def ndEq : N → Nat → Q El Unit
  | a, n => nd (a.v = n)
def isCell : V El → Bool
  | .bl _ | .bp .. | .bb .. | .il .. | .id .. | .s _ | .nil | .s0 _ | .sl .. | .win .. | .ptr .. | .fn .. => true
  | _ => false
def isAgg : V El → Bool
  | .agg _ => true
  | _ => false
def cell1 : V El → V El
  | .agg _ | .tup _ | .rp .. => .dead
  | v => v
def cellsV : V El → List (V El)
  | .agg cs => cs
  | v => [v]
def okA : V El → Bool
  | .tup _ | .rp .. => false
  | _ => true
def boolOf : V El → Option Bool
  | .bl b => some b
  | .bp neg c d => some (match neg with | true => !(@decide c d) | false => @decide c d)
  | .bb neg x => some (match neg with | true => !x | false => x)
  | _ => none
def notV : V El → Option (V El)
  | .bl b => some (.bl !b)
  | .bp neg c d => some (.bp (!neg) c d)
  | .bb neg x => some (.bb (!neg) x)
  | _ => none
def rowsOf {t : Nat} (xs : List (El t)) : Option (N × El t) → List (El t)
  | none => xs
  | some (i, y) => xs.set i.v y
def O.alive : O El → Bool
  | .row a .. => a
  | .box a .. => a
  | .gone => false
def O.ver : O El → Nat
  | .row _ _ _ v .. => v
  | .box _ _ v .. => v
  | .gone => 0
def O.may : O El → Bool
  | .row _ m .. => m
  | .box _ m .. => m
  | .gone => false
def O.born : O El → Bool
  | .gone => false
  | _ => true
def O.isRow : O El → Bool
  | .row .. => true
  | _ => false
def O.setVer (n : Nat) : O El → O El
  | .row a m k _ t xs l => .row a m k n t xs l
  | .box a m _ k g cs => .box a m n k g cs
  | .gone => .gone
def O.kill : O El → O El
  | .row _ m k v t xs l => .row false m k (v + 1) t xs l
  | .box _ m v k g cs => .box false m (v + 1) k g cs
  | .gone => .gone
def mapQ {α β : Type} (f : α → Q El β) : List α → Q El (List β)
  | [] => .ret []
  | a :: r => do
    let b ← f a
    let s ← mapQ f r
    pure (b :: s)
def chkQ : Src → Q El Unit
  | [] => .ret ()
  | (o, v) :: r => do
    let x ← getQ o
    grd (x.alive && x.ver == v)
    chkQ r
def winQ {t : Nat} (full : Bool) (off len : N) (xs : List (El t)) (last : Option (N × El t)) : Q El (List (El t)) :=
  match full && off.is0 with
  | true => do ndEq len xs.length; pure (rowsOf xs last)
  | false => match off.is0 with
    | true => do nd (len.v ≤ xs.length); pure ((rowsOf xs last).take len.v)
    | false => do nd (off.v + len.v ≤ xs.length); pure (((rowsOf xs last).drop off.v).take len.v)
def viewQ : V El → Q El (V El)
  | .bl b => .ret (.bl b)
  | .bp a b c => .ret (.bp a b c)
  | .bb a b => .ret (.bb a b)
  | .il a b => .ret (.il a b)
  | .id a b c => .ret (.id a b c)
  | .s x => .ret (.s x)
  | .nil => .ret (.s0 [])
  | .s0 src => do chkQ src; pure (.s0 src)
  | .sl t xs src => do chkQ src; pure (.sl t xs src)
  | .win o full off len => do
    match ← getQ o with
    | .row al mw kp ver t xs last => do
      grd al
      let ys ← winQ (full && kp) off len xs last
      pure (.sl t ys (match mw with | true => [(o, ver)] | false => []))
    | _ => .fail
  | _ => .fail
def closeQ1 (v : V El) : Q El (V El) := do
  match ← viewQ v with
  | .s0 [] => pure (.s0 [])
  | .s0 _ => .fail
  | .sl t xs [] => pure (.sl t xs [])
  | .sl _ _ _ => .fail
  | v => pure v
def closeQ : V El → Q El (V El)
  | .agg cs => do pure (.agg (← mapQ closeQ1 cs))
  | v => closeQ1 v
def takeQ (inf : TI El) (cs : List (V El)) (j : Nat) : Q El (V El) := do
  grd (decide (j + inf.k ≤ cs.length))
  match inf.agg with
  | true => pure (.agg ((cs.drop j).take inf.k))
  | false => opt (cs[j]?.map cell1)
def spliceV (cs : List (V El)) (j : Nat) (vs : List (V El)) : List (V El) := cs.take j ++ vs ++ cs.drop (j + vs.length)
def oneOr (agg : Bool) (cs : List (V El)) : Bool := agg || cs.length == 1
def lookV (l : List (Nat × V El)) (d : V El) (t : Nat) : V El := match findK l t with
  | some v => v
  | none => d
def lift1V : Value → V El
  | .slice none 0 0 => .nil
  | .nilIface => .ifl false
  | .bool b => .bl b
  | .int k n => .il k n
  | .string s => .s s
  | _ => .dead
def liftV : Value → V El
  | .agg cs => .agg (cs.toList.map lift1V)
  | v => lift1V v
structure S (El : Nat → Type) where
  n : Nat
  df : V El
  tm : List (Nat × V El)
  st : List (Nat × O El)
  nx : Nat
  m : Nat
def S.get (s : S El) (t : Nat) : V El := match decide (t < s.n) with
  | true => lookV s.tm s.df t
  | false => .dead
def evalV (s : S El) : Operand → V El
  | .tmp t => s.get t
  | .const v => liftV v
  | .func f => .fn f []
  | .global _ => .dead
def lookO : List (Nat × O El) → Nat → O El
  | [], _ => .gone
  | (k, x) :: r, o => if k = o then x else lookO r o
def putO : List (Nat × O El) → Nat → O El → List (Nat × O El)
  | [], o, x => [(o, x)]
  | (k, y) :: r, o, x => if k = o then (k, x) :: r else (k, y) :: putO r o x
def putOs : List (Nat × O El) → List (Nat × O El) → List (Nat × O El)
  | s, [] => s
  | s, (o, x) :: r => putOs (putO s o x) r
structure Ef (El : Nat → Type) where
  val : V El
  wr : List (Nat × O El)
def refs1V : V El → List Nat
  | .win o _ _ _ => [o]
  | .ptr o _ _ => [o]
  | .fn _ caps => caps.flatMap fun c => match c with | .ptr o _ _ => [o] | _ => []
  | _ => []
def refsV : V El → List Nat
  | .agg cs => cs.flatMap refs1V
  | .tup ts => ts.flatMap fun t => match t with | .agg cs => cs.flatMap refs1V | t => refs1V t
  | t => refs1V t
def isPtr : V El → Bool
  | .ptr .. => true
  | _ => false
def passR : V El → V El × Src
  | .sl t xs src => (.sl t xs [], src)
  | .s0 src => (.s0 [], src)
  | v => (v, [])
def passQ1 (lent : Bool) (v : V El) : Q El (V El × Src) :=
  match v with
  | .ptr o i j => .ret (.ptr o i j, [])
  | .fn f caps => do grd (caps.all isPtr); pure (.fn f caps, [])
  | v => match lent, v with
    | true, .win o f off len => .ret (.win o f off len, [])
    | true, .nil => .ret (.nil, [])
    | true, .dead => .ret (.dead, [])
    | _, v => do
      let u ← viewQ v
      pure (passR u)
def passQ (lent : Bool) : V El → Q El (V El × Src)
  | .agg cs => do
    let l ← mapQ (passQ1 lent) cs
    pure (.agg (l.map (·.1)), l.flatMap (·.2))
  | v => passQ1 lent v
def passAllQ : List Bool → List (V El) → Q El (List (V El × Src))
  | _, [] => .ret []
  | ls, t :: r => do
    let a ← passQ (ls.headD false) t
    let s ← passAllQ ls.tail r
    pure (a :: s)
def passOQ : O El → Q El (O El × Src)
  | .row a m k v t xs l => .ret (.row a m k v t xs l, [])
  | .box a m v k g cs => do
    grd (oneOr g cs)
    let l ← mapQ (passQ1 true) cs
    pure (.box a m v k g (l.map (·.1)), l.flatMap (·.2))
  | .gone => .fail
def cellsO : O El → List (V El)
  | .box _ _ _ _ g cs => match oneOr g cs with
    | true => cs
    | false => []
  | _ => []
def reachQ : Nat → List Nat → List (Nat × O El) → Src → Q El (List (Nat × O El) × Src)
  | _, [], done, vs => .ret (done, vs)
  | 0, _ :: _, _, _ => .fail
  | n + 1, o :: r, done, vs =>
    match done.any (·.1 == o) with
    | true => reachQ n r done vs
    | false => do
      let x ← getQ o
      grd x.alive
      let y ← passOQ x
      reachQ n (r ++ (cellsO y.1).flatMap refs1V) (done ++ [(o, y.1)]) (vs ++ y.2)
def capV (f : Nat → Option Nat) : V El → Option (V El)
  | .ptr o i j => (f o).map fun o' => V.ptr o' i j
  | _ => none
def mapVC (f : Nat → Option Nat) (sg : Src → Option Src) : V El → V El
  | .bl b => .bl b
  | .bp a b c => .bp a b c
  | .bb a b => .bb a b
  | .il a b => .il a b
  | .id a b c => .id a b c
  | .s x => .s x
  | .nil => .nil
  | .ifl b => .ifl b
  | .ifd b => .ifd b
  | .s0 src => match sg src with | some s => .s0 s | none => .dead
  | .sl t xs src => match sg src with | some s => .sl t xs s | none => .dead
  | .win o full off len => match f o with | some o' => .win o' full off len | none => .dead
  | .ptr o i j => match f o with | some o' => .ptr o' i j | none => .dead
  | .rp t x j src => match sg src with | some s => .rp t x j s | none => .dead
  | .fn h caps => match caps.mapM (capV f) with | some cs => .fn h cs | none => .dead
  | _ => .dead
def mapVA (f : Nat → Option Nat) (sg : Src → Option Src) : V El → V El
  | .agg cs => .agg (cs.map fun c => mapVC f sg (cell1 c))
  | v => mapVC f sg v
def mapVV (f : Nat → Option Nat) (sg : Src → Option Src) : V El → V El
  | .tup ts => .tup (ts.map (mapVA f sg))
  | v => mapVA f sg v
def mapVO (f : Nat → Option Nat) (sg : Src → Option Src) : O El → O El
  | .box a m v k g cs => .box a m v k g (cs.map fun c => mapVC f sg (cell1 c))
  | x => x
structure Ev (El : Nat → Type) where
  call : FuncId → List (V El) → List (O El) → Q El (V El × List (O El))
  lent : FuncId → List Bool
def verOfO (xs : List (O El)) (j : Nat) : Nat := ((xs[j]?).map (·.ver)).getD 0
def backSO (L : List Nat) (base : Nat) (lv objs : List (O El)) (S : Src) (src : Src) : Option Src :=
  (src.mapM fun p => if verOfO objs p.1 = p.2 then (backN L base objs.length p.1).map fun o => (o, if p.1 < L.length then verOfO lv p.1 + 1 else p.2) else none).map (· ++ S)
def flatO (G : Sg) : O G.El → Bool
  | .row _ _ _ _ t _ _ => G.flat t
  | _ => true
def keepAs : O El → O El → O El
  | .row _ _ k _ _ _ _, .row a m k' v t xs l => .row a m (k && k') v t xs l
  | _, x => x
def callQ (G : Sg) (E : Ev G.El) (f : FuncId) (args : List (V G.El)) (base : Nat) : Q G.El (Ef G.El) := do
  let aas ← passAllQ (E.lent f) args
  let lv ← reachQ 64 ((aas.map (·.1)).flatMap refsV) [] []
  let L := lv.1.map (·.1)
  let S := aas.flatMap (·.2) ++ lv.2
  grd (S.all fun p => !L.contains p.1)
  let ro ← E.call f (aas.map fun a => mapVV (posIn L) noSrc a.1) (lv.1.map fun p => mapVO (posIn L) noSrc (p.2.setVer 0))
  let m := L.length
  grd (decide (m ≤ ro.2.length ∧ ro.2.length < m + room) && (S.isEmpty || ro.2.all (flatO G)) && ro.2.all (fun x => x.may || !x.alive) && ro.2.all (·.born))
  let sg := backSO L base (lv.1.map (·.2)) ro.2 S
  pure ⟨mapVV (backN L base ro.2.length) sg ro.1, ro.2.zipIdx.map fun p => ((backN L base ro.2.length p.2).getD 0,
    keepAs (((lv.1.map (·.2))[p.2]?).getD .gone) ((mapVO (backN L base ro.2.length) sg p.1).setVer (if p.2 < m then verOfO (lv.1.map (·.2)) p.2 + 1 else p.1.ver)))⟩
def getRow {t : Nat} (d : El t) (xs : List (El t)) (last : Option (N × El t)) (i : N) : Q El (El t) := do
  nd (i.v < xs.length)
  match last with
  | none => pure (xs.getD i.v d)
  | some (i', y) => match i.same i' with
    | true => do nd (i.v = i'.v); pure y
    | false => pure ((xs.set i'.v y).getD i.v d)
def setRow {t : Nat} (xs : List (El t)) (last : Option (N × El t)) (i : N) : List (El t) := match last with
  | none => xs
  | some (i', y) => match i.same i' with
    | true => xs
    | false => xs.set i'.v y
def putSrc (src : Src) : V El → V El
  | .sl t xs _ => .sl t xs src
  | .s0 _ => .s0 src
  | v => v
def loadQ (G : Sg) (t : TypeId) (a : V G.El) : Q G.El (V G.El) := do
  let inf ← opt (G.ti t)
  match a with
  | .ptr o i j => do
    match ← getQ o with
    | .row al _ _ _ t' xs last => do
      grd al
      let x ← getRow (G.inh t') xs last i
      takeQ inf (G.cells t' x) j
    | .box al _ _ _ g cs => do
      grd (al && oneOr g cs && i.is0)
      takeQ inf cs j
    | .gone => .fail
  | .rp t' x j src => do
    chkQ src
    match ← takeQ inf (G.cells t' x) j with
    | .agg cs => pure (.agg (cs.map fun c => putSrc src (cell1 c)))
    | v => pure (putSrc src v)
  | _ => .fail
def storeQ (G : Sg) (t : TypeId) (a v : V G.El) : Q G.El (List (Nat × O G.El)) := do
  let inf ← opt (G.ti t)
  match a with
  | .ptr o i j => do
    match ← getQ o with
    | .row al mw kp ver t' xs last => do
      grd (al && mw)
      let x ← getRow (G.inh t') xs last i
      let w ← closeQ v
      grd ((cellsV w).length == inf.k && (cellsV w).all isCell && decide (j + inf.k ≤ (G.cells t' x).length))
      let y ← opt (G.mkE t' (spliceV (G.cells t' x) j (cellsV w)))
      pure [(o, .row al mw kp (ver + 1) t' (setRow xs last i) (some (i, y)))]
    | .box al mw ver k g cs => do
      grd (al && mw && oneOr g cs && i.is0)
      grd ((cellsV v).length == inf.k && (cellsV v).all isCell && decide (j + inf.k ≤ cs.length))
      pure [(o, .box al mw (ver + 1) k g (spliceV cs j (cellsV v)))]
    | .gone => .fail
  | _ => .fail
def boundQ (v : V El) (n : N) : Q El N := do
  match v, n with
  | .il _ x, n => do
    grd (decide (0 ≤ x))
    ndLe (.l x.toNat) n
    pure (.l x.toNat)
  | .id _ nm x, n => do
    nd (0 ≤ x)
    nd (x ≤ ((n.v : Nat) : Int))
    pure (.d nm x.toNat)
  | _, _ => .fail
def hiQ (hi : Option (V El)) (n : N) : Q El N := match hi with
  | some v => boundQ v n
  | none => .ret n
def loQ (lo : Option (V El)) (n : N) : Q El N := match lo with
  | some v => boundQ v n
  | none => .ret (.l 0)
def sliceE (G : Sg) (t : TypeId) : Q G.El Nat := do
  let inf ← opt (G.ti t)
  match inf.kd with
  | .slice e _ => do
    let ie ← opt (G.ti e)
    pure ie.k
  | _ => .fail
def elemQ (G : Sg) (t : TypeId) : Q G.El (Nat × Nat) := do
  let inf ← opt (G.ti t)
  match inf.kd with
  | .slice e c => do
    let ie ← opt (G.ti e)
    grd (G.w c == ie.k)
    pure (e, c)
  | _ => .fail
def widthQ (G : Sg) (t' k : Nat) : Q G.El Unit := grd (G.w t' == k)
def sliceQ (G : Sg) (t : TypeId) (x : V G.El) (lo hi mx : Option (V G.El)) : Q G.El (V G.El) := do
  grd mx.isNone
  match x with
  | .s s => do
    let inf ← opt (G.ti t)
    grd (match inf.kd with | .string => true | _ => false)
    let h ← hiQ hi (.d 0 s.size)
    let l ← loQ lo h
    pure (.s (s.extract l.v h.v))
  | .nil => do
    let _ ← sliceE G t
    let h ← hiQ hi (.l 0)
    let _ ← loQ lo h
    pure .nil
  | .s0 src => do
    let _ ← sliceE G t
    let h ← hiQ hi (.l 0)
    let _ ← loQ lo h
    pure (.s0 src)
  | .sl t' xs src => do
    let k ← sliceE G t
    widthQ G t' k
    let h ← hiQ hi (.d 0 xs.length)
    let l ← loQ lo h
    pure (.sl t' ((xs.take h.v).drop l.v) src)
  | .win o full off len => do
    let k ← sliceE G t
    match ← getQ o with
    | .row _ _ _ _ t' _ _ => do
      widthQ G t' k
      let h ← hiQ hi len
      let l ← loQ lo h
      pure (.win o (full && hi.isNone && l.is0) (off.add l) (h.sub l))
    | _ => .fail
  | _ => .fail
def idxQ (ix : V El) (len : N) : Q El N := match ix, len with
  | .il _ x, .l n => do
    grd (decide (0 ≤ x) && decide (x.toNat < n))
    pure (.l x.toNat)
  | .il _ x, .d _ n => do
    grd (decide (0 ≤ x))
    nd (x.toNat < n)
    pure (.l x.toNat)
  | .id _ nm x, len => do
    nd (0 ≤ x)
    nd (x < ((len.v : Nat) : Int))
    pure (.d nm x.toNat)
  | _, _ => .fail
def indexAddrQ (G : Sg) (t : TypeId) (x ix : V G.El) : Q G.El (V G.El) := do
  let k ← sliceE G t
  match x with
  | .sl t' xs src => do
    widthQ G t' k
    let i ← idxQ ix (.d 0 xs.length)
    pure (.rp t' (xs.getD i.v (G.inh t')) 0 src)
  | .win o _ off len => do
    match ← getQ o with
    | .row _ _ _ _ t' _ _ => do
      widthQ G t' k
      let i ← idxQ ix len
      pure (.ptr o (off.add i) 0)
    | _ => .fail
  | _ => .fail
def castL {t e : Nat} (xs : List (El t)) : Option (List (El e)) := if h : t = e then some (h ▸ xs) else none
def elemsQ (G : Sg) (e : Nat) : V G.El → Q G.El (List (G.El e) × N)
  | .nil => .ret ([], .l 0)
  | .s0 [] => .ret ([], .l 0)
  | .win o full off len => do
    match ← getQ o with
    | .row al _ kp _ t xs last => do
      grd al
      let ys ← winQ (full && kp) off len xs last
      let zs ← opt (castL (e := e) ys)
      pure (zs, len)
    | _ => .fail
  | .sl t xs src => do
    let zs ← opt (castL (e := e) xs)
    match src with
    | [] => pure (zs, .d 0 zs.length)
    | src => do
      chkQ src
      grd (G.flat t)
      pure (zs, .d 0 zs.length)
  | _ => .fail
def strQ (G : Sg) (e : Nat) (k : Nat) (tx : TypeId) : Q G.El Bool := do
  let inf ← opt (G.ti tx)
  match inf.kd with
  | .slice e' _ => do grd (e' == e); pure false
  | .string => do grd (k == 1); pure true
  | _ => .fail
def newsQ (G : Sg) (e : Nat) (x : V G.El) (str : Bool) : Q G.El (List (G.El e) × N) := match str with
  | true => match x with
    | .s s => do
      let zs ← opt (G.ofStr e s)
      pure (zs, .d 0 s.size)
    | _ => .fail
  | false => elemsQ G e x
def ndMost (n : N) (by_ : Nat) : Q El Unit := match n with
  | .l n => grd (decide (n * by_ ≤ most ∧ n ≤ most))
  | .d _ n => do nd (n * by_ ≤ most); nd (n ≤ most)
def zeroQ (inf : TI El) : Q El (V El) := do
  let z ← opt inf.zero
  grd (okA z && (cellsV z).length == inf.k)
  pure z
def appendQ (G : Sg) (ts : Array TypeId) (a x : V G.El) (base : Nat) : Q G.El (Ef G.El) := do
  let t0 ← opt ts[0]?
  let ec ← elemQ G t0
  let e := ec.2
  let ie ← opt (G.ti ec.1)
  let _ ← zeroQ ie
  let tx ← opt ts[1]?
  let str ← strQ G ec.1 ie.k tx
  let ns ← newsQ G e x str
  match a with
  | .nil => do
    ndMost ns.2 ie.bytes
    pure ⟨.win base true (.l 0) ns.2, [(base, .row true true true 0 e ns.1 none)]⟩
  | .win o full off len => do
    grd off.is0
    match ← getQ o with
    | .row al mw kp ver t xs last => do
      grd (al && mw)
      let ys ← winQ (full && kp) (.l 0) len xs last
      let zs ← opt (castL (e := e) ys)
      ndMost (len.add ns.2) ie.bytes
      pure ⟨.win base true (.l 0) (len.add ns.2), [(o, O.kill (.row al mw kp ver t xs last)), (base, .row true true true 0 e (zs ++ ns.1) none)]⟩
    | _ => .fail
  | _ => .fail
def intN (k : IntKind) (nm : Nat) : N → V El
  | .l n => .il k n
  | .d _ n => .id k (nm + 100000) (n : Nat)
def lenQ (G : Sg) (ts : Array TypeId) (x : V G.El) (base : Nat) : Q G.El (V G.El) := do
  let t ← opt ts[0]?
  let inf ← opt (G.ti t)
  match inf.kd, x with
  | .string, .s s => pure (intN .i64 base (.d 0 s.size))
  | .slice _ _, .nil => pure (.il .i64 0)
  | .slice _ _, .s0 src => do chkQ src; pure (.il .i64 0)
  | .slice _ _, .sl _ xs src => do chkQ src; pure (intN .i64 base (.d 0 xs.length))
  | .slice _ _, .win _ _ _ len => pure (intN .i64 base len)
  | .array n _, _ => pure (.il .i64 (n : Nat))
  | _, _ => .fail
def fieldsK (G : Sg) : List (Nat × Nat) → Option (List (Nat × Nat))
  | [] => some []
  | (o, t) :: r => match G.ti t, fieldsK G r with
    | some i, some l => some ((o, i.k) :: l)
    | _, _ => none
def fillV (fs : List (Nat × Nat)) (cells : List (V El)) : List (Nat × V El) → Option (List (V El))
  | [] => some cells
  | (i, v) :: r => match fs[i]? with
    | some (off, n) => if (cellsV v).length = n ∧ off + n ≤ cells.length then fillV fs (spliceV cells off (cellsV v)) r else none
    | none => none
def buildQ (G : Sg) (t : TypeId) (parts : List (Nat × V G.El)) : Q G.El (V G.El) := do
  let inf ← opt (G.ti t)
  let z ← opt inf.zero
  let fs ← (match inf.kd with
    | .struct fs => opt (fieldsK G fs)
    | .array n e => do
      let ie ← opt (G.ti e)
      pure ((List.range n).map fun i => (i * ie.k, ie.k))
    | _ => .fail)
  grd (okA z && (cellsV z).all isCell && parts.all fun p => okA p.2 && (cellsV p.2).all isCell)
  let cs ← opt (fillV fs (cellsV z) parts)
  pure (.agg cs)
def setAllV {t : Nat} (xs : List (El t)) : List (Nat × El t) → List (El t)
  | [] => xs
  | (i, v) :: r => setAllV (xs.set i v) r
def elQ (G : Sg) (e k : Nat) (v : V G.El) : Q G.El (G.El e) := do
  let w ← closeQ v
  grd ((cellsV w).length == k && (isAgg w == G.aggE e) && okA v)
  opt (G.mkE e (cellsV w))
def buildSliceQ (G : Sg) (t : TypeId) (n : Nat) (parts : List (Nat × V G.El)) (base : Nat) : Q G.El (Ef G.El) := do
  let ec ← elemQ G t
  let e := ec.2
  let ie ← opt (G.ti ec.1)
  let z ← zeroQ ie
  grd (decide (n * ie.k ≤ 4096) && decide (0 < ie.k))
  let ps ← mapQ (fun p => do let v ← elQ G e ie.k p.2; pure (p.1, v)) parts
  let zc ← elQ G e ie.k z
  grd (ps.all (fun p => decide (p.1 < n)))
  pure ⟨.win base true (.l 0) (.l n), [(base, .row true true true 0 e (setAllV (List.replicate n zc) ps) none)]⟩
def makeSliceQ (G : Sg) (t : TypeId) (l c : V G.El) (base : Nat) : Q G.El (Ef G.El) := do
  let ec ← elemQ G t
  let e := ec.2
  let ie ← opt (G.ti ec.1)
  let z ← zeroQ ie
  grd (decide (0 < ie.k))
  match l, c with
  | .il _ n, .il _ m => do
    grd (decide (0 ≤ n ∧ n ≤ m ∧ m * ie.bytes ≤ most ∧ m ≤ most))
    let zc ← elQ G e ie.k z
    pure ⟨.win base true (.l 0) (.l n.toNat), [(base, .row true true true 0 e (List.replicate n.toNat zc) none)]⟩
  | .il _ n, .id _ _ m => do
    grd (decide (0 ≤ n))
    nd (n ≤ m)
    nd (m * ie.bytes ≤ most)
    nd (m ≤ most)
    let zc ← elQ G e ie.k z
    pure ⟨.win base true (.l 0) (.l n.toNat), [(base, .row true true true 0 e (List.replicate n.toNat zc) none)]⟩
  | .id _ nm n, .il _ m => do
    nd (0 ≤ n)
    nd (n ≤ m)
    grd (decide (m * ie.bytes ≤ most ∧ m ≤ most))
    let zc ← elQ G e ie.k z
    pure ⟨.win base true (.l 0) (.d nm n.toNat), [(base, .row true true true 0 e (List.replicate n.toNat zc) none)]⟩
  | .id _ nm n, .id _ _ m => do
    nd (0 ≤ n)
    nd (n ≤ m)
    nd (m * ie.bytes ≤ most)
    nd (m ≤ most)
    let zc ← elQ G e ie.k z
    pure ⟨.win base true (.l 0) (.d nm n.toNat), [(base, .row true true true 0 e (List.replicate n.toNat zc) none)]⟩
  | _, _ => .fail
def copyQ (G : Sg) (ts : Array TypeId) (d x : V G.El) (base : Nat) : Q G.El (Ef G.El) := do
  let t0 ← opt ts[0]?
  let ec ← elemQ G t0
  let e := ec.2
  let ie ← opt (G.ti ec.1)
  let tx ← opt ts[1]?
  let _ ← elemQ G tx
  let ns ← elemsQ G e x
  match d with
  | .win o _ off len => do
    match ← getQ o with
    | .row al mw kp ver t xs last => do
      grd (al && mw)
      widthQ G t ie.k
      nd (off.v + len.v ≤ xs.length)
      let zs ← opt (castL (e := t) ns.1)
      pure ⟨intN .i64 base (.d 0 (min ns.1.length len.v)), [(o, .row al mw kp (ver + 1) t ((rowsOf xs last).take off.v ++ zs.take (min ns.1.length len.v) ++ (rowsOf xs last).drop (off.v + min ns.1.length len.v)) none)]⟩
    | _ => .fail
  | .nil => pure ⟨.il .i64 0, []⟩
  | _ => .fail
def kdOf (G : Sg) (t : TypeId) : Kd := match G.ti t with
  | some i => i.kd
  | none => .other
def eqScV (G : Sg) (t : TypeId) (x y : V G.El) : Option Bool := match kdOf G t, x, y with
  | .int _, .il k a, .il k' b => if k = k' then some (decide (a = b)) else none
  | .int _, .il k a, .id k' _ b => if k = k' then some (decide (a = b)) else none
  | .int _, .id k _ a, .il k' b => if k = k' then some (decide (a = b)) else none
  | .int _, .id k _ a, .id k' _ b => if k = k' then some (decide (a = b)) else none
  | .bool, x, y => match boolOf x, boolOf y with
    | some a, some b => some (a == b)
    | _, _ => none
  | .string, .s a, .s b => some (strEq a b)
  | _, _, _ => none
def eqFsV (G : Sg) (xs ys : List (V G.El)) : List (Nat × TypeId) → Option Bool
  | [] => some true
  | (o, t) :: r => match xs[o]?, ys[o]? with
    | some x, some y => match eqScV G t x y, eqFsV G xs ys r with
      | some a, some b => some (match r with | [] => a | _ => a && b)
      | _, _ => none
    | _, _ => none
def cmpI (op : BinOp) (a b : Int) : Option (V El) := match op with
  | .eql => some (.bp false (a = b) inferInstance)
  | .neq => some (.bp true (a = b) inferInstance)
  | .lss => some (.bp false (a < b) inferInstance)
  | .leq => some (.bp false (a ≤ b) inferInstance)
  | .gtr => some (.bp false (b < a) inferInstance)
  | .geq => some (.bp false (b ≤ a) inferInstance)
  | _ => none
def foldB : V El → V El
  | .bp false _ d => .bl (@decide _ d)
  | .bp true _ d => .bl (!(@decide _ d))
  | v => v
def ariI (op : BinOp) (k : IntKind) (a b : Int) : Option Int := match op with
  | .add => some (k.wrap (a + b))
  | .sub => some (k.wrap (a - b))
  | .mul => some (k.wrap (a * b))
  | .and => some (andI k a b)
  | .or => some (orI k a b)
  | .xor => some (xorI k a b)
  | .andNot => some (andNotI k a b)
  | _ => none
def divI (op : BinOp) (k : IntKind) (a b : Int) : Option Int := match op with
  | .quo => some (k.wrap (a.tdiv b))
  | .rem => some (a.tmod b)
  | _ => none
def shI (op : BinOp) (k : IntKind) (a b : Int) : Option Int := match op with
  | .shl => some (shlI k a b)
  | .shr => some (shrI k a b)
  | _ => none
def intV (v : V El) : Option (IntKind × Int × Bool) := match v with
  | .il k n => some (k, n, true)
  | .id k _ x => some (k, x, false)
  | _ => none
def mkI (lit : Bool) (k : IntKind) (nm : Nat) (x : Int) : V El := match lit with
  | true => .il k x
  | false => .id k (nm + 100000) x
def binI (op : BinOp) (base : Nat) (k : IntKind) (a : Int) (la : Bool) (k' : IntKind) (b : Int) (lb : Bool) : Q El (V El) :=
  match shI op k a b with
  | some r => do
    (match lb with | true => grd (decide (0 ≤ b)) | false => nd (0 ≤ b))
    pure (mkI (la && lb) k base r)
  | none => do
    grd (decide (k = k'))
    match cmpI op a b with
    | some v => pure (match la && lb with | true => foldB v | false => v)
    | none => match ariI op k a b with
      | some r => pure (mkI (la && lb) k base r)
      | none => match divI op k a b with
        | some r => do
          (match lb with | true => grd (!decide (b = 0)) | false => nd (b ≠ 0))
          pure (mkI (la && lb) k base r)
        | none => .fail
def binS (op : BinOp) (a b : ByteArray) : Q El (V El) := match op with
  | .eql => .ret (.bb false (strEq a b))
  | .neq => .ret (.bb true (strEq a b))
  | .lss => .ret (.bb false (strLt a b))
  | .geq => .ret (.bb true (strLt a b))
  | .leq => .ret (.bb false (strLt a b || strEq a b))
  | .gtr => .ret (.bb true (strLt a b || strEq a b))
  | .add => do nd (a.size + b.size ≤ 9223372036854775807); pure (.s (a ++ b))
  | _ => .fail
def eqOp (op : BinOp) (b : Bool) : Q El (V El) := match op with
  | .eql => .ret (.bb false b)
  | .neq => .ret (.bb true b)
  | _ => .fail
def isU8 : Kd → Bool
  | .int .u8 => true
  | _ => false
def isStrK : Kd → Bool
  | .string => true
  | _ => false
def isIface : Kd → Bool
  | .iface => true
  | _ => false
def isNilIface : Operand → Bool
  | .const .nilIface => true
  | _ => false
def binQ (G : Sg) (base : Nat) (op : BinOp) (t : TypeId) (x y : V G.El) (yo : Operand) : Q G.El (V G.El) :=
  match intV x, intV y with
  | some (k, a, la), some (k', b, lb) => binI op base k a la k' b lb
  | _, _ => match boolOf x, boolOf y with
    | some a, some b => do
      let inf ← opt (G.ti t)
      grd (match inf.kd with | .bool => true | _ => false)
      eqOp op (a == b)
    | _, _ => match x, y with
      | .s a, .s b => binS op a b
      | .agg xs, .agg ys => do
        let inf ← opt (G.ti t)
        let fs ← opt inf.eq
        let b ← opt (eqFsV G xs ys fs)
        eqOp op b
      | .ifl a, .ifl _ => do
        let inf ← opt (G.ti t)
        grd (isNilIface yo && isIface inf.kd)
        eqOp op (!a)
      | .ifd a, .ifl _ => do
        let inf ← opt (G.ti t)
        grd (isNilIface yo && isIface inf.kd)
        match op with
        | .eql => pure (.bb true a)
        | .neq => pure (.bb false a)
        | _ => .fail
      | _, _ => .fail
def unQ (base : Nat) (op : UnOp) (x : V El) : Q El (V El) := match op with
  | .not => opt (notV x)
  | .neg => match intV x with
    | some (k, a, la) => .ret (mkI la k base (k.wrap (0 - a)))
    | none => .fail
  | .xor => match intV x with
    | some (k, a, la) => .ret (mkI la k base (xorI k (notI k) a))
    | none => .fail
  | _ => .fail
def convQ (G : Sg) (base : Nat) (src dst : TypeId) (x : V G.El) : Q G.El (Ef G.El) := do
  let a ← opt (G.ti src)
  let b ← opt (G.ti dst)
  match a.kd, b.kd with
  | .int _, .int k => match intV x with
    | some (_, n, la) => pure ⟨mkI la k base (k.wrap n), []⟩
    | none => .fail
  | .string, .string => match x with
    | .s s => pure ⟨.s s, []⟩
    | _ => .fail
  | .string, .slice e' e => match x with
    | .s s => do
      let ie ← opt (G.ti e')
      grd (softOk && (G.w e == 1 && isU8 ie.kd && ie.k == 1 && ie.bytes == 1))
      nd (s.size ≤ most)
      let xs ← opt (G.ofStr e s)
      pure ⟨.win base true (.l 0) (.d 0 s.size), [(base, .row true true true 0 e xs none)]⟩
    | _ => .fail
  | .slice e' e, .string => do
    let ie ← opt (G.ti e')
    grd (G.w e == 1 && isU8 ie.kd && ie.k == 1)
    let ns ← elemsQ G e x
    let s ← opt (G.toStr e ns.1)
    pure ⟨.s s, []⟩
  | _, _ => .fail
def minQ (base : Nat) (x y : V El) (mx : Bool) : Q El (V El) := match intV x, intV y with
  | some (k, a, la), some (k', b, lb) => do
    grd (decide (k = k'))
    pure (mkI (la && lb) k base (match mx with | true => maxI a b | false => minI a b))
  | _, _ => .fail
def undV : V El := .tup []
def fieldAt (fs : List (Nat × Nat)) (f : Nat) : Q El (Nat × Nat) := opt fs[f]?
def opQ (G : Sg) (E : Ev G.El) (s : S G.El) (base : Nat) (o : Oper) : Q G.El (Ef G.El) :=
  let ev := evalV s
  match o.op with
  | .move x | .assign x => .ret ⟨ev x, []⟩
  | .alloc t => do
    let inf ← opt (G.ti t)
    let z ← zeroQ inf
    grd ((cellsV z).all isCell)
    pure ⟨.ptr base (.l 0) 0, [(base, .box true true 0 inf.k (isAgg z) (cellsV z))]⟩
  | .box t x => do
    let inf ← opt (G.ti t)
    match ev x with
    | .agg cs => do
      grd (cs.length == inf.k && cs.all isCell)
      pure ⟨.ptr base (.l 0) 0, [(base, .box true true 0 inf.k true cs)]⟩
    | v => do
      grd (isCell v && inf.k == 1)
      pure ⟨.ptr base (.l 0) 0, [(base, .box true true 0 inf.k false [v])]⟩
  | .build t ps => do pure ⟨← buildQ G t (ps.toList.map fun p => (p.1, ev p.2)), []⟩
  | .buildSlice t n ps => buildSliceQ G t n (ps.toList.map fun p => (p.1, ev p.2)) base
  | .load t a => match a with
    | .global _ => do
      let inf ← opt (G.ti t)
      grd (inf.k == 0 && inf.agg)
      pure ⟨.agg [], []⟩
    | a => do pure ⟨← loadQ G t (ev a), []⟩
  | .store t a x => do pure ⟨undV, ← storeQ G t (ev a) (ev x)⟩
  | .nilCheck x => match ev x with
    | .ptr o i j => .ret ⟨.ptr o i j, []⟩
    | .rp t x j s => .ret ⟨.rp t x j s, []⟩
    | .fn f c => .ret ⟨.fn f c, []⟩
    | _ => .fail
  | .binOp op t x y _ => do pure ⟨← binQ G base op t (ev x) (ev y) y, []⟩
  | .unOp op _ x => do pure ⟨← unQ base op (ev x), []⟩
  | .convert src dst x => convQ G base src dst (ev x)
  | .makeFunc (.func f) first caps => do
    grd (first.size == 0 && (caps.toList.map ev).all isPtr)
    pure ⟨.fn f (caps.toList.map ev), []⟩
  | .makeSlice t l c => makeSliceQ G t (ev l) (ev c) base
  | .slice t x lo hi mx => do pure ⟨← sliceQ G t (ev x) (lo.map ev) (hi.map ev) (mx.map ev), []⟩
  | .fieldAddr t x f => do
    let inf ← opt (G.ti t)
    match inf.kd with
    | .struct fs => do
      let p ← fieldAt fs f
      let ie ← opt (G.ti p.2)
      grd (decide (0 < ie.k))
      match ev x with
      | .ptr o i j => pure ⟨.ptr o i (j + p.1), []⟩
      | .rp t' x j src => pure ⟨.rp t' x (j + p.1) src, []⟩
      | _ => .fail
    | _ => .fail
  | .field t x f => do
    let inf ← opt (G.ti t)
    match inf.kd with
    | .struct fs => do
      let p ← fieldAt fs f
      let ie ← opt (G.ti p.2)
      match ev x with
      | .agg cs => do pure ⟨← takeQ ie cs p.1, []⟩
      | _ => .fail
    | _ => .fail
  | .indexAddr t x ix => do pure ⟨← indexAddrQ G t (ev x) (ev ix), []⟩
  | .index t x ix => do
    let inf ← opt (G.ti t)
    grd (isStrK inf.kd)
    match ev x, intV (ev ix) with
    | .s s, some (_, i, li) => do
      (match li with | true => grd (decide (0 ≤ i)) | false => nd (0 ≤ i))
      nd (i < ((s.size : Nat) : Int))
      pure ⟨mkI false .u8 base (byteAt s i), []⟩
    | _, _ => .fail
  | .extract x i => match ev x with
    | .tup ts => do
      let v ← opt ts[i]?
      grd (okA v)
      pure ⟨v, []⟩
    | _ => .fail
  | .call c => match c.callee with
    | .builtin .append => match c.args.toList.map ev with
      | [a, x] => do
        grd (c.argTypes.size == 2)
        appendQ G c.argTypes a x base
      | _ => .fail
    | .builtin .len => match c.args.toList.map ev with
      | [x] => do pure ⟨← lenQ G c.argTypes x base, []⟩
      | _ => .fail
    | .builtin .copy => match c.args.toList.map ev with
      | [d, x] => copyQ G c.argTypes d x base
      | _ => .fail
    | .builtin .min => match c.args.toList.map ev with
      | [x, y] => do pure ⟨← minQ base x y false, []⟩
      | _ => .fail
    | .builtin .max => match c.args.toList.map ev with
      | [x, y] => do pure ⟨← minQ base x y true, []⟩
      | _ => .fail
    | .value f => match ev f with
      | .fn g caps => do
        grd (caps.all isPtr)
        callQ G E g (c.args.toList.map ev ++ caps) base
      | _ => .fail
    | _ => .fail
  | _ => .fail
inductive H : Type 1 where
  | all
  | both (t e : H)
  | l (n : H)
  | r (n : H)
  | two (a b : H)
  | bindr (ρ : Type) (k : ρ → H)
  | re (ρ : Type) (r : ρ) (n : H)
  | skip (n : H)
inductive Tree (L : Type) : Type 1 where
  | leaf (x : L)
  | fail
  | need (c : Prop) (d : Decidable c) (k : c → Tree L)
  | ite (c : Prop) (d : Decidable c) (t : c → Tree L) (e : ¬ c → Tree L)
  | call (ρ : Type) (x : Option ρ) (k : ρ → Tree L)
  | callc (ρ : Type) (x : Option ρ) (ρ' : Type) (k : (e : ρ' = ρ) → (r : ρ') → x = some (e ▸ r) → Tree L)
  | same (ρ : Type) (x : Option ρ) (ρ' : Type) (r : ρ') (k : (e : ρ' = ρ) → x = some (e ▸ r) → Tree L)
  | either (β γ : Type) (x : β ⊕ γ) (l : β → Tree L) (r : γ → Tree L)
def runQ {α L : Type} (look : Nat → O El) : Q El α → H → (α → List Nat → H → Tree L) → Tree L
  | .ret a, h, k => k a [] h
  | .fail, _, _ => .fail
  | .get o f, h, k => runQ look (f (look o)) h fun a l h => k a (o :: l) h
  | .need c d f, h, k => .need c d fun _ => runQ look f h k
  | .call ρ x f, h, k => match h with
    | .bindr ρ' g => .callc ρ x ρ' fun e r _ => runQ look (f (e ▸ r)) (g r) k
    | .re ρ' r n => .same ρ x ρ' r fun e _ => runQ look (f (e ▸ r)) n k
    | .skip n => .call ρ x fun r => runQ look (f r) n k
    | h => .call ρ x fun r => runQ look (f r) h k
  | .either β γ x f g, h, k => match h with
    | .two h1 h2 => .either β γ x (fun a => runQ look (f a) h1 k) (fun b => runQ look (g b) h2 k)
    | h => .either β γ x (fun a => runQ look (f a) h k) (fun b => runQ look (g b) h k)
def forkP {L : Type} (c : Prop) (d : Decidable c) (h : H) (t e : H → Tree L) : Tree L := match h with
  | .all => .ite c d (fun _ => t .all) (fun _ => e .all)
  | .both a b => .ite c d (fun _ => t a) (fun _ => e b)
  | .l a => .need c d fun _ => t a
  | .r b => .need (¬ c) instDecidableNot fun _ => e b
  | .two _ _ => .fail
  | .bindr _ _ => .fail
  | .re _ _ _ => .fail
  | .skip _ => .fail
def fork {L : Type} (v : V El) (h : H) (t e : H → Tree L) : Tree L := match v with
  | .bl true => t h
  | .bl false => e h
  | .bp false c d => forkP c d h t e
  | .bp true c d => forkP c d h e t
  | .bb false x => forkP (x = true) inferInstance h t e
  | .bb true x => forkP (x = true) inferInstance h e t
  | _ => .fail
def wantB (want : Bool) (v : V El) : Option (V El) := match want with
  | true => some v
  | false => notV v
def wantV (ops : Array Oper) (s : S El) (o : Oper) : Option (V El) :=
  match o.guard with
  | none => some (.bl true)
  | some (j, want) => match ((ops[j]?).bind (·.dst)) with
    | some t => match s.get t with
      | .tup [] => some (.bl false)
      | v => wantB want v
    | none => none
def putV (s : S El) (dst : Option Tmp) (v : V El) : S El := match dst with
  | some d => match decide (d < s.n) with
    | true => { s with tm := (d, v) :: s.tm }
    | false => s
  | none => s
def wrOkV (look : Nat → O El) (base : Nat) (wr : List (Nat × O El)) : Bool := wr.all fun p => (look p.1).born || (decide (base ≤ p.1) && decide (p.1 < base + room))
def stepN {L : Type} (G : Sg) (E : Ev G.El) (ops : Array Oper) (nx i : Nat) (o : Oper) (s : S G.El) (h : H) (k : S G.El → Log → H → Tree L) : Tree L :=
  match wantV ops s o with
  | none => .fail
  | some v => fork v h
    (fun h => match o.op with
      | .pick c a b => fork (evalV s c) h (fun h => k (putV s o.dst (evalV s a)) ⟨i, [], []⟩ h) (fun h => k (putV s o.dst (evalV s b)) ⟨i, [], []⟩ h)
      | _ => runQ (lookO s.st) (opQ G E s (nx + room * i) o) h fun e l h => match wrOkV (lookO s.st) (nx + room * i) e.wr with
        | true => k { putV s o.dst e.val with st := putOs s.st e.wr } ⟨i, l, e.wr.map (·.1)⟩ h
        | false => .fail)
    (fun h => k (putV s o.dst undV) ⟨i, [], []⟩ h)
def runOpsN {L : Type} (G : Sg) (E : Ev G.El) (ops : Array Oper) (nx : Nat) : Nat → List Oper → S G.El → H → (S G.El → List Log → H → Tree L) → Tree L
  | _, [], s, h, k => k s [] h
  | i, o :: r, s, h, k => stepN G E ops nx i o s h fun s l h => runOpsN G E ops nx (i + 1) r s h fun s ls h => k s (l :: ls) h
def regionN {L : Type} (G : Sg) (E : Ev G.El) (ps : List (List Nat)) (ops : Array Oper) (draw : Bool) (s : S G.El) (h : H) (k : S G.El → H → Tree L) : Tree L :=
  runOpsN G E ops s.nx 0 ops.toList s h fun s' logs h => match draw && !logsR ps (logs.filter fun l => !l.bare) with
    | true => .fail
    | false => k { s' with nx := s.nx + room * ops.size } h
def validO (look : Nat → O El) (src : Src) : Bool := src.all fun p => (look p.1).alive && (look p.1).ver == p.2
def pickQ (look : Nat → O El) (kt : Nat → Nat) (s : S El) : List (Nat × Nat) → Q El (List (Nat × V El))
  | [] => .ret []
  | (q, m) :: r => do
    grd (decide (q < s.n))
    let v ← (match m == 1 with
      | true => match s.get q with
        | .nil => pure (.sl (kt q) [] [])
        | .win o full off len => match look o with
          | .row true mw kp ver t xs last => do
            let ys ← winQ (full && kp) off len xs last
            pure (.sl t ys (match mw with | true => [(o, ver)] | false => []))
          | _ => pure .dead
        | v => pure v
      | false => pure (s.get q))
    let l ← pickQ look kt s r
    pure ((q, v) :: l)
def reachO (look : Nat → O El) : Nat → List Nat → List Nat → List Nat
  | 0, _, done => done
  | _, [], done => done
  | n + 1, o :: r, done => match done.contains o || !(look o).alive with
    | true => reachO look n r done
    | false => reachO look n (r ++ (cellsO (look o)).flatMap refs1V) (done ++ [o])
def srcO (K : List Nat) (look : Nat → O El) (l : Src) : Option Src :=
  match validO look l with
  | true => some (l.filterMap fun p => (posIn K p.1).map fun j => (j, 0))
  | false => none
def freshS (G : Sg) (kt : Nat → Nat) : List (Nat × Nat) → S G.El → Q G.El (S G.El)
  | [], s => .ret s
  | (q, k) :: r, s => match decide (k < 2) with
    | true => freshS G kt r s
    | false => match s.get q with
      | .nil => do
        widthQ G (kt q) (k - 2)
        freshS G kt r { s with tm := (q, .win s.nx true (.l 0) (.l 0)) :: s.tm, st := putOs s.st [(s.nx, .row true true true 0 (kt q) [] none)], nx := s.nx + 1 }
      | _ => freshS G kt r s
def risingB : List (Nat × Nat) → Bool
  | [] => true
  | [_] => true
  | a :: b :: r => decide (a.1 < b.1) && risingB (b :: r)
def canN (i : N) : N := match i.is0 with
  | true => .l 0
  | false => .d 0 i.v
def canC (nm : Nat) (look : Nat → O El) : V El → Q El (V El)
  | .bl b => .ret (.bb false b)
  | .bp false c d => .ret (.bb false (@decide c d))
  | .bp true c d => .ret (.bb false (!(@decide c d)))
  | .bb false x => .ret (.bb false x)
  | .bb true x => .ret (.bb false !x)
  | .il k n => .ret (.id k nm n)
  | .id k _ n => .ret (.id k nm n)
  | .win o full off len => match look o with
    | .row _ _ kp _ _ xs last => match full && kp && off.is0 with
      | true => do ndEq len xs.length; pure (.win o true (.l 0) (.d 0 (rowsOf xs last).length))
      | false => .ret (.win o false (canN off) (.d 0 len.v))
    | _ => .ret (.win o false (canN off) (.d 0 len.v))
  | .ptr o i j => .ret (.ptr o (canN i) j)
  | v => .ret v
def canA (nm : Nat) (look : Nat → O El) : V El → Q El (V El)
  | .agg cs => do pure (.agg (← mapQ (fun c => canC 0 look (cell1 c)) cs))
  | v => canC nm look v
def canV (look : Nat → O El) : V El → Q El (V El)
  | .tup ts => do pure (.tup (← mapQ (canA 0 look) ts))
  | v => canA 0 look v
def canO (nm : Nat → Nat) (look : Nat → O El) : O El → Q El (O El)
  | .row a m _ v t xs l => .ret (.row a m true v t (rowsOf xs l) none)
  | .box a m v k g cs => do pure (.box a m v k g (← mapQ (fun p => canC (nm p.2) look (cell1 p.1)) cs.zipIdx))
  | .gone => .ret .gone
def normS (G : Sg) (kt : Nat → Nat) (keep : List (Nat × Nat)) (s : S G.El) : Q G.El (S G.El) := do
  grd (risingB keep)
  let s ← freshS G kt keep s
  let look := lookO s.st
  let ts ← pickQ look kt s keep
  let K := List.range s.m ++ (reachO look 64 (List.range s.m ++ ts.flatMap fun p => refsV p.2) []).filter fun o => !decide (o < s.m)
  let sg := srcO K look
  let us ← mapQ (fun p => do let v ← (match p.2 with | .tup ts => pure (.tup ts) | v => canA (p.1 + 1) look v); pure (p.1, v)) ts
  let os ← mapQ (fun p => do let x ← canO (fun j => 50000 + 100 * p.2 + j) look (look p.1); pure (p.2, (mapVO (posIn K) sg x).setVer 0)) K.zipIdx
  pure { n := s.n, df := .dead, tm := us.map fun p => (p.1, mapVV (posIn K) sg p.2), st := os, nx := K.length, m := s.m }
inductive Lf (El : Nat → Type) where
  | ret (v : V El) (obs : List (O El))
  | at (rid : Nat) (s : S El)
structure Cx where
  G : Sg
  E : Ev G.El
  cert : FCert
  kt : Nat → Nat → Nat
abbrev K (X : Cx) := PM.Ex → S X.G.El → H → Tree (Lf X.G.El)
def exec (X : Cx) : Code → S X.G.El → H → K X → Tree (Lf X.G.El)
  | .skip, s, h, k => k .normal s h
  | .region id ops draw, s, h, k => match findK X.cert.keep id with
    | some kp => runQ (lookO s.st) (normS X.G (X.kt id) kp s) h fun s' _ _ => .leaf (.at id s')
    | none => regionN X.G X.E (X.cert.predsOf id) ops draw s h fun s h => k .normal s h
  | .seq a b, s, h, k => exec X a s h fun ex s h => match ex with
    | .normal => exec X b s h k
    | ex => k ex s h
  | .cond c a b, s, h, k => fork (evalV s c) h (fun h => exec X a s h k) (fun h => exec X b s h k)
  | .block id b, s, h, k => exec X b s h fun ex s h => match ex with
    | .exit j => k (if j = id then .normal else .exit j) s h
    | ex => k ex s h
  | .loop b, s, h, k => exec X b s h fun ex s h => match ex with
    | .normal => .fail
    | ex => k ex s h
  | .exit id, s, h, k => k (.exit id) s h
  | .ret, s, h, k => k .ret s h
  | _, _, _, _ => .fail
def resume (X : Cx) (rid : Nat) : Code → S X.G.El → H → K X → Option (Tree (Lf X.G.El))
  | .region id ops draw, s, h, k => if id = rid then some (regionN X.G X.E (X.cert.predsOf id) ops draw s h fun s h => k .normal s h) else none
  | .seq a b, s, h, k => match resume X rid a s h fun ex s h => match ex with
      | .normal => exec X b s h k
      | ex => k ex s h with
    | some t => some t
    | none => resume X rid b s h k
  | .cond _ a b, s, h, k => match resume X rid a s h k with
    | some t => some t
    | none => resume X rid b s h k
  | .block id b, s, h, k => resume X rid b s h fun ex s h => match ex with
    | .exit j => k (if j = id then .normal else .exit j) s h
    | ex => k ex s h
  | .loop b, s, h, k => resume X rid b s h fun ex s h => match ex with
    | .normal => exec X b s h fun ex s h => match ex with
      | .normal => .fail
      | ex => k ex s h
    | ex => k ex s h
  | _, _, _, _ => none
def resQ (G : Sg) (fn : Func) (s : S G.El) : Q G.El (V G.El) := do
  let vs ← mapQ (fun r => match r with
    | .tmp t => do
      grd (okA (s.get t))
      pure (s.get t)
    | .cell a t => loadQ G t (s.get a)) fn.results.toList
  match vs with
  | [v] => pure v
  | vs => pure (.tup vs)
def outCellQ (own : Bool) (m : Nat) (look : Nat → O El) (k : Option Nat) (v : V El) (nx : Nat) : Q El (V El × Nat × List (Nat × O El)) :=
  match k, v with
  | some e, .nil => match own with
    | true => pure (.win nx true (.l 0) (.l 0), nx + 1, [(nx, .row true true true 0 e [] none)])
    | false => pure (.sl e [] [], nx, [])
  | some _, .win o full off len => match own || decide (o < m) with
    | true => pure (.win o full off len, nx, [])
    | false => match look o with
      | .row true mw kp ver t xs last => do
        let ys ← winQ (full && kp) off len xs last
        pure (.sl t ys (match mw with | true => [(o, ver)] | false => []), nx, [])
      | _ => .fail
  | some _, .sl t xs src => do
    grd (validO look src)
    pure (.sl t xs src, nx, [])
  | some e, .s0 src => do
    grd (validO look src)
    pure (.sl e [] src, nx, [])
  | none, .ptr o i j => pure (.ptr o i j, nx, [])
  | none, .fn f c => pure (.fn f c, nx, [])
  | none, .bl b => pure (.bl b, nx, [])
  | none, .bp a b c => pure (.bp a b c, nx, [])
  | none, .bb a b => pure (.bb a b, nx, [])
  | none, .il a b => pure (.il a b, nx, [])
  | none, .id a b c => pure (.id a b c, nx, [])
  | none, .s x => pure (.s x, nx, [])
  | _, _ => .fail
def outCellsQ (own : Bool) (m : Nat) (look : Nat → O El) : List (Option Nat) → List (V El) → Nat → Q El (List (V El) × Nat × List (Nat × O El))
  | [], [], nx => .ret ([], nx, [])
  | k :: ks, t :: ts, nx => do
    let p ← outCellQ own m look k t nx
    let q ← outCellsQ own m look ks ts p.2.1
    pure (p.1 :: q.1, q.2.1, p.2.2 ++ q.2.2)
  | _, _, _ => .fail
def out1Q (own : Bool) (m : Nat) (look : Nat → O El) (ks : List (Option Nat)) (v : V El) (nx : Nat) : Q El (V El × Nat × List (Nat × O El)) := match ks with
  | [k] => outCellQ own m look k v nx
  | _ => .fail
def outOneQ (G : Sg) (own : Bool) (m : Nat) (look : Nat → O G.El) (ty : TypeId) (v : V G.El) (nx : Nat) : Q G.El (V G.El × Nat × List (Nat × O G.El)) := do
  let inf ← opt (G.ti ty)
  let ks ← opt inf.cs
  match v with
  | .agg cs => do
    let p ← outCellsQ own m look ks cs nx
    pure (.agg p.1, p.2)
  | v => out1Q own m look ks v nx
def outManyQ (G : Sg) (own : Bool) (m : Nat) (look : Nat → O G.El) : List TypeId → List (V G.El) → Nat → Q G.El (List (V G.El) × Nat × List (Nat × O G.El))
  | [], [], nx => .ret ([], nx, [])
  | ty :: tys, t :: ts, nx => do
    let p ← outOneQ G own m look ty t nx
    let q ← outManyQ G own m look tys ts p.2.1
    pure (p.1 :: q.1, q.2.1, p.2.2 ++ q.2.2)
  | _, _, _ => .fail
def outMQ (G : Sg) (own : Bool) (m : Nat) (look : Nat → O G.El) (tys : List TypeId) (r : V G.El) (nx : Nat) : Q G.El (V G.El × Nat × List (Nat × O G.El)) := match r with
  | .tup rs => do
    let p ← outManyQ G own m look tys rs nx
    pure (.tup p.1, p.2)
  | _ => .fail
def outAllQ (G : Sg) (own : Bool) (m : Nat) (look : Nat → O G.El) (tys : List TypeId) (r : V G.El) (nx : Nat) : Q G.El (V G.El × Nat × List (Nat × O G.El)) :=
  match tys with
  | [ty] => outOneQ G own m look ty r nx
  | tys => outMQ G own m look tys r nx
def giveQ (G : Sg) (fn : Func) (own : Bool) (m : Nat) (s : S G.El) : Q G.El (V G.El × List (O G.El)) := do
  let r ← resQ G fn s
  let q ← outAllQ G own m (lookO s.st) fn.resultTypes.toList r s.nx
  let look := lookO (putOs s.st q.2.2)
  let K := List.range m ++ (reachO look 64 (List.range m ++ refsV q.1) []).filter fun o => !decide (o < m)
  let sg := srcO K look
  let v ← canV look q.1
  let os ← mapQ (fun o => do let x ← canO (fun _ => 0) look (look o); pure ((mapVO (posIn K) sg x).setVer 0)) K
  pure (mapVV (posIn K) sg v, os)
def endK (X : Cx) (fn : Func) (m : Nat) : K X := fun ex s h => match ex with
  | .exit _ => .fail
  | _ => runQ (lookO s.st) (giveQ X.G fn X.cert.own m s) h fun p _ _ => .leaf (.ret p.1 p.2)
inductive PT (R Lb : Type) : Type 1 where
  | ret (r : R)
  | jump (x : Lb)
  | fail
  | need (c : Prop) [d : Decidable c] (k : c → PT R Lb)
  | need' (c' c : Prop) [d' : Decidable c'] [d : Decidable c] (h : c' ↔ c) (k : c' → PT R Lb)
  | triv (c : Prop) [d : Decidable c] (h : c) (k : PT R Lb)
  | ite (c : Prop) [d : Decidable c] (t : c → PT R Lb) (e : ¬ c → PT R Lb)
  | ite' (c' c : Prop) [d' : Decidable c'] [d : Decidable c] (h : c' ↔ c) (t : c' → PT R Lb) (e : ¬ c' → PT R Lb)
  | call (ρ : Type) (x : Option ρ) (k : ρ → PT R Lb)
  | call' (ρ : Type) (x' x : Option ρ) (h : x' = x) (k : ρ → PT R Lb)
  | callh (ρ : Type) (x : Option ρ) (k : (r : ρ) → x = some r → PT R Lb)
  | recall (ρ : Type) (x : Option ρ) (r : ρ) (h : x = some r) (k : PT R Lb)
  | either (β γ : Type) (x : β ⊕ γ) (l : β → PT R Lb) (r : γ → PT R Lb)
variable {R Lb L : Type}
abbrev PT.tr (n : Nat) (k : PT R Lb) : PT R Lb := .triv (n = n) rfl k
abbrev PT.th {c : Prop} [d : Decidable c] (h : c) (k : PT R Lb) : PT R Lb := .triv c h k
def bindH {α β : Type} (x : Option α) (f : (a : α) → x = some a → Option β) : Option β := match x, f with
  | some a, f => f a rfl
  | none, _ => none
theorem bindH_eq {α β : Type} (x : Option α) (f : α → Option β) : bindH x (fun a _ => f a) = x.bind f := by cases x <;> rfl
theorem same_of {ρ : Type} {x : Option ρ} {r : ρ} (e : ρ = ρ) (h : x = some (e ▸ r)) : x = some r := h
def PT.run (D : Lb → Option R) : PT R Lb → Option R
  | .ret r => some r
  | .jump x => D x
  | .fail => none
  | @PT.need _ _ c d k => @dite _ c d (fun h => (k h).run D) fun _ => none
  | @PT.need' _ _ c' _ d' _ _ k => @dite _ c' d' (fun h => (k h).run D) fun _ => none
  | @PT.triv _ _ _ _ _ k => k.run D
  | @PT.ite _ _ c d t e => @dite _ c d (fun h => (t h).run D) fun h => (e h).run D
  | @PT.ite' _ _ c' _ d' _ _ t e => @dite _ c' d' (fun h => (t h).run D) fun h => (e h).run D
  | .call _ x k => x.bind fun r => (k r).run D
  | .call' _ x' _ _ k => x'.bind fun r => (k r).run D
  | .callh _ x k => bindH x fun r h => (k r h).run D
  | .recall _ _ _ _ k => k.run D
  | .either _ _ x l r => match x with
    | .inl a => (l a).run D
    | .inr b => (r b).run D
def PT.lay (f : R → L) (g : Lb → L) : PT R Lb → Tree L
  | .ret r => .leaf (f r)
  | .jump x => .leaf (g x)
  | .fail => .fail
  | @PT.need _ _ c d k => .need c d fun h => (k h).lay f g
  | @PT.need' _ _ _ c _ d h k => .need c d fun x => (k (h.2 x)).lay f g
  | @PT.triv _ _ c d _ k => .need c d fun _ => k.lay f g
  | @PT.ite _ _ c d t e => .ite c d (fun h => (t h).lay f g) (fun h => (e h).lay f g)
  | @PT.ite' _ _ _ c _ d h t e => .ite c d (fun x => (t (h.2 x)).lay f g) (fun x => (e fun y => x (h.1 y)).lay f g)
  | .call ρ x k => .call ρ x fun r => (k r).lay f g
  | .call' ρ _ x _ k => .call ρ x fun r => (k r).lay f g
  | .callh ρ x k => .callc ρ x ρ fun e r h => (k r (same_of e h)).lay f g
  | .recall ρ x r _ k => .same ρ x ρ r fun _ _ => k.lay f g
  | .either β γ x l r => .either β γ x (fun a => (l a).lay f g) (fun b => (r b).lay f g)
def PT.iter {R Lb : Type} (blk : Nat → Lb → PT R Lb) : Nat → Lb → Option R
  | 0 => fun _ => none
  | k + 1 => fun x => (blk k x).run (PT.iter blk k)
theorem len_bytesL (s : ByteArray) : (bytesL s).length = s.size := by unfold bytesL; rw [List.length_map, Array.length_toList]; rfl
theorem size_strOf (l : List Int) : (strOf l).size = l.length := by simp [strOf, ByteArray.size]
theorem tv {c : Prop} (h : c := by first | omega | (simp only [List.length_set, List.length_append, List.length_cons, List.length_nil, List.length_take, List.length_drop, List.length_replicate, List.length_map, len_bytesL, size_strOf, ByteArray.size_append, ByteArray.size_extract, bsize_mk, List.size_toArray] at * <;> omega) | (simp <;> omega)) : c := h
def cI {β : Type} (k : IntKind) (v : V El) (f : Int → Option β) : Option β := match v with
  | .il k' n => match decide (k' = k) with | true => f n | false => none
  | .id k' _ n => match decide (k' = k) with | true => f n | false => none
  | _ => none
def cS {β : Type} (v : V El) (f : ByteArray → Option β) : Option β := match v with
  | .s x => f x
  | _ => none
def argI {β : Type} (k : IntKind) (v : V El) (f : Int → Q El β) : Q El β := match v with
  | .il k' n => match decide (k' = k) with | true => f n | false => .fail
  | .id k' _ n => match decide (k' = k) with | true => f n | false => .fail
  | _ => .fail
def argB {β : Type} (v : V El) (f : Bool → Q El β) : Q El β := match v with
  | .bl b => f b
  | .bp false c d => f (@decide c d)
  | .bp true c d => f (!(@decide c d))
  | .bb false x => f x
  | .bb true x => f (!x)
  | _ => .fail
def argS {β : Type} (v : V El) (f : ByteArray → Q El β) : Q El β := match v with
  | .s x => f x
  | _ => .fail
def argL {β : Type} (e : Nat) (v : V El) (f : List (El e) → Q El β) : Q El β := match v with
  | .sl t xs [] => if h : t = e then f (h ▸ xs) else .fail
  | .s0 [] => f []
  | _ => .fail
def argA {β : Type} (v : V El) (f : List (V El) → Q El β) : Q El β := match v with
  | .agg cs => f cs
  | _ => .fail
def argR {β : Type} (e : Nat) (x : O El) (f : List (El e) → Q El β) : Q El β := match x with
  | .row true true _ 0 t xs last => if h : t = e then f (h ▸ rowsOf xs last) else .fail
  | _ => .fail
def argW {β : Type} (o n : Nat) (v : V El) (f : Q El β) : Q El β := match v with
  | .win o' _ off len => match o' == o && off.is0 with
    | true => do nd (len.v = n); f
    | false => .fail
  | _ => .fail
def argP {β : Type} (o : Nat) (v : V El) (f : Nat → Nat → Q El β) : Q El β := match v with
  | .win o' _ off len => match o' == o with
    | true => f off.v len.v
    | false => .fail
  | _ => .fail
def argQ {β : Type} (o : Nat) (v : V El) (f : Nat → Q El β) : Q El β := match v with
  | .win o' _ off len => match o' == o && off.is0 with
    | true => f len.v
    | false => .fail
  | _ => .fail
def argH {β : Type} (cs : List (V El)) (f : V El → List (V El) → Q El β) : Q El β := match cs with
  | y :: r => f (cell1 y) r
  | [] => .fail
def argT {β : Type} (cs : List (V El)) (f : Q El β) : Q El β := match cs with
  | [] => f
  | _ => .fail
def lH {γ β : Type} (l : List γ) (f : γ → List γ → Q El β) : Q El β := match l with
  | y :: r => f y r
  | [] => .fail
def lT {γ β : Type} (l : List γ) (f : Q El β) : Q El β := match l with
  | [] => f
  | _ => .fail
def argPH {β : Type} (cs : List (V El)) (f : V El → List (V El) → Q El β) : Q El β := match cs with
  | y :: r => match isPtr y with
    | true => f y r
    | false => .fail
  | [] => .fail
def argDead {β : Type} (v : V El) (f : Q El β) : Q El β := match v with
  | .dead => f
  | _ => .fail
def argNil {β : Type} (v : V El) (f : Q El β) : Q El β := match v with
  | .nil => f
  | _ => .fail
def argV {β : Type} (o j : Nat) (v : V El) (f : Q El β) : Q El β := match v with
  | .ptr o' i j' => match o' == o && i.is0 && j' == j with
    | true => f
    | false => .fail
  | _ => .fail
def argE {β : Type} (o j : Nat) (v : V El) (f : Nat → Q El β) : Q El β := match v with
  | .ptr o' i j' => match o' == o && j' == j with
    | true => f i.v
    | false => .fail
  | _ => .fail
def argF {β : Type} (g : FuncId) (v : V El) (f : List (V El) → Q El β) : Q El β := match v with
  | .fn g' caps => match g' == g with
    | true => f caps
    | false => .fail
  | _ => .fail
def argX {β : Type} (k : Nat) (agg : Bool) (x : O El) (f : List (V El) → Q El β) : Q El β := match x with
  | .box true true 0 k' g cs => match k' == k && (g == agg) && oneOr g cs with
    | true => f cs
    | false => .fail
  | _ => .fail
def findU {α : Type 1} : List (Nat × α) → Nat → Option α
  | [], _ => none
  | (k, x) :: r, i => if k = i then some x else findU r i
def envOf (C : Cert) (l : List (Nat × (List (V El) → List (O El) → Q El (V El × List (O El))))) : Ev El := ⟨fun f => match findU l f with
  | some s => s
  | none => fun _ _ => .fail, fun f => (C f).lent⟩
end Go.Proofs.YtmjmoagmolgacaaGreatDoor.PN
namespace Go.Proofs.YtmjmoagmolgacaaGreatDoor.PN
open Go Go.Proofs.YtmjmoagmolgacaaGreatDoor.PM
variable {G : Sg} {P : Program} {El : Nat → Type} {α β γ : Type}
def denP : V El → T
  | .ptr o i j => .ptr o i.v j
  | _ => .dead
def den1 (G : Sg) : V G.El → T
  | .bl b => .sc (.bool b)
  | .bp false c d => .sc (.bool (@decide c d))
  | .bp true c d => .sc (.bool (!(@decide c d)))
  | .bb false x => .sc (.bool x)
  | .bb true x => .sc (.bool !x)
  | .il k n => .sc (.int k n)
  | .id k _ n => .sc (.int k n)
  | .s x => .sc (.string x)
  | .nil => .nil
  | .s0 src => .sl [] src
  | .sl t xs src => .sl (xs.map (G.enc t)) src
  | .win o _ off len => .win o off.v len.v
  | .ptr o i j => .ptr o i.v j
  | .fn f caps => .fn f (caps.map denP)
  | .ifl b => .ifc b
  | .ifd b => .ifc b
  | .agg _ | .tup _ | .rp .. | .dead => .dead
def denA (G : Sg) : V G.El → T
  | .agg cs => .agg (cs.map (den1 G))
  | v => den1 G v
def denV (G : Sg) : V G.El → T
  | .tup ts => .tup (ts.map (denA G))
  | .rp t x j src => .rp (G.enc t x) j src
  | v => denA G v
def wrapT (g : Bool) (cs : List T) : T := match g, cs with
  | true, cs => .agg cs
  | false, [c] => c
  | false, _ => .dead
def denO (G : Sg) : O G.El → Ob
  | .row a m _ v t xs last => ⟨true, a, m, true, v, G.w t, (rowsOf xs last).map (G.enc t)⟩
  | .box a m v k g cs => ⟨true, a, m, false, v, k, [wrapT g (cs.map (den1 G))]⟩
  | .gone => Ob.gone
def KdOk (P : Program) (G : Sg) (t : TypeId) : Kd → Prop
  | .slice e _ => P.underlying t = some (.slice e)
  | .array n e => P.underlying t = some (.array n e)
  | .struct fs => (fs.zipIdx.all fun q => fieldT P t q.2 == some q.1) = true ∧ ∀ l, fieldsK G fs = some l → fieldsT P t = some l
  | .string => P.underlying t = some .string
  | .bool => P.underlying t = some .bool
  | .int k => P.underlying t = some (.int k)
  | .iface => ∃ ms, P.underlying t = some (.interface ms)
  | .other => True
structure TiOk (P : Program) (G : Sg) (t : TypeId) (i : TI G.El) : Prop where
  sz : szT P t = some i.k
  ag : aggT P t = some i.agg
  by_ : bytesT P t = some i.bytes
  ze : ∀ z, i.zero = some z → zeroT P t = some (denA G z)
  kd : KdOk P G t i.kd
  cs : ∀ l, i.cs = some l → cellKs P 8 t = some (l.map (Option.map G.w))
  eq : ∀ l, i.eq = some l → eqT P t = some l
structure SgOk (P : Program) (G : Sg) : Prop where
  enc : ∀ t x, G.enc t x = wrapT (G.aggE t) ((G.cells t x).map (den1 G))
  len : ∀ t x, (G.cells t x).length = G.w t
  agg1 : ∀ t, G.aggE t = false → G.w t = 1
  mkC : ∀ t cs x, G.mkE t cs = some x → cs.map (den1 G) = (G.cells t x).map (den1 G)
  ofStr : ∀ t s xs, G.ofStr t s = some xs → xs.map (G.enc t) = s.data.toList.map fun b => T.sc (.int .u8 (b.toNat : Int))
  toStr : ∀ t xs s, G.toStr t xs = some s → bytesOf (xs.map (G.enc t)) = some s.data.toList
  flat : ∀ t, G.flat t = true → ∀ x, (G.enc t x).cells.all (fun c => match c with | .sc _ => true | _ => false) = true
  ti : ∀ t i, G.ti t = some i → TiOk P G t i
theorem den1_agg : ∀ (v : V G.El) cs, den1 G v ≠ .agg cs := by
  intro v cs h
  cases v with
  | bp n c d => cases n <;> cases h
  | bb n x => cases n <;> cases h
  | _ => cases h
theorem den1_tup : ∀ (v : V G.El) ts, den1 G v ≠ .tup ts := by
  intro v cs h
  cases v with
  | bp n c d => cases n <;> cases h
  | bb n x => cases n <;> cases h
  | _ => cases h
theorem cells_den1 (v : V G.El) : (den1 G v).cells = [den1 G v] := by
  cases h : den1 G v with
  | agg cs => exact absurd h (den1_agg v cs)
  | _ => rfl
theorem den1_cell1 (v : V G.El) : den1 G (cell1 v) = den1 G v := by cases v <;> rfl
theorem denA_cells (v : V G.El) : (denA G v).cells = (cellsV v).map (den1 G) := by
  by_cases h : ∃ cs, v = .agg cs
  · obtain ⟨cs, rfl⟩ := h; rfl
  · have h1 : denA G v = den1 G v := by cases v <;> first | rfl | exact absurd ⟨_, rfl⟩ h
    have h2 : cellsV v = [v] := by cases v <;> first | rfl | exact absurd ⟨_, rfl⟩ h
    rw [h1, h2, cells_den1]; rfl
theorem denA_cell1 (v : V G.El) : denA G (cell1 v) = den1 G v := by cases v <;> rfl
theorem denV_okA {v : V G.El} (h : okA v = true) : denV G v = denA G v := by cases v <;> first | rfl | cases h
theorem okA_isCell {v : V G.El} (h : isCell v = true) : okA v = true := by cases v <;> first | rfl | cases h
theorem denV_isCell {v : V G.El} (h : isCell v = true) : denV G v = den1 G v := by cases v <;> first | rfl | cases h
theorem denA_not_agg {v : V G.El} (h : ∀ cs, v ≠ .agg cs) : denA G v = den1 G v := by cases v <;> first | rfl | exact absurd rfl (h _)
theorem cellT_den1 {v : V G.El} (h : isCell v = true) : cellT (den1 G v) = true := by
  cases v with
  | bp n c d => cases n <;> rfl
  | bb n x => cases n <;> rfl
  | _ => first | rfl | cases h
theorem wrapT_cells {g : Bool} {cs : List T} (h : g = true ∨ cs.length = 1) (hc : ∀ c ∈ cs, ∀ l, c ≠ .agg l) : (wrapT g cs).cells = cs := by
  cases g with
  | true => rfl
  | false =>
    rcases h with h | h
    · cases h
    · match cs, h with
      | [c], _ =>
        simp only [wrapT]
        have := hc c (by simp)
        cases c with
        | agg l => exact absurd rfl (this l)
        | _ => rfl
theorem enc_cells (ok : SgOk P G) (t : Nat) (x : G.El t) : (G.enc t x).cells = (G.cells t x).map (den1 G) := by
  rw [ok.enc]
  refine wrapT_cells ?_ (fun c hc l e => ?_)
  · cases h : G.aggE t with
    | true => exact .inl rfl
    | false => right; rw [List.length_map, ok.len, ok.agg1 t h]
  · obtain ⟨v, _, rfl⟩ := List.mem_map.1 hc
    exact den1_agg v l e
theorem enc_width (ok : SgOk P G) (t : Nat) (x : G.El t) : (G.enc t x).width = G.w t := by
  show (G.enc t x).cells.length = _
  rw [enc_cells ok, List.length_map, ok.len]
theorem wid_enc (ok : SgOk P G) (t : Nat) (xs : List (G.El t)) : wid (G.w t) (xs.map (G.enc t)) = true := by
  simp only [wid, List.all_eq_true]
  intro y hy
  obtain ⟨x, _, rfl⟩ := List.mem_map.1 hy
  rw [enc_width ok]; simp
theorem flatL_enc (ok : SgOk P G) {t : Nat} (h : G.flat t = true) (xs : List (G.El t)) : flatL (xs.map (G.enc t)) = true := by
  simp only [flatL, List.all_eq_true]
  intro y hy
  obtain ⟨x, _, rfl⟩ := List.mem_map.1 hy
  exact List.all_eq_true.1 (ok.flat t h x)
theorem enc_withCells (ok : SgOk P G) {t : Nat} {x y : G.El t} {cs : List (V G.El)} (h : cs.map (den1 G) = (G.cells t y).map (den1 G)) : (G.enc t x).withCells (cs.map (den1 G)) = G.enc t y := by
  rw [h, ok.enc, ok.enc]
  cases hg : G.aggE t with
  | true => rfl
  | false =>
    have h1 : (G.cells t x).length = 1 := by rw [ok.len, ok.agg1 t hg]
    have h2 : (G.cells t y).length = 1 := by rw [ok.len, ok.agg1 t hg]
    match hx : G.cells t x, hy : G.cells t y with
    | [a], [b] =>
      simp only [List.map_cons, List.map_nil, wrapT]
      cases hd : den1 G a with
      | agg l => exact absurd hd (den1_agg a l)
      | _ => rfl
    | [], _ => rw [hx] at h1; cases h1
    | _ :: _ :: _, _ => rw [hx] at h1; simp at h1
    | [_], [] => rw [hy] at h2; cases h2
    | [_], _ :: _ :: _ => rw [hy] at h2; simp at h2
def Q.says (lk : Nat → O El) : Q El α → (α → List Nat → Prop) → Prop
  | .ret a, R => R a []
  | .fail, _ => False
  | .get o k, R => (k (lk o)).says lk fun a l => R a (o :: l)
  | .need c _ k, R => c ∧ k.says lk R
  | .call _ x k, R => ∃ r, x = some r ∧ (k r).says lk R
  | .either _ _ x l r, R => match x with
    | .inl a => (l a).says lk R
    | .inr b => (r b).says lk R
def Q.runs (lk : Nat → O El) (q : Q El α) (a : α) (l : List Nat) : Prop := q.says lk fun a' l' => a' = a ∧ l' = l
variable {lk : Nat → O El}
theorem says_mono {q : Q El α} : ∀ {R R' : α → List Nat → Prop}, (∀ a l, R a l → R' a l) → q.says lk R → q.says lk R' := by
  induction q with
  | ret a => intro R R' hh h; exact hh _ _ h
  | fail => intro R R' hh h; exact h
  | get o k ih => intro R R' hh h; exact ih _ (fun a l => hh a _) h
  | need c d k ih => intro R R' hh h; exact ⟨h.1, ih hh h.2⟩
  | call ρ x k ih => intro R R' hh h; obtain ⟨r, h1, h2⟩ := h; exact ⟨r, h1, ih r hh h2⟩
  | either β γ x f g ih1 ih2 =>
    intro R R' hh h
    cases x with
    | inl a => exact ih1 a hh h
    | inr b => exact ih2 b hh h
theorem says_bind {q : Q El α} {f : α → Q El β} : ∀ {R : β → List Nat → Prop}, (q.bind f).says lk R ↔ q.says lk fun a l => (f a).says lk fun b l' => R b (l ++ l') := by
  induction q with
  | ret a => intro R; exact Iff.rfl
  | fail => intro R; exact Iff.rfl
  | get o k ih => intro R; exact ih _
  | need c d k ih => intro R; exact and_congr_right fun _ => ih
  | call ρ x k ih => intro R; exact exists_congr fun r => and_congr_right fun _ => ih r
  | either β γ x g h ih1 ih2 =>
    intro R
    cases x with
    | inl a => exact ih1 a
    | inr b => exact ih2 b
theorem says_iff {q : Q El α} : ∀ {R : α → List Nat → Prop}, q.says lk R ↔ ∃ a l, q.runs lk a l ∧ R a l := by
  induction q with
  | ret a => intro R; exact ⟨fun h => ⟨a, [], ⟨rfl, rfl⟩, h⟩, fun ⟨_, _, ⟨h1, h2⟩, h⟩ => by subst h1; subst h2; exact h⟩
  | fail => intro R; exact ⟨fun h => h.elim, fun ⟨_, _, h, _⟩ => h.elim⟩
  | get o k ih =>
    intro R
    simp only [Q.says, Q.runs]
    rw [ih (lk o)]
    constructor
    · rintro ⟨a, l, h1, h2⟩
      exact ⟨a, o :: l, says_mono (fun a' l' h => ⟨h.1, by rw [h.2]⟩) h1, h2⟩
    · rintro ⟨a, l, h1, h2⟩
      obtain ⟨a', l', h3, rfl, rfl⟩ := (ih (lk o)).1 h1
      exact ⟨a', l', h3, h2⟩
  | need c d k ih =>
    intro R
    simp only [Q.says, Q.runs]
    rw [ih]
    exact ⟨fun ⟨h, a, l, h1, h2⟩ => ⟨a, l, ⟨h, h1⟩, h2⟩, fun ⟨a, l, ⟨h, h1⟩, h2⟩ => ⟨h, a, l, h1, h2⟩⟩
  | call ρ x k ih =>
    intro R
    simp only [Q.says, Q.runs]
    constructor
    · rintro ⟨r, hx, h⟩
      obtain ⟨a, l, h1, h2⟩ := (ih r).1 h
      exact ⟨a, l, ⟨r, hx, h1⟩, h2⟩
    · rintro ⟨a, l, ⟨r, hx, h1⟩, h2⟩
      exact ⟨r, hx, (ih r).2 ⟨a, l, h1, h2⟩⟩
  | either β γ x g h ih1 ih2 =>
    intro R
    cases x with
    | inl a => exact ih1 a
    | inr b => exact ih2 b
theorem runs_bind {q : Q El α} {f : α → Q El β} {b : β} {l : List Nat} : (q >>= f).runs lk b l ↔ ∃ a l₁ l₂, q.runs lk a l₁ ∧ (f a).runs lk b l₂ ∧ l = l₁ ++ l₂ := by
  show (q.bind f).says lk _ ↔ _
  rw [says_bind, says_iff]
  constructor
  · rintro ⟨a, l₁, h1, h2⟩
    obtain ⟨b', l₂, h3, rfl, rfl⟩ := says_iff.1 h2
    exact ⟨a, l₁, l₂, h1, h3, rfl⟩
  · rintro ⟨a, l₁, l₂, h1, h3, rfl⟩
    exact ⟨a, l₁, h1, says_mono (fun b' l' h => ⟨h.1, by rw [h.2]⟩) h3⟩
theorem runs_ret {a b : α} {l : List Nat} : (Q.ret a : Q El α).runs lk b l ↔ b = a ∧ l = [] := ⟨fun h => ⟨h.1.symm, h.2.symm⟩, fun h => ⟨h.1.symm, h.2.symm⟩⟩
theorem runs_pure {a b : α} {l : List Nat} : (pure a : Q El α).runs lk b l ↔ b = a ∧ l = [] := runs_ret
theorem runs_fail {b : α} {l : List Nat} : (Q.fail : Q El α).runs lk b l ↔ False := Iff.rfl
theorem runs_get {o : Nat} {x : O El} {l : List Nat} : (getQ o).runs lk x l ↔ x = lk o ∧ l = [o] := ⟨fun h => ⟨h.1.symm, h.2.symm⟩, fun h => ⟨h.1.symm, h.2.symm⟩⟩
theorem runs_grd {b : Bool} {u : Unit} {l : List Nat} : (grd b : Q El Unit).runs lk u l ↔ b = true ∧ l = [] := by
  cases b with
  | true => exact runs_ret.trans ⟨fun h => ⟨rfl, h.2⟩, fun h => ⟨rfl, h.2⟩⟩
  | false => exact ⟨fun h => h.elim, fun h => by cases h.1⟩
theorem runs_nd {c : Prop} [Decidable c] {u : Unit} {l : List Nat} : (nd c : Q El Unit).runs lk u l ↔ c ∧ l = [] := ⟨fun h => ⟨h.1, h.2.2.symm⟩, fun h => ⟨h.1, rfl, h.2.symm⟩⟩
theorem runs_opt {x : Option α} {b : α} {l : List Nat} : (opt x : Q El α).runs lk b l ↔ x = some b ∧ l = [] := by
  cases x with
  | none => exact ⟨fun h => h.elim, fun h => by cases h.1⟩
  | some a => exact runs_ret.trans ⟨fun h => ⟨by rw [h.1], h.2⟩, fun h => ⟨(Option.some.inj h.1).symm, h.2⟩⟩
theorem runs_ndLe {a b : N} {u : Unit} {l : List Nat} : (ndLe a b : Q El Unit).runs lk u l ↔ a.v ≤ b.v ∧ l = [] := by
  unfold ndLe
  split
  · rw [runs_grd, decide_eq_true_eq]; rfl
  · exact runs_nd
theorem runs_ndEq {a : N} {n : Nat} {u : Unit} {l : List Nat} : (ndEq a n : Q El Unit).runs lk u l ↔ a.v = n ∧ l = [] := runs_nd
theorem add_v (a b : N) : (a.add b).v = a.v + b.v := by
  cases a <;> cases b <;> simp only [N.add]
  · rfl
  · split
    · rename_i h; subst h; simp [N.v]
    · rfl
  · split
    · rename_i h; subst h; simp [N.v]
    · rfl
  · rfl
theorem sub_v (a b : N) : (a.sub b).v = a.v - b.v := by
  cases a <;> cases b <;> simp only [N.sub]
  · rfl
  · rfl
  · split
    · rename_i h; subst h; simp [N.v]
    · rfl
  · rfl
theorem is0_v {a : N} (h : a.is0 = true) : a.v = 0 := by
  cases a with
  | l n => simpa [N.is0, N.v] using h
  | d _ _ => cases h
theorem rowsOf_length {t : Nat} (xs : List (El t)) (last : Option (N × El t)) : (rowsOf xs last).length = xs.length := by
  cases last with
  | none => rfl
  | some p => exact List.length_set ..
end Go.Proofs.YtmjmoagmolgacaaGreatDoor.PN
namespace Go.Proofs.YtmjmoagmolgacaaGreatDoor.PN
open Go Go.Proofs.YtmjmoagmolgacaaGreatDoor.PM
variable {G : Sg} {P : Program} {α β : Type} {lk : Nat → O G.El}
abbrev lkT (G : Sg) (lk : Nat → O G.El) : Nat → Ob := fun o => denO G (lk o)
theorem alive_den (x : O G.El) : (denO G x).alive = x.alive := by cases x <;> rfl
theorem ver_den (x : O G.El) : (denO G x).ver = x.ver := by cases x <;> rfl
theorem may_den (x : O G.El) : (denO G x).may = x.may := by cases x <;> rfl
theorem born_den (x : O G.El) : (denO G x).born = x.born := by cases x <;> rfl
theorem chkQ_ok : ∀ {src : Src} {u : Unit} {l : List Nat}, (chkQ src : Q G.El Unit).runs lk u l → (chk src).run (lkT G lk) = some ((), l)
  | [], u, l, h => by
    obtain ⟨_, rfl⟩ := runs_ret.1 h
    rfl
  | (o, v) :: r, u, l, h => by
    simp only [chkQ, runs_bind] at h
    obtain ⟨x, l1, l2, h1, ⟨u1, l3, l4, h2, h3, rfl⟩, rfl⟩ := h
    obtain ⟨rfl, rfl⟩ := runs_get.1 h1
    obtain ⟨g2, rfl⟩ := runs_grd.1 h2
    have := chkQ_ok h3
    simp only [chk]
    refine bind_some.2 ⟨denO G (lk o), [o], l4, obj_some.2 ⟨rfl, rfl⟩, bind_some.2 ⟨(), [], l4, guard_some.2 ⟨?_, rfl⟩, this, rfl⟩, rfl⟩
    rw [alive_den, ver_den]; exact g2
theorem winQ_ok {t : Nat} {full : Bool} {off len : N} {xs : List (G.El t)} {last : Option (N × G.El t)} {ys : List (G.El t)} {l : List Nat} (h : (winQ full off len xs last : Q G.El _).runs lk ys l) :
    l = [] ∧ off.v + len.v ≤ xs.length ∧ ys = ((rowsOf xs last).drop off.v).take len.v := by
  unfold winQ at h
  split at h
  · rename_i hf
    simp only [Bool.and_eq_true] at hf
    simp only [runs_bind] at h
    obtain ⟨u, l1, l2, h1, h2, rfl⟩ := h
    obtain ⟨g1, rfl⟩ := runs_ndEq.1 h1
    obtain ⟨rfl, rfl⟩ := runs_pure.1 h2
    have h0 := is0_v hf.2
    refine ⟨rfl, by omega, ?_⟩
    rw [h0, g1, List.drop_zero, ← rowsOf_length xs last, List.take_length]
  · split at h
    · rename_i hf
      simp only [runs_bind] at h
      obtain ⟨u, l1, l2, h1, h2, rfl⟩ := h
      obtain ⟨g1, rfl⟩ := runs_nd.1 h1
      obtain ⟨rfl, rfl⟩ := runs_pure.1 h2
      have h0 := is0_v hf
      exact ⟨rfl, by omega, by rw [h0, List.drop_zero]⟩
    · simp only [runs_bind] at h
      obtain ⟨u, l1, l2, h1, h2, rfl⟩ := h
      obtain ⟨g1, rfl⟩ := runs_nd.1 h1
      obtain ⟨rfl, rfl⟩ := runs_pure.1 h2
      exact ⟨rfl, g1, rfl⟩
theorem winT {t : Nat} {al mw kp : Bool} {ver : Nat} {xs : List (G.El t)} {last : Option (N × G.El t)} {off len : Nat} :
    (((denO G (.row al mw kp ver t xs last)).xs.drop off).take len) = (((rowsOf xs last).drop off).take len).map (G.enc t) := by
  simp [denO, List.map_take, List.map_drop]
theorem lenT {t : Nat} {al mw kp : Bool} {ver : Nat} {xs : List (G.El t)} {last : Option (N × G.El t)} : (denO G (.row al mw kp ver t xs last)).xs.length = xs.length := by
  simp [denO, rowsOf_length]
def seen : V G.El → Bool
  | .bl _ | .bp .. | .bb .. | .il .. | .id .. | .s _ | .s0 _ | .sl .. => true
  | _ => false
theorem viewQ_ok {v w : V G.El} {l : List Nat} (h : (viewQ v).runs lk w l) : (view1 (den1 G v)).run (lkT G lk) = some (den1 G w, l) ∧ seen w = true := by
  cases v with
  | bl b => obtain ⟨rfl, rfl⟩ := runs_ret.1 h; exact ⟨rfl, rfl⟩
  | bp n c d => obtain ⟨rfl, rfl⟩ := runs_ret.1 h; cases n <;> exact ⟨rfl, rfl⟩
  | bb n x => obtain ⟨rfl, rfl⟩ := runs_ret.1 h; cases n <;> exact ⟨rfl, rfl⟩
  | il k n => obtain ⟨rfl, rfl⟩ := runs_ret.1 h; exact ⟨rfl, rfl⟩
  | id k m n => obtain ⟨rfl, rfl⟩ := runs_ret.1 h; exact ⟨rfl, rfl⟩
  | s x => obtain ⟨rfl, rfl⟩ := runs_ret.1 h; exact ⟨rfl, rfl⟩
  | nil => obtain ⟨rfl, rfl⟩ := runs_ret.1 h; exact ⟨rfl, rfl⟩
  | s0 src =>
    simp only [viewQ, runs_bind] at h
    obtain ⟨u, l1, l2, h1, h2, rfl⟩ := h
    obtain ⟨rfl, rfl⟩ := runs_pure.1 h2
    exact ⟨bind_some.2 ⟨(), l1, [], chkQ_ok h1, rfl, rfl⟩, rfl⟩
  | sl t xs src =>
    simp only [viewQ, runs_bind] at h
    obtain ⟨u, l1, l2, h1, h2, rfl⟩ := h
    obtain ⟨rfl, rfl⟩ := runs_pure.1 h2
    exact ⟨bind_some.2 ⟨(), l1, [], chkQ_ok h1, rfl, rfl⟩, rfl⟩
  | win o full off len =>
    simp only [viewQ, runs_bind] at h
    obtain ⟨x, l1, l2, h1, h2, rfl⟩ := h
    obtain ⟨hx, rfl⟩ := runs_get.1 h1
    cases x with
    | row al mw kp ver t xs last =>
      simp only [runs_bind] at h2
      obtain ⟨u, l3, l4, h3, ⟨ys, l5, l6, h4, h5, rfl⟩, rfl⟩ := h2
      obtain ⟨g3, rfl⟩ := runs_grd.1 h3
      obtain ⟨rfl, h6, rfl⟩ := winQ_ok h4
      obtain ⟨rfl, rfl⟩ := runs_pure.1 h5
      refine ⟨bind_some.2 ⟨_, [o], [], obj_some.2 ⟨rfl, rfl⟩, bind_some.2 ⟨(), [], [], guard_some.2 ⟨?_, rfl⟩, ?_, rfl⟩, rfl⟩, rfl⟩
      · simp only [lkT, ← hx, lenT]
        simp only [denO, g3, Bool.and_true, Bool.true_and, decide_eq_true_eq]; exact h6
      · simp only [lkT, ← hx]
        refine pure_some.2 ⟨?_, rfl⟩
        simp only [den1, denO, List.map_take, List.map_drop]
        cases mw <;> rfl
    | box al mw ver k g cs => exact (runs_fail.1 h2).elim
    | gone => exact (runs_fail.1 h2).elim
  | ptr o i j => exact (runs_fail.1 h).elim
  | fn f c => exact (runs_fail.1 h).elim
  | agg cs => exact (runs_fail.1 h).elim
  | tup ts => exact (runs_fail.1 h).elim
  | rp t x j s => exact (runs_fail.1 h).elim
  | ifl b => exact (runs_fail.1 h).elim
  | ifd b => exact (runs_fail.1 h).elim
  | dead => exact (runs_fail.1 h).elim
theorem closeQ1_ok {v w : V G.El} {l : List Nat} (h : (closeQ1 v).runs lk w l) : (close1 (den1 G v)).run (lkT G lk) = some (den1 G w, l) ∧ seen w = true := by
  simp only [closeQ1, runs_bind] at h
  obtain ⟨u, l1, l2, h1, h2, rfl⟩ := h
  obtain ⟨h3, h4⟩ := viewQ_ok h1
  have key : ∀ d, (match d with | .sc v => pure (.sc v) | .sl xs [] => pure (.sl xs []) | _ => Rd.fail : Rd T).run (lkT G lk) = some (den1 G w, l2) → den1 G u = d → (close1 (den1 G v)).run (lkT G lk) = some (den1 G w, l1 ++ l2) := by
    intro d hd hu
    simp only [close1]
    refine bind_some.2 ⟨den1 G u, l1, l2, h3, ?_, rfl⟩
    rw [hu]; exact hd
  have scal : ∀ z, den1 G u = .sc z → (pure u : Q G.El (V G.El)).runs lk w l2 → (close1 (den1 G v)).run (lkT G lk) = some (den1 G w, l1 ++ l2) ∧ seen w = true := by
    intro z hz h2
    obtain ⟨rfl, rfl⟩ := runs_pure.1 h2
    exact ⟨key (.sc z) (by rw [hz]; rfl) hz, h4⟩
  cases u with
  | s0 src =>
    cases src with
    | nil => obtain ⟨rfl, rfl⟩ := runs_pure.1 h2; exact ⟨key (.sl [] []) rfl rfl, rfl⟩
    | cons a r => exact (runs_fail.1 h2).elim
  | sl t xs src =>
    cases src with
    | nil => obtain ⟨rfl, rfl⟩ := runs_pure.1 h2; exact ⟨key (.sl (xs.map (G.enc t)) []) rfl rfl, rfl⟩
    | cons a r => exact (runs_fail.1 h2).elim
  | bp n c d => cases n <;> exact scal _ rfl h2
  | bb n x => cases n <;> exact scal _ rfl h2
  | _ => first | exact scal _ rfl h2 | cases h4
theorem mapQ_ok {f : α → Q G.El β} {γ δ : Type} {g : γ → Rd δ} {a : α → γ} {b : β → δ} (hf : ∀ x, ∀ y l, (f x).runs lk y l → (g (a x)).run (lkT G lk) = some (b y, l)) :
    ∀ {xs : List α} {ys : List β} {l : List Nat}, (mapQ f xs).runs lk ys l → (mapR g (xs.map a)).run (lkT G lk) = some (ys.map b, l)
  | [], ys, l, h => by obtain ⟨rfl, rfl⟩ := runs_ret.1 h; rfl
  | x :: r, ys, l, h => by
    simp only [mapQ, runs_bind] at h
    obtain ⟨y, l1, l2, h1, ⟨zs, l3, l4, h2, h3, rfl⟩, rfl⟩ := h
    obtain ⟨rfl, rfl⟩ := runs_pure.1 h3
    exact bind_some.2 ⟨b y, l1, l3 ++ [], hf x y l1 h1, bind_some.2 ⟨zs.map b, l3, [], mapQ_ok hf h2, rfl, rfl⟩, rfl⟩
theorem mapQ_all {f : α → Q G.El β} {p : β → Prop} (hf : ∀ x y l, (f x).runs lk y l → p y) : ∀ {xs : List α} {ys : List β} {l : List Nat}, (mapQ f xs).runs lk ys l → ∀ y ∈ ys, p y
  | [], ys, l, h => by obtain ⟨rfl, rfl⟩ := runs_ret.1 h; intro y hy; cases hy
  | x :: r, ys, l, h => by
    simp only [mapQ, runs_bind] at h
    obtain ⟨y, l1, l2, h1, ⟨zs, l3, l4, h2, h3, rfl⟩, rfl⟩ := h
    obtain ⟨rfl, rfl⟩ := runs_pure.1 h3
    intro z hz
    rcases List.mem_cons.1 hz with rfl | hz
    · exact hf x _ l1 h1
    · exact mapQ_all hf h2 z hz
theorem mapQ_len {f : α → Q G.El β} : ∀ {xs : List α} {ys : List β} {l : List Nat}, (mapQ f xs).runs lk ys l → ys.length = xs.length
  | [], ys, l, h => by obtain ⟨rfl, rfl⟩ := runs_ret.1 h; rfl
  | x :: r, ys, l, h => by
    simp only [mapQ, runs_bind] at h
    obtain ⟨y, l1, l2, h1, ⟨zs, l3, l4, h2, h3, rfl⟩, rfl⟩ := h
    obtain ⟨rfl, rfl⟩ := runs_pure.1 h3
    simp [mapQ_len h2]
theorem close_den1 {v : V G.El} : close (den1 G v) = close1 (den1 G v) := by
  cases h : den1 G v with
  | agg cs => exact absurd h (den1_agg v cs)
  | _ => rfl
theorem closeQ_ok {v w : V G.El} {l : List Nat} (h : (closeQ v).runs lk w l) : (close (denA G v)).run (lkT G lk) = some (denA G w, l) ∧ okA w = true ∧ (cellsV w).all seen = true := by
  by_cases hv : ∃ cs, v = .agg cs
  · obtain ⟨cs, rfl⟩ := hv
    simp only [closeQ, runs_bind] at h
    obtain ⟨ys, l1, l2, h1, h2, rfl⟩ := h
    obtain ⟨rfl, rfl⟩ := runs_pure.1 h2
    refine ⟨bind_some.2 ⟨ys.map (den1 G), l1, [], mapQ_ok (a := den1 G) (b := den1 G) (fun x y l h => (closeQ1_ok h).1) h1, rfl, rfl⟩, rfl, ?_⟩
    exact List.all_eq_true.2 (mapQ_all (p := fun y => seen y = true) (fun x y l h => (closeQ1_ok h).2) h1)
  · have h1 : denA G v = den1 G v := denA_not_agg fun cs e => hv ⟨cs, e⟩
    have h2 : closeQ v = closeQ1 v := by cases v <;> first | rfl | exact absurd ⟨_, rfl⟩ hv
    rw [h2] at h
    obtain ⟨h3, h4⟩ := closeQ1_ok h
    have h5 : denA G w = den1 G w := denA_not_agg fun cs e => by rw [e] at h4; cases h4
    refine ⟨by rw [h1, h5, close_den1]; exact h3, ?_, ?_⟩
    · cases w <;> first | rfl | cases h4
    · have : cellsV w = [w] := by cases w <;> first | rfl | cases h4
      rw [this]; simp [h4]
end Go.Proofs.YtmjmoagmolgacaaGreatDoor.PN
namespace Go.Proofs.YtmjmoagmolgacaaGreatDoor.PN
open Go Go.Proofs.YtmjmoagmolgacaaGreatDoor.PM
variable {G : Sg} {P : Program} {α β : Type} {lk : Nat → O G.El}
theorem takeQ_ok {t : TypeId} {inf : TI G.El} (hi : TiOk P G t inf) {cs : List (V G.El)} {j : Nat} {w : V G.El} {l : List Nat} {look : Nat → Ob} (h : (takeQ inf cs j).runs lk w l) :
    (takeCells P t (cs.map (den1 G)) j).run look = some (denA G w, l) ∧ okA w = true ∧ l = [] ∧ ((∃ cs, w = .agg cs) ∨ ∃ c, w = cell1 c) := by
  simp only [takeQ, runs_bind, runs_grd, decide_eq_true_eq] at h
  obtain ⟨_, _, _, ⟨h1, rfl⟩, h2, rfl⟩ := h
  simp only [takeCells]
  have mk : ∀ (r : T), (if inf.agg = true then pure (T.agg (((cs.map (den1 G)).drop j).take inf.k)) else Rd.ofOption (cs.map (den1 G))[j]? : Rd T).run look = some (r, []) →
      (do let n ← Rd.ofOption (szT P t); let a ← Rd.ofOption (aggT P t); guardR (decide (j + n ≤ (cs.map (den1 G)).length)); if a = true then pure (T.agg (((cs.map (den1 G)).drop j).take n)) else Rd.ofOption (cs.map (den1 G))[j]? : Rd T).run look = some (r, []) := by
    intro r hr
    refine bind_some.2 ⟨inf.k, [], [], opt_some.2 ⟨hi.sz, rfl⟩, bind_some.2 ⟨inf.agg, [], [], opt_some.2 ⟨hi.ag, rfl⟩, bind_some.2 ⟨(), [], [], guard_some.2 ⟨by simp only [List.length_map, decide_eq_true_eq]; exact h1, rfl⟩, hr, rfl⟩, rfl⟩, rfl⟩
  cases hg : inf.agg with
  | true =>
    rw [hg] at h2
    obtain ⟨rfl, rfl⟩ := runs_pure.1 h2
    refine ⟨mk _ (by rw [hg]; simp [denA, List.map_take, List.map_drop]; rfl), rfl, rfl, .inl ⟨_, rfl⟩⟩
  | false =>
    rw [hg] at h2
    obtain ⟨h3, rfl⟩ := runs_opt.1 h2
    obtain ⟨c, hc, rfl⟩ := Option.map_eq_some_iff.1 h3
    refine ⟨mk _ ?_, by cases c <;> rfl, rfl, .inr ⟨c, rfl⟩⟩
    rw [hg, denA_cell1]
    simp only [Bool.false_eq_true, if_false]
    exact opt_some.2 ⟨by rw [List.getElem?_map, hc]; rfl, rfl⟩
theorem getRow_ok {t : Nat} {d : G.El t} {xs : List (G.El t)} {last : Option (N × G.El t)} {i : N} {x : G.El t} {l : List Nat} (h : (getRow d xs last i : Q G.El _).runs lk x l) : l = [] ∧ (rowsOf xs last)[i.v]? = some x ∧ i.v < xs.length := by
  simp only [getRow, runs_bind, runs_nd] at h
  obtain ⟨_, _, _, ⟨h1, rfl⟩, h2, rfl⟩ := h
  cases last with
  | none =>
    obtain ⟨rfl, rfl⟩ := runs_pure.1 h2
    refine ⟨rfl, ?_, h1⟩
    simp only [rowsOf, List.getD_eq_getElem?_getD, List.getElem?_eq_getElem h1]; rfl
  | some p =>
    obtain ⟨i', y⟩ := p
    simp only at h2
    split at h2
    · simp only [runs_bind, runs_nd, runs_pure] at h2
      obtain ⟨_, _, _, ⟨h3, rfl⟩, ⟨rfl, rfl⟩, rfl⟩ := h2
      refine ⟨rfl, ?_, h1⟩
      simp only [rowsOf]
      rw [← h3, List.getElem?_set_self h1]
    · obtain ⟨rfl, rfl⟩ := runs_pure.1 h2
      refine ⟨rfl, ?_, h1⟩
      have : i.v < (xs.set i'.v y).length := by rw [List.length_set]; exact h1
      simp only [rowsOf, List.getD_eq_getElem?_getD, List.getElem?_eq_getElem this]; rfl
theorem setRow_ok {t : Nat} {d : G.El t} {xs : List (G.El t)} {last : Option (N × G.El t)} {i : N} {x : G.El t} {l : List Nat} (h : (getRow d xs last i : Q G.El _).runs lk x l) (y : G.El t) :
    rowsOf (setRow xs last i) (some (i, y)) = (rowsOf xs last).set i.v y := by
  simp only [getRow, runs_bind, runs_nd] at h
  obtain ⟨_, _, _, ⟨h1, rfl⟩, h2, rfl⟩ := h
  cases last with
  | none => rfl
  | some p =>
    obtain ⟨i', z⟩ := p
    simp only [setRow]
    simp only at h2
    split at h2
    · rename_i hs
      simp only [runs_bind, runs_nd, runs_pure] at h2
      obtain ⟨_, _, _, ⟨h3, rfl⟩, ⟨rfl, rfl⟩, rfl⟩ := h2
      simp only [rowsOf]
      rw [← h3, List.set_set]
    · rfl
theorem box_cells {al mw : Bool} {ver k : Nat} {g : Bool} {cs : List (V G.El)} (h : oneOr g cs = true) : (wrapT g (cs.map (den1 G))).cells = cs.map (den1 G) := by
  refine wrapT_cells ?_ (fun c hc l e => ?_)
  · simp only [oneOr, Bool.or_eq_true, beq_iff_eq] at h
    rcases h with h | h
    · exact .inl h
    · right; rw [List.length_map]; exact h
  · obtain ⟨v, _, rfl⟩ := List.mem_map.1 hc
    exact den1_agg v l e
theorem putSrc_den {src : Src} (c : V G.El) : den1 G (putSrc src (cell1 c)) = match den1 G c with | .sl xs _ => .sl xs src | t => t := by
  cases c with
  | bp n c d => cases n <;> rfl
  | bb n x => cases n <;> rfl
  | _ => rfl
theorem loadQ_ok (ok : SgOk P G) {t : TypeId} {a w : V G.El} {l : List Nat} (h : (loadQ G t a).runs lk w l) : (loadR P t (denV G a)).run (lkT G lk) = some (denA G w, l) ∧ okA w = true := by
  simp only [loadQ, runs_bind, runs_opt] at h
  obtain ⟨inf, _, _, ⟨hi, rfl⟩, h2, rfl⟩ := h
  have hi := ok.ti t inf hi
  cases a with
  | ptr o i j =>
    simp only [runs_bind, runs_get] at h2
    obtain ⟨x, _, _, ⟨hx, rfl⟩, h3, rfl⟩ := h2
    cases x with
    | row al mw kp ver t' xs last =>
      simp only [runs_bind, runs_grd] at h3
      obtain ⟨_, _, _, ⟨hal, rfl⟩, ⟨x, _, l5, h4, h5, rfl⟩, rfl⟩ := h3
      obtain ⟨rfl, h6, _⟩ := getRow_ok h4
      obtain ⟨h7, h8, rfl, _⟩ := takeQ_ok (look := lkT G lk) hi h5
      refine ⟨?_, h8⟩
      show (loadR P t (.ptr o i.v j)).run _ = _
      simp only [loadR]
      refine bind_some.2 ⟨denO G (lk o), [o], [], obj_some.2 ⟨rfl, rfl⟩, bind_some.2 ⟨(), [], [], guard_some.2 ⟨by rw [← hx]; exact hal, rfl⟩, bind_some.2 ⟨G.enc t' x, [], [], opt_some.2 ⟨?_, rfl⟩, by rw [enc_cells ok]; exact h7, rfl⟩, rfl⟩, rfl⟩
      rw [← hx]
      simp only [denO, List.getElem?_map, h6]; rfl
    | box al mw ver k g cs =>
      simp only [runs_bind, runs_grd, Bool.and_eq_true] at h3
      obtain ⟨_, _, _, ⟨⟨⟨hal, hg⟩, h0⟩, rfl⟩, h5, rfl⟩ := h3
      obtain ⟨h7, h8, rfl, _⟩ := takeQ_ok (look := lkT G lk) hi h5
      refine ⟨?_, h8⟩
      show (loadR P t (.ptr o i.v j)).run _ = _
      simp only [loadR]
      refine bind_some.2 ⟨denO G (lk o), [o], [], obj_some.2 ⟨rfl, rfl⟩, bind_some.2 ⟨(), [], [], guard_some.2 ⟨by rw [← hx]; exact hal, rfl⟩, bind_some.2 ⟨wrapT g (cs.map (den1 G)), [], [], opt_some.2 ⟨?_, rfl⟩, ?_, rfl⟩, rfl⟩, rfl⟩
      · rw [← hx, is0_v h0]; rfl
      · rw [box_cells (al := al) (mw := mw) (ver := ver) (k := k) hg]; exact h7
    | gone => exact (runs_fail.1 h3).elim
  | rp t' x j src =>
    simp only [runs_bind] at h2
    obtain ⟨_, l3, _, h3, ⟨y, _, l6, h4, h5, rfl⟩, rfl⟩ := h2
    obtain ⟨h7, h8, rfl, h9⟩ := takeQ_ok (look := lkT G lk) hi h4
    have fin : ∀ r, okA w = true → l6 = [] → (match denA G y with | .agg cs => pure (T.agg (cs.map fun c => match c with | .sl xs _ => .sl xs src | c => c)) | .sl xs _ => pure (T.sl xs src) | y => pure y : Rd T).run (lkT G lk) = some (r, []) → r = denA G w →
        (loadR P t (denV G (.rp t' x j src))).run (lkT G lk) = some (denA G w, [] ++ (l3 ++ ([] ++ l6))) ∧ okA w = true := by
      intro r hw h0 hr hrw
      subst h0; subst hrw
      refine ⟨?_, hw⟩
      show (loadR P t (.rp (G.enc t' x) j src)).run _ = _
      simp only [loadR]
      refine bind_some.2 ⟨(), l3, [], chkQ_ok h3, bind_some.2 ⟨denA G y, [], [], by rw [enc_cells ok]; exact h7, hr, rfl⟩, by simp⟩
    rcases h9 with ⟨cs, rfl⟩ | ⟨c, rfl⟩
    · obtain ⟨rfl, rfl⟩ := runs_pure.1 h5
      refine fin _ rfl rfl rfl ?_
      simp only [denA, List.map_map]
      refine congrArg T.agg (List.map_congr_left fun c _ => ?_)
      simp only [Function.comp]
      rw [putSrc_den]
    · have h5 : (pure (putSrc src (cell1 c)) : Q G.El (V G.El)).runs lk w l6 := by
        cases c <;> exact h5
      obtain ⟨rfl, rfl⟩ := runs_pure.1 h5
      have e1 : okA (putSrc src (cell1 c)) = true := by cases c <;> rfl
      have e2 : denA G (putSrc src (cell1 c)) = den1 G (putSrc src (cell1 c)) := by cases c <;> rfl
      refine fin _ e1 rfl ?_ rfl
      rw [e2, putSrc_den, denA_cell1]
      cases hd : den1 G c with
      | agg cs => exact absurd hd (den1_agg c cs)
      | _ => rfl
  | _ => exact (runs_fail.1 h2).elim
theorem splice_den (cs vs : List (V G.El)) (j : Nat) : (spliceV cs j vs).map (den1 G) = splice (cs.map (den1 G)) j (vs.map (den1 G)) := by
  simp [spliceV, splice, List.map_take, List.map_drop]
theorem all_cellT {cs : List (V G.El)} (h : cs.all isCell = true) : (cs.map (den1 G)).all cellT = true := by
  simp only [List.all_map, List.all_eq_true] at h ⊢
  exact fun c hc => cellT_den1 (h c hc)
def denWr (G : Sg) (wr : List (Nat × O G.El)) : List (Nat × Ob) := wr.map fun p => (p.1, denO G p.2)
theorem storeQ_ok (ok : SgOk P G) {t : TypeId} {a v : V G.El} {wr : List (Nat × O G.El)} {l : List Nat} (h : (storeQ G t a v).runs lk wr l) : (storeR P t (denV G a) (denV G v)).run (lkT G lk) = some (denWr G wr, l) := by
  simp only [storeQ, runs_bind, runs_opt] at h
  obtain ⟨inf, _, _, ⟨hi, rfl⟩, h2, rfl⟩ := h
  have hi := ok.ti t inf hi
  cases a with
  | ptr o i j =>
    simp only [runs_bind, runs_get] at h2
    obtain ⟨x, _, _, ⟨hx, rfl⟩, h3, rfl⟩ := h2
    show (storeR P t (.ptr o i.v j) (denV G v)).run _ = _
    simp only [storeR]
    cases x with
    | row al mw kp ver t' xs last =>
      simp only [runs_bind, runs_grd, runs_opt, Bool.and_eq_true, beq_iff_eq, decide_eq_true_eq, runs_pure] at h3
      obtain ⟨_, _, _, ⟨⟨hal, hmw⟩, rfl⟩, ⟨x, _, _, h4, ⟨w, l7, _, h5, ⟨_, _, _, ⟨⟨⟨h6, h7⟩, h8⟩, rfl⟩, ⟨y, _, _, ⟨h9, rfl⟩, ⟨rfl, rfl⟩, rfl⟩, rfl⟩, rfl⟩, rfl⟩, rfl⟩ := h3
      obtain ⟨rfl, h10, _⟩ := getRow_ok h4
      obtain ⟨h11, h12, h13⟩ := closeQ_ok h5
      have hv : denV G v = denA G v := by
        refine denV_okA ?_
        cases v with
        | tup ts => exact (runs_fail.1 (show (Q.fail : Q G.El (V G.El)).runs lk w l7 from (by simp [closeQ, closeQ1, viewQ, runs_bind, runs_fail] at h5))).elim
        | rp t x j src => exact (runs_fail.1 (show (Q.fail : Q G.El (V G.El)).runs lk w l7 from (by simp [closeQ, closeQ1, viewQ, runs_bind, runs_fail] at h5))).elim
        | _ => rfl
      refine bind_some.2 ⟨denO G (lk o), [o], l7, obj_some.2 ⟨rfl, rfl⟩, bind_some.2 ⟨(), [], l7, guard_some.2 ⟨by rw [← hx]; simp [denO, hal, hmw], rfl⟩, bind_some.2 ⟨G.enc t' x, [], l7, opt_some.2 ⟨by rw [← hx]; simp [denO, h10], rfl⟩, bind_some.2 ⟨inf.k, [], l7, opt_some.2 ⟨hi.sz, rfl⟩, bind_some.2 ⟨denA G w, l7, [], ?_, bind_some.2 ⟨(), [], [], guard_some.2 ⟨?_, rfl⟩, ?_, rfl⟩, by simp⟩, rfl⟩, rfl⟩, rfl⟩, by simp⟩
      · rw [← hx, hv]; exact h11
      · rw [denA_cells, enc_cells ok]
        simp only [List.length_map, Bool.and_eq_true, beq_iff_eq, decide_eq_true_eq]
        exact ⟨⟨h6, all_cellT h7⟩, h8⟩
      · refine pure_some.2 ⟨?_, rfl⟩
        rw [← hx]
        simp only [denWr, List.map_cons, List.map_nil, denO]
        rw [setRow_ok h4, denA_cells, enc_cells ok, ← splice_den, enc_withCells ok (ok.mkC _ _ _ h9), List.map_set]
    | box al mw ver k g cs =>
      simp only [runs_bind, runs_grd, Bool.and_eq_true, beq_iff_eq, decide_eq_true_eq, runs_pure] at h3
      obtain ⟨_, _, _, ⟨⟨⟨⟨hal, hmw⟩, hg⟩, h0⟩, rfl⟩, ⟨_, _, _, ⟨⟨⟨h6, h7⟩, h8⟩, rfl⟩, ⟨rfl, rfl⟩, rfl⟩, rfl⟩ := h3
      have hv : denV G v = denA G v := by
        refine denV_okA ?_
        cases v with
        | tup ts => simp [cellsV, isCell] at h7
        | rp t x j src => simp [cellsV, isCell] at h7
        | _ => rfl
      have hbc := box_cells (G := G) (al := al) (mw := mw) (ver := ver) (k := k) hg
      refine bind_some.2 ⟨denO G (lk o), [o], [], obj_some.2 ⟨rfl, rfl⟩, bind_some.2 ⟨(), [], [], guard_some.2 ⟨by rw [← hx]; simp [denO, hal, hmw], rfl⟩, bind_some.2 ⟨wrapT g (cs.map (den1 G)), [], [], opt_some.2 ⟨by rw [← hx, is0_v h0]; rfl, rfl⟩, bind_some.2 ⟨inf.k, [], [], opt_some.2 ⟨hi.sz, rfl⟩, bind_some.2 ⟨denA G v, [], [], by rw [← hx, hv]; rfl, bind_some.2 ⟨(), [], [], guard_some.2 ⟨?_, rfl⟩, ?_, rfl⟩, by simp⟩, rfl⟩, rfl⟩, rfl⟩, by simp⟩
      · rw [denA_cells, hbc]
        simp only [List.length_map, Bool.and_eq_true, beq_iff_eq, decide_eq_true_eq]
        exact ⟨⟨h6, all_cellT h7⟩, h8⟩
      · refine pure_some.2 ⟨?_, rfl⟩
        rw [← hx, is0_v h0, denA_cells, hbc, ← splice_den]
        simp only [denWr, List.map_cons, List.map_nil, denO, List.set_cons_zero]
        have : (wrapT g (cs.map (den1 G))).withCells ((spliceV cs j (cellsV v)).map (den1 G)) = wrapT g ((spliceV cs j (cellsV v)).map (den1 G)) := by
          cases g with
          | true => rfl
          | false =>
            match cs, hg with
            | [c], _ =>
              simp only [List.map_cons, List.map_nil, wrapT]
              generalize (spliceV [c] j (cellsV v)).map (den1 G) = cs'
              cases hd : den1 G c with
              | agg l => exact absurd hd (den1_agg c l)
              | _ =>
                match cs' with
                | [] => rfl
                | [_] => rfl
                | _ :: _ :: _ => rfl
        rw [this]
    | gone => exact (runs_fail.1 h3).elim
  | _ => exact (runs_fail.1 h2).elim
end Go.Proofs.YtmjmoagmolgacaaGreatDoor.PN
namespace Go.Proofs.YtmjmoagmolgacaaGreatDoor.PN
open Go Go.Proofs.YtmjmoagmolgacaaGreatDoor.PM
variable {G : Sg} {P : Program} {α β : Type} {lk : Nat → O G.El} {look : Nat → Ob}
theorem boundQ_ok {v : V G.El} {n r : N} {l : List Nat} (h : (boundQ v n : Q G.El N).runs lk r l) : l = [] ∧ (bound (denV G v) n.v).run look = some (r.v, []) ∧ r.v ≤ n.v := by
  have fin : ∀ (k : IntKind) (x : Int), denV G v = .sc (.int k x) → 0 ≤ x → x ≤ (n.v : Int) → (bound (denV G v) n.v).run look = some (x.toNat, []) := by
    intro k x hv h0 h1
    rw [hv]
    simp only [bound]
    exact bind_some.2 ⟨x, [], [], opt_some.2 ⟨rfl, rfl⟩, bind_some.2 ⟨(), [], [], guard_some.2 ⟨by simp [h0, h1], rfl⟩, rfl, rfl⟩, rfl⟩
  cases v with
  | il k x =>
    simp only [boundQ, runs_bind, runs_grd, runs_ndLe, runs_pure, decide_eq_true_eq] at h
    obtain ⟨_, _, _, ⟨h1, rfl⟩, ⟨_, _, _, ⟨h2, rfl⟩, ⟨rfl, rfl⟩, rfl⟩, rfl⟩ := h
    have h2 : x.toNat ≤ n.v := h2
    exact ⟨rfl, fin k x rfl h1 (by omega), h2⟩
  | id k m x =>
    simp only [boundQ, runs_bind, runs_nd, runs_pure] at h
    obtain ⟨_, _, _, ⟨h1, rfl⟩, ⟨_, _, _, ⟨h2, rfl⟩, ⟨rfl, rfl⟩, rfl⟩, rfl⟩ := h
    exact ⟨rfl, fin k x rfl h1 h2, show x.toNat ≤ n.v by omega⟩
  | _ => exact (runs_fail.1 h).elim
theorem hiQ_ok {hi : Option (V G.El)} {n r : N} {l : List Nat} (h : (hiQ hi n : Q G.El N).runs lk r l) : l = [] ∧ (hiB (hi.map (denV G)) n.v).run look = some (r.v, []) ∧ r.v ≤ n.v := by
  cases hi with
  | none => obtain ⟨rfl, rfl⟩ := runs_ret.1 h; exact ⟨rfl, rfl, Nat.le_refl _⟩
  | some v => exact boundQ_ok h
theorem loQ_ok {lo : Option (V G.El)} {n r : N} {l : List Nat} (h : (loQ lo n : Q G.El N).runs lk r l) : l = [] ∧ (loB (lo.map (denV G)) n.v).run look = some (r.v, []) ∧ r.v ≤ n.v := by
  cases lo with
  | none => obtain ⟨rfl, rfl⟩ := runs_ret.1 h; exact ⟨rfl, rfl, Nat.zero_le _⟩
  | some v => exact boundQ_ok h
theorem intV_some {v : V G.El} {k : IntKind} {x : Int} {b : Bool} (h : intV v = some (k, x, b)) : den1 G v = .sc (.int k x) ∧ denV G v = .sc (.int k x) := by
  cases v <;> simp only [intV] at h
  all_goals first | (cases h; done) | (obtain ⟨rfl, rfl, rfl⟩ := Prod.mk.inj (Option.some.inj h) |>.imp id Prod.mk.inj; exact ⟨rfl, rfl⟩)
theorem sliceE_ok (ok : SgOk P G) {t : TypeId} {k : Nat} {l : List Nat} (h : (sliceE G t).runs lk k l) : l = [] ∧ ∃ e, elemT P t = some e ∧ szT P e = some k := by
  simp only [sliceE, runs_bind, runs_opt] at h
  obtain ⟨inf, _, _, ⟨hi, rfl⟩, h2, rfl⟩ := h
  have hk := (ok.ti t inf hi).kd
  split at h2
  · rename_i e c he
    rw [he] at hk
    simp only [runs_bind, runs_opt, runs_pure] at h2
    obtain ⟨ie, _, _, ⟨hie, rfl⟩, ⟨rfl, rfl⟩, rfl⟩ := h2
    refine ⟨rfl, e, ?_, (ok.ti e ie hie).sz⟩
    have hk : P.underlying t = some (.slice e) := hk
    simp only [elemT, hk]
  · exact (runs_fail.1 h2).elim
theorem elemQ_ok (ok : SgOk P G) {t : TypeId} {ec : Nat × Nat} {l : List Nat} (h : (elemQ G t).runs lk ec l) : l = [] ∧ elemT P t = some ec.1 ∧ szT P ec.1 = some (G.w ec.2) := by
  simp only [elemQ, runs_bind, runs_opt] at h
  obtain ⟨inf, _, _, ⟨hi, rfl⟩, h2, rfl⟩ := h
  have hk := (ok.ti t inf hi).kd
  split at h2
  · rename_i e c he
    rw [he] at hk
    simp only [runs_bind, runs_opt, runs_pure, runs_grd, beq_iff_eq] at h2
    obtain ⟨ie, _, _, ⟨hie, rfl⟩, ⟨_, _, _, ⟨hw, rfl⟩, ⟨rfl, rfl⟩, rfl⟩, rfl⟩ := h2
    have hk : P.underlying t = some (.slice e) := hk
    refine ⟨rfl, by simp only [elemT, hk], ?_⟩
    rw [hw]; exact (ok.ti e ie hie).sz
  · exact (runs_fail.1 h2).elim
theorem sliceQ_ok (ok : SgOk P G) {t : TypeId} {x w : V G.El} {lo hi mx : Option (V G.El)} {l : List Nat} (h : (sliceQ G t x lo hi mx).runs lk w l) :
    (sliceR P t (denV G x) (lo.map (denV G)) (hi.map (denV G)) (mx.map (denV G))).run (lkT G lk) = some (denA G w, l) ∧ isCell w = true := by
  simp only [sliceQ, runs_bind, runs_grd] at h
  obtain ⟨_, _, _, ⟨hm, rfl⟩, h2, rfl⟩ := h
  have hm' : (mx.map (denV G)).isNone = true := by cases mx <;> first | rfl | cases hm
  have pre : ∀ {m : Rd T} {r : T × List Nat}, m.run (lkT G lk) = some r → (do guardR (mx.map (denV G)).isNone; m : Rd T).run (lkT G lk) = some r := by
    intro m r hr
    obtain ⟨a, b⟩ := r
    exact bind_some.2 ⟨(), [], b, guard_some.2 ⟨hm', rfl⟩, hr, by simp⟩
  cases x with
  | s s =>
    simp only [runs_bind, runs_opt, runs_grd, runs_pure] at h2
    obtain ⟨inf, _, _, ⟨hinf, rfl⟩, ⟨_, _, _, ⟨hs, rfl⟩, ⟨hh, _, _, h3, ⟨ll, _, _, h4, ⟨rfl, rfl⟩, rfl⟩, rfl⟩, rfl⟩, rfl⟩ := h2
    obtain ⟨rfl, h5, _⟩ := hiQ_ok (look := lkT G lk) h3
    obtain ⟨rfl, h6, _⟩ := loQ_ok (look := lkT G lk) h4
    refine ⟨pre ?_, rfl⟩
    have hk := (ok.ti t inf hinf).kd
    have hu : P.underlying t = some .string := by
      cases hkd : inf.kd <;> rw [hkd] at hs hk <;> first | exact hk | cases hs
    show (do guardR (match P.underlying t with | some .string => true | _ => false); let h ← hiB (hi.map (denV G)) s.size; let l ← loB (lo.map (denV G)) h; pure (T.sc (.string (s.extract l h))) : Rd T).run _ = _
    rw [hu]
    exact bind_some.2 ⟨(), [], [], rfl, bind_some.2 ⟨_, [], [], h5, bind_some.2 ⟨_, [], [], h6, rfl, rfl⟩, rfl⟩, rfl⟩
  | nil =>
    simp only [runs_bind, runs_pure] at h2
    obtain ⟨k, _, _, hk, ⟨hh, _, _, h3, ⟨ll, _, _, h4, ⟨rfl, rfl⟩, rfl⟩, rfl⟩, rfl⟩ := h2
    obtain ⟨rfl, e, he, hk⟩ := sliceE_ok ok hk
    obtain ⟨rfl, h5, _⟩ := hiQ_ok (look := lkT G lk) h3
    obtain ⟨rfl, h6, _⟩ := loQ_ok (look := lkT G lk) h4
    refine ⟨pre ?_, rfl⟩
    exact bind_some.2 ⟨e, [], [], opt_some.2 ⟨he, rfl⟩, bind_some.2 ⟨k, [], [], opt_some.2 ⟨hk, rfl⟩, bind_some.2 ⟨_, [], [], h5, bind_some.2 ⟨_, [], [], h6, rfl, rfl⟩, rfl⟩, rfl⟩, rfl⟩
  | s0 src =>
    simp only [runs_bind, runs_pure] at h2
    obtain ⟨k, _, _, hk, ⟨hh, _, _, h3, ⟨ll, _, _, h4, ⟨rfl, rfl⟩, rfl⟩, rfl⟩, rfl⟩ := h2
    obtain ⟨rfl, e, he, hk⟩ := sliceE_ok ok hk
    obtain ⟨rfl, h5, _⟩ := hiQ_ok (look := lkT G lk) h3
    obtain ⟨rfl, h6, _⟩ := loQ_ok (look := lkT G lk) h4
    refine ⟨pre ?_, rfl⟩
    exact bind_some.2 ⟨e, [], [], opt_some.2 ⟨he, rfl⟩, bind_some.2 ⟨k, [], [], opt_some.2 ⟨hk, rfl⟩, bind_some.2 ⟨(), [], [], guard_some.2 ⟨rfl, rfl⟩, bind_some.2 ⟨_, [], [], h5, bind_some.2 ⟨_, [], [], h6, by simp [denA, den1, Rd.run, pure], rfl⟩, rfl⟩, rfl⟩, rfl⟩, rfl⟩
  | sl t' xs src =>
    simp only [runs_bind, runs_pure, widthQ, runs_grd, beq_iff_eq] at h2
    obtain ⟨k, _, _, hk, ⟨_, _, _, ⟨hw, rfl⟩, ⟨hh, _, _, h3, ⟨ll, _, _, h4, ⟨rfl, rfl⟩, rfl⟩, rfl⟩, rfl⟩, rfl⟩ := h2
    obtain ⟨rfl, e, he, hk⟩ := sliceE_ok ok hk
    obtain ⟨rfl, h5, _⟩ := hiQ_ok (look := lkT G lk) h3
    obtain ⟨rfl, h6, _⟩ := loQ_ok (look := lkT G lk) h4
    refine ⟨pre ?_, rfl⟩
    refine bind_some.2 ⟨e, [], [], opt_some.2 ⟨he, rfl⟩, bind_some.2 ⟨k, [], [], opt_some.2 ⟨hk, rfl⟩, bind_some.2 ⟨(), [], [], guard_some.2 ⟨by rw [← hw]; exact wid_enc ok t' xs, rfl⟩, bind_some.2 ⟨_, [], [], by rw [List.length_map]; exact h5, bind_some.2 ⟨_, [], [], h6, ?_, rfl⟩, rfl⟩, rfl⟩, rfl⟩, rfl⟩
    exact pure_some.2 ⟨by simp [denA, den1, List.map_take, List.map_drop], rfl⟩
  | win o full off len =>
    simp only [runs_bind, runs_get] at h2
    obtain ⟨k, _, _, hk, ⟨x, _, _, ⟨hx, rfl⟩, h3, rfl⟩, rfl⟩ := h2
    obtain ⟨rfl, e, he, hk⟩ := sliceE_ok ok hk
    cases x with
    | row al mw kp ver t' xs last =>
      simp only [runs_bind, runs_pure, widthQ, runs_grd, beq_iff_eq] at h3
      obtain ⟨_, _, _, ⟨hw, rfl⟩, ⟨hh, _, _, h3, ⟨ll, _, _, h4, ⟨rfl, rfl⟩, rfl⟩, rfl⟩, rfl⟩ := h3
      obtain ⟨rfl, h5, _⟩ := hiQ_ok (look := lkT G lk) h3
      obtain ⟨rfl, h6, _⟩ := loQ_ok (look := lkT G lk) h4
      refine ⟨pre ?_, rfl⟩
      refine bind_some.2 ⟨e, [], [o], opt_some.2 ⟨he, rfl⟩, bind_some.2 ⟨k, [], [o], opt_some.2 ⟨hk, rfl⟩, bind_some.2 ⟨denO G (lk o), [o], [], obj_some.2 ⟨rfl, rfl⟩, bind_some.2 ⟨(), [], [], guard_some.2 ⟨by rw [← hx, ← hw]; simp [denO], rfl⟩, bind_some.2 ⟨_, [], [], h5, bind_some.2 ⟨_, [], [], h6, ?_, rfl⟩, rfl⟩, rfl⟩, rfl⟩, rfl⟩, rfl⟩
      exact pure_some.2 ⟨by simp [denA, den1, add_v, sub_v], rfl⟩
    | _ => exact (runs_fail.1 h3).elim
  | _ => exact (runs_fail.1 h2).elim
theorem idxQ_ok {ix : V G.El} {n r : N} {l : List Nat} (h : (idxQ ix n : Q G.El N).runs lk r l) : l = [] ∧ ∃ k x, denV G ix = .sc (.int k x) ∧ 0 ≤ x ∧ x < (n.v : Int) ∧ r.v = x.toNat := by
  cases ix with
  | il k x =>
    cases n with
    | l n =>
      simp only [idxQ, runs_bind, runs_grd, runs_pure, Bool.and_eq_true, decide_eq_true_eq] at h
      obtain ⟨_, _, _, ⟨⟨h1, h2⟩, rfl⟩, ⟨rfl, rfl⟩, rfl⟩ := h
      exact ⟨rfl, k, x, rfl, h1, by simp only [N.v]; omega, rfl⟩
    | d m n =>
      simp only [idxQ, runs_bind, runs_grd, runs_nd, runs_pure, decide_eq_true_eq] at h
      obtain ⟨_, _, _, ⟨h1, rfl⟩, ⟨_, _, _, ⟨h2, rfl⟩, ⟨rfl, rfl⟩, rfl⟩, rfl⟩ := h
      exact ⟨rfl, k, x, rfl, h1, by simp only [N.v]; omega, rfl⟩
  | id k m x =>
    have h : (do nd (0 ≤ x); nd (x < ((n.v : Nat) : Int)); pure (.d m x.toNat) : Q G.El N).runs lk r l := by cases n <;> exact h
    simp only [runs_bind, runs_nd, runs_pure] at h
    obtain ⟨_, _, _, ⟨h1, rfl⟩, ⟨_, _, _, ⟨h2, rfl⟩, ⟨rfl, rfl⟩, rfl⟩, rfl⟩ := h
    exact ⟨rfl, k, x, rfl, h1, h2, rfl⟩
  | _ => cases n <;> exact (runs_fail.1 h).elim
theorem indexAddrQ_ok (ok : SgOk P G) {t : TypeId} {x ix w : V G.El} {l : List Nat} (h : (indexAddrQ G t x ix).runs lk w l) : (indexAddrR P t (denV G x) (denV G ix)).run (lkT G lk) = some (denV G w, l) := by
  simp only [indexAddrQ, runs_bind] at h
  obtain ⟨k, _, _, hk, h2, rfl⟩ := h
  obtain ⟨rfl, e, he, hk⟩ := sliceE_ok ok hk
  cases x with
  | sl t' xs src =>
    simp only [runs_bind, runs_pure, widthQ, runs_grd, beq_iff_eq] at h2
    obtain ⟨_, _, _, ⟨hw, rfl⟩, ⟨i, _, _, h3, ⟨rfl, rfl⟩, rfl⟩, rfl⟩ := h2
    obtain ⟨rfl, kk, z, h4, h5, h6, h7⟩ := idxQ_ok h3
    simp only [indexAddrR]
    have hlt : z.toNat < xs.length := by simp only [N.v] at h6; omega
    refine bind_some.2 ⟨z, [], [], opt_some.2 ⟨by rw [h4]; rfl, rfl⟩, ?_, rfl⟩
    refine bind_some.2 ⟨e, [], [], opt_some.2 ⟨he, rfl⟩, bind_some.2 ⟨k, [], [], opt_some.2 ⟨hk, rfl⟩, bind_some.2 ⟨(), [], [], guard_some.2 ⟨by simp [h5], rfl⟩, bind_some.2 ⟨G.enc t' (xs.getD z.toNat (G.inh t')), [], [], opt_some.2 ⟨?_, rfl⟩, bind_some.2 ⟨(), [], [], guard_some.2 ⟨?_, rfl⟩, ?_, rfl⟩, rfl⟩, rfl⟩, rfl⟩, rfl⟩
    · rw [List.getElem?_map, List.getD_eq_getElem?_getD, List.getElem?_eq_getElem hlt]; rfl
    · rw [enc_width ok, hw]; simp
    · rw [h7]; rfl
  | win o full off len =>
    simp only [runs_bind, runs_get] at h2
    obtain ⟨x, _, _, ⟨hx, rfl⟩, h3, rfl⟩ := h2
    cases x with
    | row al mw kp ver t' xs last =>
      simp only [runs_bind, runs_pure, widthQ, runs_grd, beq_iff_eq] at h3
      obtain ⟨_, _, _, ⟨hw, rfl⟩, ⟨i, _, _, h3, ⟨rfl, rfl⟩, rfl⟩, rfl⟩ := h3
      obtain ⟨rfl, kk, z, h4, h5, h6, h7⟩ := idxQ_ok h3
      simp only [indexAddrR]
      refine bind_some.2 ⟨z, [], [o], opt_some.2 ⟨by rw [h4]; rfl, rfl⟩, ?_, rfl⟩
      refine bind_some.2 ⟨e, [], [o], opt_some.2 ⟨he, rfl⟩, bind_some.2 ⟨k, [], [o], opt_some.2 ⟨hk, rfl⟩, bind_some.2 ⟨denO G (lk o), [o], [], obj_some.2 ⟨rfl, rfl⟩, bind_some.2 ⟨(), [], [], guard_some.2 ⟨?_, rfl⟩, ?_, rfl⟩, rfl⟩, rfl⟩, rfl⟩
      · rw [← hx, ← hw]; simp [denO, h5, h6]
      · exact pure_some.2 ⟨by simp [denV, denA, den1, add_v, h7], rfl⟩
    | _ => exact (runs_fail.1 h3).elim
  | _ => exact (runs_fail.1 h2).elim
theorem castL_ok {t e : Nat} {xs : List (G.El t)} {zs : List (G.El e)} (h : castL (e := e) xs = some zs) : t = e ∧ xs.map (G.enc t) = zs.map (G.enc e) ∧ xs.length = zs.length := by
  unfold castL at h
  split at h
  · rename_i he; subst he; obtain rfl := Option.some.inj h; exact ⟨rfl, rfl, rfl⟩
  · cases h
theorem elemsQ_ok (ok : SgOk P G) {e : Nat} {x : V G.El} {r : List (G.El e) × N} {l : List Nat} (h : (elemsQ G e x).runs lk r l) :
    (elemsR (denV G x)).run (lkT G lk) = some (r.1.map (G.enc e), l) ∧ r.2.v = r.1.length ∧ (∃ ys src, denV G x = .sl ys src) ∨ (elemsR (denV G x)).run (lkT G lk) = some (r.1.map (G.enc e), l) ∧ r.2.v = r.1.length ∧ ((∃ o a b, denV G x = .win o a b) ∨ denV G x = .nil) := by
  cases x with
  | nil => obtain ⟨rfl, rfl⟩ := runs_ret.1 h; exact .inr ⟨rfl, rfl, .inr rfl⟩
  | s0 src =>
    cases src with
    | nil => obtain ⟨rfl, rfl⟩ := runs_ret.1 h; exact .inl ⟨rfl, rfl, _, _, rfl⟩
    | cons a r => exact (runs_fail.1 h).elim
  | win o full off len =>
    simp only [elemsQ, runs_bind, runs_get] at h
    obtain ⟨x, _, _, ⟨hx, rfl⟩, h3, rfl⟩ := h
    cases x with
    | row al mw kp ver t' xs last =>
      simp only [runs_bind, runs_grd, runs_opt, runs_pure] at h3
      obtain ⟨_, _, _, ⟨hal, rfl⟩, ⟨ys, _, _, h4, ⟨zs, _, _, ⟨h5, rfl⟩, ⟨rfl, rfl⟩, rfl⟩, rfl⟩, rfl⟩ := h3
      obtain ⟨rfl, h6, rfl⟩ := winQ_ok h4
      obtain ⟨rfl, h7, h8⟩ := castL_ok h5
      refine .inr ⟨?_, ?_, .inl ⟨_, _, _, rfl⟩⟩
      · refine bind_some.2 ⟨denO G (lk o), [o], [], obj_some.2 ⟨rfl, rfl⟩, bind_some.2 ⟨(), [], [], guard_some.2 ⟨?_, rfl⟩, ?_, rfl⟩, rfl⟩
        · rw [← hx, lenT]; simp only [denO, hal, Bool.and_true, Bool.true_and, decide_eq_true_eq]; exact h6
        · refine pure_some.2 ⟨?_, rfl⟩
          rw [← hx, ← h7, winT]
      · show len.v = zs.length
        rw [← h8, List.length_take, List.length_drop, rowsOf_length]; omega
    | _ => exact (runs_fail.1 h3).elim
  | sl t xs src =>
    simp only [elemsQ, runs_bind, runs_opt] at h
    obtain ⟨zs, _, _, ⟨h5, rfl⟩, h3, rfl⟩ := h
    obtain ⟨rfl, h7, h8⟩ := castL_ok h5
    cases src with
    | nil =>
      obtain ⟨rfl, rfl⟩ := runs_pure.1 h3
      exact .inl ⟨by show (Rd.ret (xs.map (G.enc t))).run _ = _; rw [h7]; rfl, rfl, _, _, rfl⟩
    | cons a r =>
      simp only [runs_bind, runs_grd, runs_pure] at h3
      obtain ⟨_, l4, _, h4, ⟨_, _, _, ⟨h6, rfl⟩, ⟨rfl, rfl⟩, rfl⟩, rfl⟩ := h3
      refine .inl ⟨?_, rfl, _, _, rfl⟩
      exact bind_some.2 ⟨(), l4, [], chkQ_ok h4, bind_some.2 ⟨(), [], [], guard_some.2 ⟨flatL_enc ok h6 xs, rfl⟩, by rw [h7]; rfl, rfl⟩, rfl⟩
  | _ => exact (runs_fail.1 h).elim
end Go.Proofs.YtmjmoagmolgacaaGreatDoor.PN
namespace Go.Proofs.YtmjmoagmolgacaaGreatDoor.PN
open Go Go.Proofs.YtmjmoagmolgacaaGreatDoor.PM
variable {G : Sg} {P : Program} {α β : Type} {lk : Nat → O G.El} {look : Nat → Ob}
def denE (G : Sg) (e : Ef G.El) : Eff := ⟨denV G e.val, denWr G e.wr⟩
theorem zeroQ_ok {inf : TI G.El} {z : V G.El} {l : List Nat} (h : (zeroQ inf).runs lk z l) : l = [] ∧ inf.zero = some z ∧ okA z = true ∧ (cellsV z).length = inf.k := by
  simp only [zeroQ, runs_bind, runs_opt, runs_grd, runs_pure, Bool.and_eq_true, beq_iff_eq] at h
  obtain ⟨z', _, _, ⟨h1, rfl⟩, ⟨_, _, _, ⟨⟨h2, h3⟩, rfl⟩, ⟨rfl, rfl⟩, rfl⟩, rfl⟩ := h
  exact ⟨rfl, h1, h2, h3⟩
theorem strQ_ok (ok : SgOk P G) {e k : Nat} {tx : TypeId} {b : Bool} {l : List Nat} (h : (strQ G e k tx).runs lk b l) : l = [] ∧ (strR P e k tx).run look = some (b, []) := by
  simp only [strQ, runs_bind, runs_opt] at h
  obtain ⟨inf, _, _, ⟨hi, rfl⟩, h2, rfl⟩ := h
  have hk := (ok.ti tx inf hi).kd
  split at h2
  · rename_i e' c he
    rw [he] at hk
    simp only [runs_bind, runs_grd, runs_pure, beq_iff_eq] at h2
    obtain ⟨_, _, _, ⟨rfl, rfl⟩, ⟨rfl, rfl⟩, rfl⟩ := h2
    have hk : P.underlying tx = some (.slice e') := hk
    refine ⟨rfl, ?_⟩
    simp only [strR, hk, if_pos]; rfl
  · rename_i he
    rw [he] at hk
    simp only [runs_bind, runs_grd, runs_pure, beq_iff_eq] at h2
    obtain ⟨_, _, _, ⟨rfl, rfl⟩, ⟨rfl, rfl⟩, rfl⟩ := h2
    have hk : P.underlying tx = some .string := hk
    refine ⟨rfl, ?_⟩
    simp only [strR, hk, if_pos]; rfl
  · exact (runs_fail.1 h2).elim
theorem newsQ_ok (ok : SgOk P G) {e : Nat} {x : V G.El} {str : Bool} {r : List (G.El e) × N} {l : List Nat} (h : (newsQ G e x str).runs lk r l) :
    (newsR (denV G x) str).run (lkT G lk) = some (r.1.map (G.enc e), l) ∧ r.2.v = r.1.length := by
  cases str with
  | true =>
    cases x with
    | s s =>
      simp only [newsQ, runs_bind, runs_opt, runs_pure] at h
      obtain ⟨zs, _, _, ⟨h1, rfl⟩, ⟨rfl, rfl⟩, rfl⟩ := h
      have h2 := ok.ofStr _ _ _ h1
      refine ⟨?_, ?_⟩
      · show (Rd.ret (s.data.toList.map fun b => T.sc (.int .u8 (b.toNat : Int)))).run _ = _
        rw [← h2]; rfl
      · have h3 := congrArg List.length h2
        rw [List.length_map, List.length_map, Array.length_toList] at h3
        exact h3.symm
    | _ => exact (runs_fail.1 h).elim
  | false =>
    have h : (elemsQ G e x).runs lk r l := h
    rcases elemsQ_ok ok h with ⟨h1, h2, ys, src, hx⟩ | ⟨h1, h2, ⟨o, a, b, hx⟩ | hx⟩ <;> refine ⟨?_, h2⟩ <;> rw [hx] at h1 ⊢ <;> exact h1
theorem ndMost_ok {n : N} {by_ : Nat} {u : Unit} {l : List Nat} (h : (ndMost n by_ : Q G.El Unit).runs lk u l) : l = [] ∧ n.v * by_ ≤ most ∧ n.v ≤ most := by
  cases n with
  | l n =>
    simp only [ndMost, runs_grd, decide_eq_true_eq] at h
    exact ⟨h.2, h.1⟩
  | d m n =>
    simp only [ndMost, runs_bind, runs_nd] at h
    obtain ⟨_, _, _, ⟨h1, rfl⟩, ⟨h2, rfl⟩, rfl⟩ := h
    exact ⟨rfl, h1, h2⟩
theorem kill_den (x : O G.El) (h : x.born = true) : denO G x.kill = (denO G x).kill := by cases x <;> first | rfl | cases h
theorem okA_width {z : V G.El} (h : okA z = true) : (denA G z).width = (cellsV z).length := by
  show (denA G z).cells.length = _
  rw [denA_cells, List.length_map]
theorem appendQ_ok (ok : SgOk P G) {ts : Array TypeId} {a x : V G.El} {base : Nat} {e : Ef G.El} {l : List Nat} (h : (appendQ G ts a x base).runs lk e l) :
    (appendR P ts (denV G a) (denV G x) base).run (lkT G lk) = some (denE G e, l) := by
  simp only [appendQ, runs_bind, runs_opt] at h
  obtain ⟨t0, _, _, ⟨ht0, rfl⟩, ⟨ec, _, _, hec, ⟨ie, _, _, ⟨hie, rfl⟩, ⟨z, _, _, hz, ⟨tx, _, _, ⟨htx, rfl⟩, ⟨str, _, _, hstr, ⟨ns, l9, _, hns, h2, rfl⟩, rfl⟩, rfl⟩, rfl⟩, rfl⟩, rfl⟩, rfl⟩ := h
  obtain ⟨rfl, he, hw⟩ := elemQ_ok ok hec
  have hie := ok.ti _ _ hie
  obtain ⟨rfl, hz1, hz2, hz3⟩ := zeroQ_ok hz
  obtain ⟨rfl, hstrT⟩ := strQ_ok ok (look := lkT G lk) hstr
  obtain ⟨hns1, hns2⟩ := newsQ_ok ok hns
  have hk : ie.k = G.w ec.2 := Option.some.inj (hie.sz.symm.trans hw)
  rw [hk] at hstrT
  have pre : ∀ {r : Eff} {l2 : List Nat}, (match denV G a with
      | .nil => do
        guardR (decide ((ns.1.map (G.enc ec.2)).length * ie.bytes ≤ most ∧ (ns.1.map (G.enc ec.2)).length ≤ most))
        pure ⟨.win base 0 (ns.1.map (G.enc ec.2)).length, [(base, Ob.mkRow (G.w ec.2) (ns.1.map (G.enc ec.2)))]⟩
      | .win o 0 len => do
        let ob ← obj o
        guardR (ob.alive && ob.may && ob.row && ob.k == G.w ec.2 && decide (len ≤ ob.xs.length) && decide ((len + (ns.1.map (G.enc ec.2)).length) * ie.bytes ≤ most ∧ len + (ns.1.map (G.enc ec.2)).length ≤ most))
        pure ⟨.win base 0 (len + (ns.1.map (G.enc ec.2)).length), [(o, ob.kill), (base, Ob.mkRow (G.w ec.2) (ob.xs.take len ++ ns.1.map (G.enc ec.2)))]⟩
      | _ => .fail : Rd Eff).run (lkT G lk) = some (r, l2) → (appendR P ts (denV G a) (denV G x) base).run (lkT G lk) = some (r, l9 ++ l2) := by
    intro r l2 hr
    simp only [appendR]
    refine bind_some.2 ⟨ec.1, [], _, opt_some.2 ⟨by rw [ht0]; exact he, rfl⟩, bind_some.2 ⟨G.w ec.2, [], _, opt_some.2 ⟨hw, rfl⟩, bind_some.2 ⟨ie.bytes, [], _, opt_some.2 ⟨hie.by_, rfl⟩, bind_some.2 ⟨denA G z, [], _, opt_some.2 ⟨hie.ze z hz1, rfl⟩, bind_some.2 ⟨tx, [], _, opt_some.2 ⟨htx, rfl⟩, bind_some.2 ⟨str, [], _, hstrT, bind_some.2 ⟨ns.1.map (G.enc ec.2), l9, l2, hns1, bind_some.2 ⟨(), [], l2, guard_some.2 ⟨?_, rfl⟩, hr, rfl⟩, rfl⟩, rfl⟩, rfl⟩, rfl⟩, rfl⟩, rfl⟩, by simp⟩
    rw [wid_enc ok, okA_width hz2, hz3, hk]; simp
  simp only [List.nil_append]
  cases a with
  | nil =>
    simp only [runs_bind, runs_pure] at h2
    obtain ⟨_, _, _, h3, ⟨rfl, rfl⟩, rfl⟩ := h2
    obtain ⟨rfl, h4, h5⟩ := ndMost_ok h3
    refine pre ?_
    refine bind_some.2 ⟨(), [], [], guard_some.2 ⟨?_, rfl⟩, pure_some.2 ⟨?_, rfl⟩, rfl⟩
    · rw [List.length_map, ← hns2]; exact decide_eq_true ⟨h4, h5⟩
    · rw [List.length_map, ← hns2]; rfl
  | win o full off len =>
    simp only [runs_bind, runs_grd, runs_get] at h2
    obtain ⟨_, _, _, ⟨h0, rfl⟩, ⟨x', _, _, ⟨hx, rfl⟩, h3, rfl⟩, rfl⟩ := h2
    cases x' with
    | row al mw kp ver t xs last =>
      simp only [runs_bind, runs_grd, runs_opt, runs_pure, Bool.and_eq_true] at h3
      obtain ⟨_, _, _, ⟨⟨hal, hmw⟩, rfl⟩, ⟨ys, _, _, h4, ⟨zs, _, _, ⟨h5, rfl⟩, ⟨_, _, _, h6, ⟨rfl, rfl⟩, rfl⟩, rfl⟩, rfl⟩, rfl⟩ := h3
      obtain ⟨rfl, h7, rfl⟩ := winQ_ok h4
      obtain ⟨rfl, h8, _⟩ := castL_ok h5
      obtain ⟨rfl, h9, h10⟩ := ndMost_ok h6
      rw [add_v] at h9 h10
      have hl0 : (N.l 0).v = 0 := rfl
      rw [hl0] at h7 h8
      refine pre ?_
      have : denV G (.win o full off len) = T.win o 0 len.v := by show T.win o off.v len.v = _; rw [is0_v h0]
      rw [this]
      refine bind_some.2 ⟨denO G (lk o), [o], [], obj_some.2 ⟨rfl, rfl⟩, bind_some.2 ⟨(), [], [], guard_some.2 ⟨?_, rfl⟩, pure_some.2 ⟨?_, rfl⟩, rfl⟩, rfl⟩
      · rw [← hx, lenT, List.length_map, ← hns2]
        simp only [denO, hal, hmw, Bool.and_true, Bool.true_and, beq_self_eq_true, Bool.and_eq_true, decide_eq_true_eq]
        exact ⟨by omega, h9, h10⟩
      · rw [← hx, List.length_map, ← hns2]
        simp only [denE, denV, denA, den1, denWr, List.map_cons, List.map_nil, add_v, hl0]
        rw [kill_den _ rfl]
        simp only [Eff.mk.injEq, T.win.injEq, true_and, List.cons.injEq, Prod.mk.injEq, and_true]
        have hn : rowsOf (zs ++ ns.1) none = zs ++ ns.1 := rfl
        simp only [denO, hn, List.map_append]
        rw [← h8]
        simp [Ob.mkRow, List.map_take]
    | _ => exact (runs_fail.1 h3).elim
  | _ => exact (runs_fail.1 h2).elim
theorem intN_den (nm : Nat) (n : N) : denV G (intN .i64 nm n) = .sc (.int .i64 (n.v : Nat)) := by cases n <;> rfl
theorem lenQ_ok (ok : SgOk P G) {ts : Array TypeId} {x w : V G.El} {base : Nat} {l : List Nat} (h : (lenQ G ts x base).runs lk w l) : (lenR P ts (denV G x)).run (lkT G lk) = some (denV G w, l) := by
  simp only [lenQ, runs_bind, runs_opt] at h
  obtain ⟨t, _, _, ⟨ht, rfl⟩, ⟨inf, _, _, ⟨hi, rfl⟩, h2, rfl⟩, rfl⟩ := h
  have hk := (ok.ti t inf hi).kd
  have pre : ∀ {r : T} {l2 : List Nat}, (match P.underlying t, denV G x with
    | some .string, .sc (.string s) => pure (.sc (.int .i64 s.size))
    | some (.slice _), .nil => pure (.sc (.int .i64 0))
    | some (.slice _), .sl xs src => do chk src; pure (.sc (.int .i64 xs.length))
    | some (.slice _), .win _ _ len => pure (.sc (.int .i64 len))
    | some (.array n _), _ => pure (.sc (.int .i64 n))
    | _, _ => .fail : Rd T).run (lkT G lk) = some (r, l2) → (lenR P ts (denV G x)).run (lkT G lk) = some (r, [] ++ ([] ++ l2)) := by
    intro r l2 hr
    exact bind_some.2 ⟨t, [], l2, opt_some.2 ⟨ht, rfl⟩, hr, rfl⟩
  split at h2
  · rename_i s he
    rw [he] at hk
    obtain ⟨rfl, rfl⟩ := runs_pure.1 h2
    refine pre ?_
    rw [show P.underlying t = some .string from hk]; rfl
  · rename_i e c he
    rw [he] at hk
    obtain ⟨rfl, rfl⟩ := runs_pure.1 h2
    refine pre ?_
    rw [show P.underlying t = some (.slice e) from hk]; rfl
  · rename_i e c src he
    rw [he] at hk
    simp only [runs_bind, runs_pure] at h2
    obtain ⟨_, l3, _, h3, ⟨rfl, rfl⟩, rfl⟩ := h2
    refine pre ?_
    rw [show P.underlying t = some (.slice e) from hk]
    exact bind_some.2 ⟨(), l3, [], chkQ_ok h3, rfl, rfl⟩
  · rename_i e c t' xs src he
    rw [he] at hk
    simp only [runs_bind, runs_pure] at h2
    obtain ⟨_, l3, _, h3, ⟨rfl, rfl⟩, rfl⟩ := h2
    refine pre ?_
    rw [show P.underlying t = some (.slice e) from hk]
    exact bind_some.2 ⟨(), l3, [], chkQ_ok h3, by rw [List.length_map]; rfl, rfl⟩
  · rename_i e c o f off len he
    rw [he] at hk
    obtain ⟨rfl, rfl⟩ := runs_pure.1 h2
    refine pre ?_
    rw [show P.underlying t = some (.slice e) from hk, intN_den]; rfl
  · rename_i n e he
    rw [he] at hk
    obtain ⟨rfl, rfl⟩ := runs_pure.1 h2
    refine pre ?_
    rw [show P.underlying t = some (.array n e) from hk]; rfl
  · exact (runs_fail.1 h2).elim
theorem fillV_ok : ∀ {parts : List (Nat × V G.El)} {fs : List (Nat × Nat)} {cells r : List (V G.El)}, (∀ p ∈ parts, okA p.2 = true) → fillV fs cells parts = some r → fillR P fs (cells.map (den1 G)) (parts.map fun p => (p.1, denV G p.2)) = some (r.map (den1 G))
  | [], fs, cells, r, _, h => by obtain rfl := Option.some.inj h; rfl
  | (i, v) :: ps, fs, cells, r, hp, h => by
    simp only [fillV] at h
    have hv : denV G v = denA G v := denV_okA (hp (i, v) (by simp))
    simp only [List.map_cons, fillR, hv, denA_cells, List.length_map]
    split at h
    · rename_i off n hf
      split at h
      · rename_i hc
        rw [hf]
        simp only
        rw [if_pos hc, ← splice_den]
        exact fillV_ok (fun p hm => hp p (by simp [hm])) h
      · cases h
    · cases h
theorem buildQ_ok (ok : SgOk P G) {t : TypeId} {parts : List (Nat × V G.El)} {w : V G.El} {l : List Nat} (h : (buildQ G t parts).runs lk w l) :
    (buildR P t (parts.map fun p => (p.1, denV G p.2))).run (lkT G lk) = some (denV G w, l) := by
  simp only [buildQ, runs_bind, runs_opt] at h
  obtain ⟨inf, _, _, ⟨hi, rfl⟩, ⟨z, _, _, ⟨hz, rfl⟩, ⟨fs, lf, _, hfs, ⟨_, _, _, hg, ⟨cs, _, _, ⟨hcs, rfl⟩, hw, rfl⟩, rfl⟩, rfl⟩, rfl⟩, rfl⟩ := h
  obtain ⟨rfl, rfl⟩ := runs_pure.1 hw
  obtain ⟨g1, rfl⟩ := runs_grd.1 hg
  have hi := ok.ti t inf hi
  simp only [Bool.and_eq_true, List.all_eq_true] at g1
  obtain ⟨⟨hz1, hz2⟩, hp⟩ := g1
  have hF : fieldsT P t = some fs ∧ lf = [] := by
    have hk := hi.kd
    split at hfs
    · rename_i fs' he
      rw [he] at hk
      obtain ⟨h1, h2⟩ := runs_opt.1 hfs
      exact ⟨hk.2 _ h1, h2⟩
    · rename_i n e he
      rw [he] at hk
      simp only [runs_bind, runs_opt, runs_pure] at hfs
      obtain ⟨ie, _, _, ⟨h1, rfl⟩, ⟨rfl, rfl⟩, rfl⟩ := hfs
      refine ⟨?_, rfl⟩
      have hk : P.underlying t = some (.array n e) := hk
      simp only [fieldsT, hk, (ok.ti e ie h1).sz]; rfl
    · exact (runs_fail.1 hfs).elim
  obtain ⟨hF, rfl⟩ := hF
  simp only [buildR]
  refine bind_some.2 ⟨denA G z, [], [], opt_some.2 ⟨hi.ze z hz, rfl⟩, bind_some.2 ⟨fs, [], [], opt_some.2 ⟨hF, rfl⟩, bind_some.2 ⟨(), [], [], guard_some.2 ⟨?_, rfl⟩, bind_some.2 ⟨cs.map (den1 G), [], [], opt_some.2 ⟨?_, rfl⟩, rfl, rfl⟩, rfl⟩, rfl⟩, rfl⟩
  · rw [denA_cells, all_cellT (List.all_eq_true.2 hz2)]
    simp only [Bool.true_and, List.all_map, List.all_eq_true, Function.comp]
    intro p hm
    obtain ⟨h1, h2⟩ := hp p hm
    rw [denV_okA h1, denA_cells]
    exact List.all_eq_true.1 (all_cellT (List.all_eq_true.2 h2))
  · rw [denA_cells]
    exact fillV_ok (fun p hm => (hp p hm).1) hcs
theorem elQ_ok (ok : SgOk P G) {e : Nat} {k : Nat} {v : V G.El} {y : G.El e} {l : List Nat} (h : (elQ G e k v).runs lk y l) :
    (close (denV G v)).run (lkT G lk) = some (G.enc e y, l) ∧ (G.cells e y).length = k := by
  simp only [elQ, runs_bind, runs_grd, runs_opt, beq_iff_eq, Bool.and_eq_true] at h
  obtain ⟨w, l1, _, h1, ⟨_, _, _, ⟨⟨⟨h2, hA⟩, hv⟩, rfl⟩, ⟨h3, rfl⟩, rfl⟩, rfl⟩ := h
  obtain ⟨h4, h5, h6⟩ := closeQ_ok h1
  rw [denV_okA hv]
  have hm := ok.mkC _ _ _ h3
  have hl : (cellsV w).length = (G.cells e y).length := by have := congrArg List.length hm; simpa using this
  refine ⟨?_, by rw [← hl, h2]⟩
  have : denA G w = G.enc e y := by
    rw [ok.enc, ← hA]
    by_cases hw : ∃ cs, w = .agg cs
    · obtain ⟨cs, rfl⟩ := hw
      exact congrArg T.agg hm
    · have h7 : isAgg w = false := by cases w <;> first | rfl | exact absurd ⟨_, rfl⟩ hw
      have hc : cellsV w = [w] := by cases w <;> first | rfl | exact absurd ⟨_, rfl⟩ hw
      have hd : denA G w = den1 G w := denA_not_agg fun cs e => hw ⟨cs, e⟩
      rw [hc] at hm
      rw [hd, h7, ← hm]; rfl
  rw [← this]
  simpa using h4
theorem setAllV_ok {e : Nat} : ∀ {ps : List (Nat × G.El e)} {xs : List (G.El e)}, (setAllV xs ps).map (G.enc e) = setAll (xs.map (G.enc e)) (ps.map fun p => (p.1, G.enc e p.2))
  | [], xs => rfl
  | (i, v) :: r, xs => by simp only [setAllV, List.map_cons, setAll]; rw [setAllV_ok, List.map_set]
theorem buildSliceQ_ok (ok : SgOk P G) {t : TypeId} {n : Nat} {parts : List (Nat × V G.El)} {base : Nat} {e : Ef G.El} {l : List Nat} (h : (buildSliceQ G t n parts base).runs lk e l) :
    (buildSliceR P t n (parts.map fun p => (p.1, denV G p.2)) base).run (lkT G lk) = some (denE G e, l) := by
  simp only [buildSliceQ, runs_bind, runs_opt, runs_grd, Bool.and_eq_true, decide_eq_true_eq] at h
  obtain ⟨ec, _, _, hec, ⟨ie, _, _, ⟨hie, rfl⟩, ⟨z, _, _, hz, ⟨_, _, _, ⟨⟨h1, h2⟩, rfl⟩, ⟨ps, l5, _, hps, ⟨zc, l7, _, hzc, ⟨_, _, _, ⟨hall, rfl⟩, hw, rfl⟩, rfl⟩, rfl⟩, rfl⟩, rfl⟩, rfl⟩, rfl⟩ := h
  obtain ⟨rfl, rfl⟩ := runs_pure.1 hw
  obtain ⟨rfl, he, hwd⟩ := elemQ_ok ok hec
  have hie := ok.ti _ _ hie
  obtain ⟨rfl, hz1, hz2, hz3⟩ := zeroQ_ok hz
  have hk : ie.k = G.w ec.2 := Option.some.inj (hie.sz.symm.trans hwd)
  obtain ⟨hzc1, hzc2⟩ := elQ_ok ok hzc
  have hP : (mapR (fun p : Nat × T => do let v ← close p.2; pure (p.1, v)) (parts.map fun p => (p.1, denV G p.2))).run (lkT G lk) = some (ps.map fun p => (p.1, G.enc ec.2 p.2), l5) := by
    refine mapQ_ok (a := fun p : Nat × V G.El => (p.1, denV G p.2)) (b := fun p : Nat × G.El ec.2 => (p.1, G.enc ec.2 p.2)) ?_ hps
    intro p q l hq
    simp only [runs_bind, runs_pure] at hq
    obtain ⟨y, l1, _, hy, ⟨rfl, rfl⟩, rfl⟩ := hq
    exact bind_some.2 ⟨_, l1, [], (elQ_ok ok hy).1, rfl, rfl⟩
  simp only [buildSliceR]
  refine bind_some.2 ⟨ec.1, [], _, opt_some.2 ⟨he, rfl⟩, bind_some.2 ⟨G.w ec.2, [], _, opt_some.2 ⟨hwd, rfl⟩, bind_some.2 ⟨denA G z, [], _, opt_some.2 ⟨hie.ze z hz1, rfl⟩, bind_some.2 ⟨(), [], _, guard_some.2 ⟨?_, rfl⟩, bind_some.2 ⟨_, l5, _, hP, bind_some.2 ⟨_, l7, _, by rw [← denV_okA hz2]; exact hzc1, bind_some.2 ⟨(), [], [], guard_some.2 ⟨?_, rfl⟩, pure_some.2 ⟨?_, rfl⟩, rfl⟩, rfl⟩, rfl⟩, rfl⟩, rfl⟩, rfl⟩, by simp⟩
  · rw [← hk]; simp [h1, h2]
  · rw [enc_width ok]
    simp only [List.all_map, Bool.and_eq_true, List.all_eq_true, Function.comp, beq_self_eq_true, and_true]
    intro p hp
    rw [enc_width ok]
    exact ⟨List.all_eq_true.1 hall p hp, by simp⟩
  · simp only [denE, denV, denA, den1, denWr, List.map_cons, List.map_nil, denO, N.v, rowsOf]
    rw [setAllV_ok, List.map_replicate]
theorem makeSliceQ_ok (ok : SgOk P G) {t : TypeId} {lv cv : V G.El} {base : Nat} {e : Ef G.El} {l : List Nat} (h : (makeSliceQ G t lv cv base).runs lk e l) :
    (makeSliceR P t (denV G lv) (denV G cv) base).run (lkT G lk) = some (denE G e, l) := by
  simp only [makeSliceQ, runs_bind, runs_opt, runs_grd, decide_eq_true_eq] at h
  obtain ⟨ec, _, _, hec, ⟨ie, _, _, ⟨hie, rfl⟩, ⟨z, _, _, hz, ⟨_, _, _, ⟨h1, rfl⟩, h2, rfl⟩, rfl⟩, rfl⟩, rfl⟩ := h
  obtain ⟨rfl, he, hwd⟩ := elemQ_ok ok hec
  have hie := ok.ti _ _ hie
  obtain ⟨rfl, hz1, hz2, hz3⟩ := zeroQ_ok hz
  have hk : ie.k = G.w ec.2 := Option.some.inj (hie.sz.symm.trans hwd)
  have fin : ∀ (kn km : IntKind) (n m : Int) (r : N) (l7 : List Nat), intOf (denV G lv) = some n → intOf (denV G cv) = some m → r.v = n.toNat → 0 ≤ n → n ≤ m → m * ie.bytes ≤ most → m ≤ most →
      (do let zc ← elQ G ec.2 ie.k z; pure ⟨.win base true (.l 0) r, [(base, .row true true true 0 ec.2 (List.replicate n.toNat zc) none)]⟩ : Q G.El (Ef G.El)).runs lk e l7 → (makeSliceR P t (denV G lv) (denV G cv) base).run (lkT G lk) = some (denE G e, l7) := by
    intro kn km n m r l7 hn hm hr g1 g2 g3 g4 hrun
    simp only [runs_bind] at hrun
    obtain ⟨zc, l8, _, hzc, hw, rfl⟩ := hrun
    obtain ⟨rfl, rfl⟩ := runs_pure.1 hw
    obtain ⟨hzc1, hzc2⟩ := elQ_ok ok hzc
    simp only [makeSliceR]
    refine bind_some.2 ⟨ec.1, [], _, opt_some.2 ⟨he, rfl⟩, bind_some.2 ⟨G.w ec.2, [], _, opt_some.2 ⟨hwd, rfl⟩, bind_some.2 ⟨denA G z, [], _, opt_some.2 ⟨hie.ze z hz1, rfl⟩, bind_some.2 ⟨ie.bytes, [], _, opt_some.2 ⟨hie.by_, rfl⟩, bind_some.2 ⟨n, [], _, opt_some.2 ⟨hn, rfl⟩, bind_some.2 ⟨m, [], _, opt_some.2 ⟨hm, rfl⟩, bind_some.2 ⟨(), [], _, guard_some.2 ⟨?_, rfl⟩, bind_some.2 ⟨_, l8, _, by rw [← denV_okA hz2]; exact hzc1, bind_some.2 ⟨(), [], [], guard_some.2 ⟨?_, rfl⟩, pure_some.2 ⟨?_, rfl⟩, rfl⟩, rfl⟩, rfl⟩, rfl⟩, rfl⟩, rfl⟩, rfl⟩, rfl⟩, rfl⟩
    · rw [← hk]; simp [h1, g1, g2, g3, g4]
    · rw [enc_width ok]; simp
    · simp only [denE, denV, denA, den1, denWr, List.map_cons, List.map_nil, denO, rowsOf, hr]
      rw [List.map_replicate]; rfl
  simp only [List.nil_append]
  cases lv with
  | il kn n =>
    cases cv with
    | il km m =>
      simp only [runs_bind, runs_grd, decide_eq_true_eq] at h2
      obtain ⟨_, _, _, ⟨⟨g1, g2, g3, g4⟩, rfl⟩, h3, rfl⟩ := h2
      exact fin kn km n m _ _ rfl rfl rfl g1 g2 g3 g4 (by simp only [runs_bind]; exact h3)
    | id km mm m =>
      simp only [runs_bind, runs_grd, runs_nd, decide_eq_true_eq] at h2
      obtain ⟨_, _, _, ⟨g1, rfl⟩, ⟨_, _, _, ⟨g2, rfl⟩, ⟨_, _, _, ⟨g3, rfl⟩, ⟨_, _, _, ⟨g4, rfl⟩, h3, rfl⟩, rfl⟩, rfl⟩, rfl⟩ := h2
      exact fin kn km n m _ _ rfl rfl rfl g1 g2 g3 g4 (by simp only [runs_bind]; exact h3)
    | _ => exact (runs_fail.1 h2).elim
  | id kn mn n =>
    cases cv with
    | il km m =>
      simp only [runs_bind, runs_grd, runs_nd, decide_eq_true_eq] at h2
      obtain ⟨_, _, _, ⟨g1, rfl⟩, ⟨_, _, _, ⟨g2, rfl⟩, ⟨_, _, _, ⟨⟨g3, g4⟩, rfl⟩, h3, rfl⟩, rfl⟩, rfl⟩ := h2
      exact fin kn km n m _ _ rfl rfl rfl g1 g2 g3 g4 (by simp only [runs_bind]; exact h3)
    | id km mm m =>
      simp only [runs_bind, runs_nd, decide_eq_true_eq] at h2
      obtain ⟨_, _, _, ⟨g1, rfl⟩, ⟨_, _, _, ⟨g2, rfl⟩, ⟨_, _, _, ⟨g3, rfl⟩, ⟨_, _, _, ⟨g4, rfl⟩, h3, rfl⟩, rfl⟩, rfl⟩, rfl⟩ := h2
      exact fin kn km n m _ _ rfl rfl rfl g1 g2 g3 g4 (by simp only [runs_bind]; exact h3)
    | _ => exact (runs_fail.1 h2).elim
  | _ => exact (runs_fail.1 h2).elim
theorem copyQ_ok (ok : SgOk P G) {ts : Array TypeId} {d x : V G.El} {base : Nat} {e : Ef G.El} {l : List Nat} (h : (copyQ G ts d x base).runs lk e l) :
    (copyR P ts (denV G d) (denV G x)).run (lkT G lk) = some (denE G e, l) := by
  simp only [copyQ, runs_bind, runs_opt] at h
  obtain ⟨t0, _, _, ⟨ht0, rfl⟩, ⟨ec, _, _, hec, ⟨ie, _, _, ⟨hie, rfl⟩, ⟨tx, _, _, ⟨htx, rfl⟩, ⟨ex, _, _, hex, ⟨ns, l9, _, hns, h2, rfl⟩, rfl⟩, rfl⟩, rfl⟩, rfl⟩, rfl⟩ := h
  obtain ⟨rfl, he, hw⟩ := elemQ_ok ok hec
  obtain ⟨rfl, hex, _⟩ := elemQ_ok ok hex
  have hie := ok.ti _ _ hie
  have hk : ie.k = G.w ec.2 := Option.some.inj (hie.sz.symm.trans hw)
  have hN : (elemsR (denV G x)).run (lkT G lk) = some (ns.1.map (G.enc ec.2), l9) ∧ (scOf (denV G x)).isNone = true := by
    rcases elemsQ_ok ok hns with ⟨h1, h2, ys, src, hx⟩ | ⟨h1, h2, ⟨o, a, b, hx⟩ | hx⟩ <;> exact ⟨h1, by rw [hx]; rfl⟩
  have pre : ∀ {r : Eff} {l2 : List Nat}, (match denV G d with
      | .win o off len => do
        let ob ← obj o
        guardR (ob.alive && ob.may && ob.row && ob.k == G.w ec.2 && decide (off + len ≤ ob.xs.length))
        let n := min (ns.1.map (G.enc ec.2)).length len
        pure ⟨.sc (.int .i64 n), [(o, { ob with ver := ob.ver + 1, xs := ob.xs.take off ++ (ns.1.map (G.enc ec.2)).take n ++ ob.xs.drop (off + n) })]⟩
      | .nil => pure ⟨.sc (.int .i64 0), []⟩
      | _ => .fail : Rd Eff).run (lkT G lk) = some (r, l2) → (copyR P ts (denV G d) (denV G x)).run (lkT G lk) = some (r, [] ++ ([] ++ ([] ++ ([] ++ ([] ++ (l9 ++ l2)))))) := by
    intro r l2 hr
    simp only [copyR]
    refine bind_some.2 ⟨ec.1, [], _, opt_some.2 ⟨by rw [ht0]; exact he, rfl⟩, bind_some.2 ⟨G.w ec.2, [], _, opt_some.2 ⟨hw, rfl⟩, bind_some.2 ⟨(), [], _, guard_some.2 ⟨hN.2, rfl⟩, bind_some.2 ⟨tx, [], _, opt_some.2 ⟨htx, rfl⟩, bind_some.2 ⟨_, l9, _, hN.1, bind_some.2 ⟨(), [], _, guard_some.2 ⟨?_, rfl⟩, hr, rfl⟩, rfl⟩, rfl⟩, rfl⟩, rfl⟩, by simp⟩
    rw [wid_enc ok, hex]; rfl
  cases d with
  | nil =>
    obtain ⟨rfl, rfl⟩ := runs_pure.1 h2
    exact pre rfl
  | win o full off len =>
    simp only [runs_bind, runs_get] at h2
    obtain ⟨x', _, _, ⟨hx, rfl⟩, h3, rfl⟩ := h2
    cases x' with
    | row al mw kp ver t xs last =>
      simp only [runs_bind, runs_grd, runs_opt, runs_nd, Bool.and_eq_true, widthQ, beq_iff_eq] at h3
      obtain ⟨_, _, _, ⟨⟨hal, hmw⟩, rfl⟩, ⟨_, _, _, ⟨hwt, rfl⟩, ⟨_, _, _, ⟨hlen, rfl⟩, ⟨zs, _, _, ⟨h5, rfl⟩, h6, rfl⟩, rfl⟩, rfl⟩, rfl⟩ := h3
      obtain ⟨rfl, rfl⟩ := runs_pure.1 h6
      obtain ⟨rfl, h8, h9⟩ := castL_ok h5
      refine pre ?_
      refine bind_some.2 ⟨denO G (lk o), [o], [], obj_some.2 ⟨rfl, rfl⟩, bind_some.2 ⟨(), [], [], guard_some.2 ⟨?_, rfl⟩, pure_some.2 ⟨?_, rfl⟩, rfl⟩, rfl⟩
      · rw [← hx, lenT]
        simp only [denO, hal, hmw, Bool.and_true, Bool.true_and, beq_self_eq_true, decide_eq_true_eq]
        exact hlen
      · rw [← hx]
        simp only [denE, denWr, List.map_cons, List.map_nil, denO, intN_den]
        rw [List.length_map]
        simp only [rowsOf, List.map_append, List.map_take, List.map_drop, h8, N.v]
    | _ => exact (runs_fail.1 h3).elim
  | _ => exact (runs_fail.1 h2).elim
end Go.Proofs.YtmjmoagmolgacaaGreatDoor.PN
namespace Go.Proofs.YtmjmoagmolgacaaGreatDoor.PN
open Go Go.Proofs.YtmjmoagmolgacaaGreatDoor.PM
variable {G : Sg} {P : Program} {α β : Type} {lk : Nat → O G.El} {look : Nat → Ob}
theorem boolOf_some {v : V G.El} {b : Bool} (h : boolOf v = some b) : denV G v = .sc (.bool b) ∧ den1 G v = .sc (.bool b) ∧ isCell v = true := by
  cases v with
  | bl x => obtain rfl := Option.some.inj h; exact ⟨rfl, rfl, rfl⟩
  | bp n c d => obtain rfl := Option.some.inj h; cases n <;> exact ⟨rfl, rfl, rfl⟩
  | bb n x => obtain rfl := Option.some.inj h; cases n <;> exact ⟨rfl, rfl, rfl⟩
  | _ => cases h
theorem mkI_den (b : Bool) (k : IntKind) (nm : Nat) (x : Int) : denV G (mkI b k nm x) = .sc (.int k x) := by cases b <;> rfl
theorem foldB_den (v : V G.El) : denV G (foldB v) = denV G v := by
  cases v with
  | bp n c d => cases n <;> rfl
  | _ => rfl
theorem cmpI_ok {op : BinOp} {t : TypeId} {k : IntKind} {a b : Int} {v : V G.El} (h : cmpI op a b = some v) : opB op t (.int k a) (.int k b) = some (denV G v) := by
  cases op <;> simp only [cmpI] at h <;> first | (cases h; done) | skip
  all_goals obtain rfl := Option.some.inj h
  · exact ev_eql
  · exact ev_neq
  · exact ev_lss
  · exact ev_leq
  · exact ev_gtr
  · exact ev_geq
theorem ariI_ok {op : BinOp} {t : TypeId} {k : IntKind} {a b r : Int} (h : ariI op k a b = some r) : opB op t (.int k a) (.int k b) = some (.sc (.int k r)) := by
  cases op <;> simp only [ariI] at h <;> first | (cases h; done) | skip
  all_goals obtain rfl := Option.some.inj h
  · exact ev_add
  · exact ev_sub
  · exact ev_mul
  · exact ev_and
  · exact ev_or
  · exact ev_xor
  · exact ev_andNot
theorem divI_ok {op : BinOp} {t : TypeId} {k : IntKind} {a b r : Int} (hb : b ≠ 0) (h : divI op k a b = some r) : opB op t (.int k a) (.int k b) = some (.sc (.int k r)) := by
  cases op <;> simp only [divI] at h <;> first | (cases h; done) | skip
  all_goals obtain rfl := Option.some.inj h
  · exact ev_quo hb
  · exact ev_rem hb
theorem shI_ok {op : BinOp} {t : TypeId} {k k' : IntKind} {a b r : Int} (hb : 0 ≤ b) (h : shI op k a b = some r) : opB op t (.int k a) (.int k' b) = some (.sc (.int k r)) := by
  cases op <;> simp only [shI] at h <;> first | (cases h; done) | skip
  all_goals obtain rfl := Option.some.inj h
  · exact ev_shl hb
  · exact ev_shr hb
theorem binI_ok {op : BinOp} {t : TypeId} {base : Nat} {k k' : IntKind} {a b : Int} {la lb : Bool} {w : V G.El} {l : List Nat} (h : (binI op base k a la k' b lb : Q G.El (V G.El)).runs lk w l) :
    l = [] ∧ opB op t (.int k a) (.int k' b) = some (denV G w) := by
  unfold binI at h
  split at h
  · rename_i r hr
    simp only [runs_bind, runs_pure] at h
    obtain ⟨_, l1, _, h1, ⟨rfl, rfl⟩, rfl⟩ := h
    have h2 : l1 = [] ∧ 0 ≤ b := by
      cases lb with
      | true => have := runs_grd.1 h1; exact ⟨this.2, of_decide_eq_true this.1⟩
      | false => have := runs_nd.1 h1; exact ⟨this.2, this.1⟩
    exact ⟨by rw [h2.1]; rfl, by rw [mkI_den]; exact shI_ok h2.2 hr⟩
  · simp only [runs_bind, runs_grd, decide_eq_true_eq] at h
    obtain ⟨_, _, _, ⟨rfl, rfl⟩, h1, rfl⟩ := h
    split at h1
    · rename_i v hv
      obtain ⟨rfl, rfl⟩ := runs_pure.1 h1
      refine ⟨rfl, ?_⟩
      rw [cmpI_ok hv]
      cases la && lb with
      | true => exact congrArg some (foldB_den v).symm
      | false => rfl
    · split at h1
      · rename_i r hr
        obtain ⟨rfl, rfl⟩ := runs_pure.1 h1
        exact ⟨rfl, by rw [mkI_den]; exact ariI_ok hr⟩
      · split at h1
        · rename_i r hr
          simp only [runs_bind, runs_pure] at h1
          obtain ⟨_, l1, _, h1, ⟨rfl, rfl⟩, rfl⟩ := h1
          have h2 : l1 = [] ∧ b ≠ 0 := by
            cases lb with
            | true => have := runs_grd.1 h1; exact ⟨this.2, by simpa using this.1⟩
            | false => have := runs_nd.1 h1; exact ⟨this.2, this.1⟩
          exact ⟨by rw [h2.1]; rfl, by rw [mkI_den]; exact divI_ok h2.2 hr⟩
        · exact (runs_fail.1 h1).elim
theorem binS_ok {op : BinOp} {t : TypeId} {a b : ByteArray} {w : V G.El} {l : List Nat} (h : (binS op a b : Q G.El (V G.El)).runs lk w l) : l = [] ∧ opB op t (.string a) (.string b) = some (denV G w) := by
  cases op with
  | eql => obtain ⟨rfl, rfl⟩ := runs_ret.1 h; exact ⟨rfl, ev_seql⟩
  | neq => obtain ⟨rfl, rfl⟩ := runs_ret.1 h; exact ⟨rfl, ev_sneq⟩
  | lss => obtain ⟨rfl, rfl⟩ := runs_ret.1 h; exact ⟨rfl, ev_slss⟩
  | geq => obtain ⟨rfl, rfl⟩ := runs_ret.1 h; exact ⟨rfl, ev_sgeq⟩
  | leq => obtain ⟨rfl, rfl⟩ := runs_ret.1 h; exact ⟨rfl, ev_sleq⟩
  | gtr => obtain ⟨rfl, rfl⟩ := runs_ret.1 h; exact ⟨rfl, ev_sgtr⟩
  | add =>
    simp only [binS, runs_bind, runs_nd, runs_pure] at h
    obtain ⟨_, _, _, ⟨h1, rfl⟩, ⟨rfl, rfl⟩, rfl⟩ := h
    exact ⟨rfl, ev_sadd h1⟩
  | _ => exact (runs_fail.1 h).elim
def eqOpT (op : BinOp) (b : Bool) : Rd T := match op with
  | .eql => pure (.sc (.bool b))
  | .neq => pure (.sc (.bool !b))
  | _ => .fail
theorem eqOp_ok {op : BinOp} {b : Bool} {w : V G.El} {l : List Nat} (h : (eqOp op b : Q G.El (V G.El)).runs lk w l) : (eqOpT op b).run look = some (denV G w, l) := by
  cases op with
  | eql => obtain ⟨rfl, rfl⟩ := runs_ret.1 h; rfl
  | neq => obtain ⟨rfl, rfl⟩ := runs_ret.1 h; rfl
  | _ => exact (runs_fail.1 h).elim
theorem kdOf_ok (ok : SgOk P G) (t : TypeId) : KdOk P G t (kdOf G t) := by
  unfold kdOf
  split
  · rename_i i hi; exact (ok.ti t i hi).kd
  · trivial
theorem eqScV_ok (ok : SgOk P G) {t : TypeId} {x y : V G.El} {b : Bool} (h : eqScV G t x y = some b) : eqSc P t (den1 G x) (den1 G y) = some b := by
  have hk := kdOf_ok ok t
  unfold eqScV at h
  split at h
  · rename_i k0 k a k' b' he
    rw [he] at hk
    simp only [eqSc, den1, show P.underlying t = some (.int k0) from hk]; exact h
  · rename_i k0 k a k' nm b' he
    rw [he] at hk
    simp only [eqSc, den1, show P.underlying t = some (.int k0) from hk]; exact h
  · rename_i k0 k nm a k' b' he
    rw [he] at hk
    simp only [eqSc, den1, show P.underlying t = some (.int k0) from hk]; exact h
  · rename_i k0 k nm a k' nm' b' he
    rw [he] at hk
    simp only [eqSc, den1, show P.underlying t = some (.int k0) from hk]; exact h
  · rename_i he
    rw [he] at hk
    split at h
    · rename_i a b' ha hb
      obtain rfl := Option.some.inj h
      rw [(boolOf_some ha).2.1, (boolOf_some hb).2.1]
      simp only [eqSc, show P.underlying t = some .bool from hk]
    · cases h
  · rename_i a b' he
    rw [he] at hk
    obtain rfl := Option.some.inj h
    simp only [eqSc, den1, show P.underlying t = some .string from hk]
  · cases h
theorem eqFsV_ok (ok : SgOk P G) {xs ys : List (V G.El)} : ∀ {fs : List (Nat × TypeId)} {b : Bool}, eqFsV G xs ys fs = some b → eqFs P (xs.map (den1 G)) (ys.map (den1 G)) fs = some b
  | [], b, h => h
  | (o, t) :: r, b, h => by
    simp only [eqFsV] at h
    simp only [eqFs, List.getElem?_map]
    cases hx : xs[o]? with
    | none => rw [hx] at h; cases h
    | some x =>
      cases hy : ys[o]? with
      | none => rw [hx, hy] at h; cases h
      | some y =>
        rw [hx, hy] at h
        simp only at h
        cases h1 : eqScV G t x y with
        | none => rw [h1] at h; cases h
        | some a =>
          cases h2 : eqFsV G xs ys r with
          | none => rw [h1, h2] at h; cases h
          | some b' =>
            rw [h1, h2] at h
            simp only [Option.map_some, eqScV_ok ok h1, eqFsV_ok ok h2]
            cases r with
            | nil =>
              obtain rfl := Option.some.inj h
              obtain rfl := Option.some.inj h2
              simp
            | cons p q => exact h
def binT (P : Program) (op : BinOp) (t : TypeId) (a b : T) (y : Operand) : Rd T := match a, b with
    | .sc (.bool a), .sc (.bool b) => do
      let r ← Rd.ofOption (eqSc P t (.sc (.bool a)) (.sc (.bool b)))
      eqOpT op r
    | .sc a, .sc b => if plainB a && plainB b then Rd.ofOption ((pureOf (binOp op t a b)).bind scP) else .fail
    | .ifc b, .ifc _ => (match P.underlying t, y, op with
      | some (.interface _), .const .nilIface, .eql => pure (.sc (.bool !b))
      | some (.interface _), .const .nilIface, .neq => pure (.sc (.bool b))
      | _, _, _ => .fail)
    | .agg xs, .agg ys => do
      let fs ← Rd.ofOption (eqT P t)
      let b ← Rd.ofOption (eqFs P xs ys fs)
      eqOpT op b
    | _, _ => .fail
theorem isNilIface_ok {y : Operand} (h : isNilIface y = true) : y = .const .nilIface := by
  unfold isNilIface at h
  split at h
  · rfl
  · cases h
theorem iface_ok {kd : Kd} {t : TypeId} (hk : KdOk P G t kd) (h : isIface kd = true) : ∃ ms, P.underlying t = some (.interface ms) := by
  cases kd <;> first | exact hk | cases h
theorem binQ_ok (ok : SgOk P G) {base : Nat} {op : BinOp} {t : TypeId} {x y w : V G.El} {yo : Operand} {l : List Nat} (h : (binQ G base op t x y yo).runs lk w l) : (binT P op t (denV G x) (denV G y) yo).run look = some (denV G w, l) := by
  unfold binQ at h
  split at h
  · rename_i k a la k' b lb hx hy
    obtain ⟨rfl, h1⟩ := binI_ok (t := t) h
    rw [(intV_some hx).2, (intV_some hy).2]
    simp only [binT, plainB, Bool.and_self, if_true]
    exact opt_some.2 ⟨h1, rfl⟩
  · split at h
    · rename_i a b hx hy
      simp only [runs_bind, runs_opt, runs_grd] at h
      obtain ⟨inf, _, _, ⟨hi, rfl⟩, ⟨_, _, _, ⟨h1, rfl⟩, h2, rfl⟩, rfl⟩ := h
      have hk := (ok.ti t inf hi).kd
      have hu : P.underlying t = some .bool := by
        cases hkd : inf.kd <;> rw [hkd] at h1 hk <;> first | exact hk | cases h1
      rw [(boolOf_some hx).1, (boolOf_some hy).1]
      simp only [binT, eqSc, hu]
      exact bind_some.2 ⟨a == b, [], l, opt_some.2 ⟨rfl, rfl⟩, eqOp_ok h2, rfl⟩
    · split at h
      · obtain ⟨rfl, h1⟩ := binS_ok (t := t) h
        simp only [denV, denA, den1, binT, plainB, Bool.and_self, if_true]
        exact opt_some.2 ⟨h1, rfl⟩
      · simp only [runs_bind, runs_opt] at h
        obtain ⟨inf, _, _, ⟨hi, rfl⟩, ⟨fs, _, _, ⟨h1, rfl⟩, ⟨b, _, _, ⟨h2, rfl⟩, h3, rfl⟩, rfl⟩, rfl⟩ := h
        have hi := ok.ti t inf hi
        simp only [denV, denA, binT]
        exact bind_some.2 ⟨fs, [], l, opt_some.2 ⟨hi.eq _ h1, rfl⟩, bind_some.2 ⟨b, [], l, opt_some.2 ⟨eqFsV_ok ok h2, rfl⟩, eqOp_ok h3, rfl⟩, rfl⟩
      · simp only [runs_bind, runs_opt, runs_grd, Bool.and_eq_true] at h
        obtain ⟨inf, _, _, ⟨hi, rfl⟩, ⟨_, _, _, ⟨⟨h1, h2⟩, rfl⟩, h3, rfl⟩, rfl⟩ := h
        obtain ⟨ms, hu⟩ := iface_ok (ok.ti t inf hi).kd h2
        obtain rfl := isNilIface_ok h1
        simp only [denV, denA, den1, binT, hu]
        cases op with
        | eql => obtain ⟨rfl, rfl⟩ := runs_ret.1 h3; rfl
        | neq => obtain ⟨rfl, rfl⟩ := runs_ret.1 h3; simp [denV, denA, den1]; rfl
        | _ => exact (runs_fail.1 h3).elim
      · simp only [runs_bind, runs_opt, runs_grd, Bool.and_eq_true] at h
        obtain ⟨inf, _, _, ⟨hi, rfl⟩, ⟨_, _, _, ⟨⟨h1, h2⟩, rfl⟩, h3, rfl⟩, rfl⟩ := h
        obtain ⟨ms, hu⟩ := iface_ok (ok.ti t inf hi).kd h2
        obtain rfl := isNilIface_ok h1
        simp only [denV, denA, den1, binT, hu]
        cases op with
        | eql => obtain ⟨rfl, rfl⟩ := runs_pure.1 h3; rfl
        | neq => obtain ⟨rfl, rfl⟩ := runs_pure.1 h3; rfl
        | _ => exact (runs_fail.1 h3).elim
      · exact (runs_fail.1 h).elim
def unT (op : UnOp) (x : T) : Rd T := match x with
    | .sc a => if plainB a then Rd.ofOption ((pureOf (Op.unary op a)).bind scP) else .fail
    | _ => .fail
theorem unQ_ok {base : Nat} {op : UnOp} {x w : V G.El} {l : List Nat} (h : (unQ base op x : Q G.El (V G.El)).runs lk w l) : (unT op (denV G x)).run look = some (denV G w, l) := by
  cases op with
  | not =>
    obtain ⟨h1, rfl⟩ := runs_opt.1 h
    have key : ∃ b, denV G x = .sc (.bool b) ∧ denV G w = .sc (.bool !b) := by
      cases x with
      | bl b => obtain rfl := Option.some.inj h1; exact ⟨b, rfl, rfl⟩
      | bp n c d => obtain rfl := Option.some.inj h1; cases n <;> exact ⟨_, rfl, by simp [denV, denA, den1]⟩
      | bb n b => obtain rfl := Option.some.inj h1; cases n <;> exact ⟨_, rfl, by simp [denV, denA, den1]⟩
      | _ => cases h1
    obtain ⟨b, h2, h3⟩ := key
    rw [h2, h3]
    simp only [unT, plainB, if_true]
    exact opt_some.2 ⟨ev_not, rfl⟩
  | neg =>
    simp only [unQ] at h
    split at h
    · rename_i k a la hx
      obtain ⟨rfl, rfl⟩ := runs_ret.1 h
      rw [(intV_some hx).2, mkI_den]
      simp only [unT, plainB, if_true]
      exact opt_some.2 ⟨ev_neg, rfl⟩
    · exact (runs_fail.1 h).elim
  | xor =>
    simp only [unQ] at h
    split at h
    · rename_i k a la hx
      obtain ⟨rfl, rfl⟩ := runs_ret.1 h
      rw [(intV_some hx).2, mkI_den]
      simp only [unT, plainB, if_true]
      exact opt_some.2 ⟨ev_unxor, rfl⟩
    · exact (runs_fail.1 h).elim
  | plus => exact (runs_fail.1 h).elim
theorem minQ_den {base : Nat} {x y w : V G.El} {mx : Bool} {l : List Nat} (h : (minQ base x y mx : Q G.El (V G.El)).runs lk w l) :
    l = [] ∧ ∃ k a b, denV G x = .sc (.int k a) ∧ denV G y = .sc (.int k b) ∧ denV G w = .sc (.int k (if mx = true then maxI a b else minI a b)) := by
  simp only [minQ] at h
  split at h
  · rename_i k a la k' b lb hx hy
    simp only [runs_bind, runs_grd, runs_pure, decide_eq_true_eq] at h
    obtain ⟨_, _, _, ⟨rfl, rfl⟩, ⟨rfl, rfl⟩, rfl⟩ := h
    refine ⟨rfl, k, a, b, (intV_some hx).2, (intV_some hy).2, ?_⟩
    rw [mkI_den]; cases mx <;> rfl
  · exact (runs_fail.1 h).elim
theorem ev_max {ts : Array TypeId} {ty : TypeId} {k k' : IntKind} {a b : Int} : (pureOf (Builtin.max_ ts ty #[.int k a, .int k' b])).bind scP = some (.sc (.int k (maxI a b))) := by
  have : Builtin.max_ ts ty #[.int k a, .int k' b] = pure (.int k (if a < b then b else a)) := by simp [Builtin.max_, Builtin.max2]
  rw [this]; rfl
end Go.Proofs.YtmjmoagmolgacaaGreatDoor.PN
namespace Go.Proofs.YtmjmoagmolgacaaGreatDoor.PN
open Go Go.Proofs.YtmjmoagmolgacaaGreatDoor.PM
variable {G : Sg} {P : Program} {α β : Type} {lk : Nat → O G.El} {look : Nat → Ob}
theorem flatMap_same {α β : Type} {f g : α → List β} {l : List α} (h : ∀ a ∈ l, f a = g a) : l.flatMap f = l.flatMap g := by
  induction l with
  | nil => rfl
  | cons a r ih => rw [List.flatMap_cons, List.flatMap_cons, h a (by simp), ih fun b hb => h b (by simp [hb])]
theorem refs1_den (v : V G.El) : refs1 (den1 G v) = refs1V v := by
  cases v with
  | bp n c d => cases n <;> rfl
  | bb n x => cases n <;> rfl
  | fn f caps =>
    simp only [den1, refs1, refs1V, List.flatMap_map]
    exact flatMap_same fun c _ => by cases c <;> rfl
  | _ => rfl
theorem refs_den (v : V G.El) : refs (denV G v) = refsV v := by
  cases v with
  | tup ts =>
    simp only [denV, refs, refsV, List.flatMap_map]
    refine flatMap_same fun t _ => ?_
    cases t with
    | agg cs =>
      simp only [denA, List.flatMap_map]
      exact flatMap_same fun c _ => refs1_den c
    | bp n c d => cases n <;> rfl
    | bb n x => cases n <;> rfl
    | fn f caps => exact refs1_den (.fn f caps)
    | _ => rfl
  | agg cs =>
    simp only [denV, denA, refs, refsV, List.flatMap_map]
    exact flatMap_same fun c _ => refs1_den c
  | rp t x j src => rfl
  | bp n c d => cases n <;> rfl
  | bb n x => cases n <;> rfl
  | fn f caps => exact refs1_den (.fn f caps)
  | _ => rfl
def capT (f : Nat → Option Nat) : T → Option T
  | .ptr o i j => (f o).map fun o' => T.ptr o' i j
  | _ => none
theorem mapM_caps (f : Nat → Option Nat) : ∀ caps : List (V G.El), (caps.map denP).mapM (capT f) = (caps.mapM (capV f)).map (fun cs => cs.map denP)
  | [] => rfl
  | c :: r => by
    have ih := mapM_caps f r
    rw [List.map_cons, List.mapM_cons, List.mapM_cons, ih]
    have h1 : capT f (denP c) = (capV f c).map denP := by
      cases c with
      | ptr o i j => simp only [denP, capT, capV]; cases f o <;> rfl
      | _ => rfl
    rw [h1]
    cases capV f c with
    | none => rfl
    | some a =>
      cases r.mapM (capV f) with
      | none => rfl
      | some b => rfl
theorem mapC_fn {f : Nat → Option Nat} {sg : Src → Option Src} {h : FuncId} {caps : List T} : mapC f sg (.fn h caps) = match caps.mapM (capT f) with | some cs => .fn h cs | none => .dead := rfl
variable {f : Nat → Option Nat} {sg : Src → Option Src}
theorem mapC_den (v : V G.El) : den1 G (mapVC f sg v) = mapC f sg (den1 G v) := by
  cases v with
  | bp n c d => cases n <;> rfl
  | bb n x => cases n <;> rfl
  | s0 src => simp only [mapVC, den1, mapC]; cases sg src <;> rfl
  | sl t xs src => simp only [mapVC, den1, mapC]; cases sg src <;> rfl
  | win o full off len => simp only [mapVC, den1, mapC]; cases f o <;> rfl
  | ptr o i j => simp only [mapVC, den1, mapC]; cases f o <;> rfl
  | rp t x j src => simp only [mapVC]; cases sg src <;> rfl
  | fn h caps =>
    simp only [mapVC, den1]
    rw [mapC_fn, mapM_caps]
    cases caps.mapM (capV f) <;> rfl
  | _ => rfl
theorem mapVC_agg (v : V G.El) : ∀ cs, mapVC f sg v ≠ .agg cs := by
  intro cs h
  cases v with
  | s0 src => simp only [mapVC] at h; split at h <;> cases h
  | sl t xs src => simp only [mapVC] at h; split at h <;> cases h
  | win o full off len => simp only [mapVC] at h; split at h <;> cases h
  | ptr o i j => simp only [mapVC] at h; split at h <;> cases h
  | rp t x j src => simp only [mapVC] at h; split at h <;> cases h
  | fn h' caps => simp only [mapVC] at h; split at h <;> cases h
  | _ => cases h
theorem mapA_not {t : T} (h : ∀ cs, t ≠ .agg cs) : mapA f sg t = mapC f sg t := by cases t <;> first | rfl | exact absurd rfl (h _)
theorem mapV_not {t : T} (h : ∀ cs, t ≠ .tup cs) : mapV f sg t = mapA f sg t := by cases t <;> first | rfl | exact absurd rfl (h _)
theorem mapA_den (v : V G.El) : denA G (mapVA f sg v) = mapA f sg (denA G v) := by
  by_cases h : ∃ cs, v = .agg cs
  · obtain ⟨cs, rfl⟩ := h
    simp only [mapVA, denA, mapA, List.map_map]
    refine congrArg T.agg (List.map_congr_left fun c _ => ?_)
    simp only [Function.comp]
    rw [mapC_den, den1_cell1]
  · have h1 : denA G v = den1 G v := denA_not_agg fun cs e => h ⟨cs, e⟩
    have h2 : mapVA f sg v = mapVC f sg v := by cases v <;> first | rfl | exact absurd ⟨_, rfl⟩ h
    rw [h1, h2, mapA_not (den1_agg v), denA_not_agg (mapVC_agg v), mapC_den]
theorem denA_tup : ∀ (v : V G.El) ts, denA G v ≠ .tup ts := by
  intro v ts h
  by_cases hv : ∃ cs, v = .agg cs
  · obtain ⟨cs, rfl⟩ := hv; cases h
  · rw [denA_not_agg fun cs e => hv ⟨cs, e⟩] at h; exact den1_tup v ts h
theorem mapVA_ok (v : V G.El) : denV G (mapVA f sg v) = match v with | .rp t x j src => (match sg src with | some s => .rp (G.enc t x) j s | none => .dead) | v => denA G (mapVA f sg v) := by
  cases v with
  | rp t x j src => simp only [mapVA, mapVC]; cases sg src <;> rfl
  | s0 src => simp only [mapVA, mapVC]; cases sg src <;> rfl
  | sl t xs src => simp only [mapVA, mapVC]; cases sg src <;> rfl
  | win o full off len => simp only [mapVA, mapVC]; cases f o <;> rfl
  | ptr o i j => simp only [mapVA, mapVC]; cases f o <;> rfl
  | fn h' caps => simp only [mapVA, mapVC]; cases caps.mapM (capV f) <;> rfl
  | _ => rfl
theorem mapV_gen (v : V G.El) (h1 : denV G v = denA G v) (h2 : mapVV f sg v = mapVA f sg v) (h3 : denV G (mapVA f sg v) = denA G (mapVA f sg v)) : denV G (mapVV f sg v) = mapV f sg (denV G v) := by
  rw [h1, h2, h3, mapA_den, mapV_not (denA_tup v)]
theorem mapV_den (v : V G.El) : denV G (mapVV f sg v) = mapV f sg (denV G v) := by
  cases v with
  | tup ts =>
    simp only [mapVV, denV, mapV, List.map_map]
    exact congrArg T.tup (List.map_congr_left fun t _ => mapA_den t)
  | rp t x j src =>
    show denV G (mapVA f sg (.rp t x j src)) = _
    rw [mapVA_ok]; rfl
  | bp n c d => cases n <;> rfl
  | bb n x => cases n <;> rfl
  | _ => exact mapV_gen _ rfl rfl (mapVA_ok _)
theorem mapO_den (x : O G.El) : denO G (mapVO f sg x) = mapOb f sg (denO G x) := by
  cases x with
  | row a m k v t xs last => rfl
  | gone => rfl
  | box a m v k g cs =>
    simp only [mapVO, denO, mapOb, Bool.false_eq_true, if_false, List.map_cons, List.map_nil, List.map_map]
    have : (fun c => den1 G (mapVC f sg (cell1 c))) = fun c : V G.El => mapC f sg (den1 G c) := by funext c; rw [mapC_den, den1_cell1]
    have h2 : List.map (den1 G ∘ fun c => mapVC f sg (cell1 c)) cs = (cs.map (den1 G)).map (mapC f sg) := by rw [List.map_map]; exact List.map_congr_left fun c _ => congrFun this c
    rw [h2]
    have key : ∀ l : List (V G.El), wrapT g ((l.map (den1 G)).map (mapC f sg)) = mapA f sg (wrapT g (l.map (den1 G))) := by
      intro l
      cases g with
      | true => rfl
      | false =>
        match l with
        | [] => rfl
        | [c] => exact (mapA_not (den1_agg c)).symm
        | _ :: _ :: _ => rfl
    rw [key]
theorem setVer_den (x : O G.El) (n : Nat) (h : x.born = true ∨ n = 0) : denO G (x.setVer n) = { denO G x with ver := n } := by
  cases x with
  | gone =>
    rcases h with h | rfl
    · cases h
    · rfl
  | _ => rfl
theorem keepAs_den (x y : O G.El) : denO G (keepAs x y) = denO G y := by cases x <;> cases y <;> rfl
theorem verOfO_den (xs : List (O G.El)) (j : Nat) : verOfO xs j = verOf (xs.map (denO G)) j := by
  simp only [verOfO, verOf, List.getElem?_map, Option.map_map]
  congr 2
  funext x; exact (ver_den x).symm
theorem backSO_den (L : List Nat) (base : Nat) (lv objs : List (O G.El)) (S : Src) : backSO L base lv objs S = backS L base (lv.map (denO G)) (objs.map (denO G)) S := by
  funext src
  simp only [backSO, backS, verOfO_den, List.length_map]
theorem flatO_den (ok : SgOk P G) {x : O G.El} (h : flatO G x = true) : (!(denO G x).row || flatL (denO G x).xs) = true := by
  cases x with
  | row a m k v t xs last => simp only [denO, Bool.not_true, Bool.false_or]; exact flatL_enc ok h _
  | _ => rfl
theorem isPtr_den (caps : List (V G.El)) : (caps.map denP).all (fun c => match c with | .ptr .. => true | _ => false) = caps.all isPtr := by
  rw [List.all_map]
  congr 1
  funext c
  cases c <;> rfl
theorem pass1_view {lent : Bool} {t : T} (h1 : ∀ o a b, lent = true → t ≠ .win o a b) (h2 : lent = true → t ≠ .nil) (h3 : lent = true → t ≠ .dead) (h4 : ∀ o i j, t ≠ .ptr o i j) (h5 : ∀ f c, t ≠ .fn f c) :
    pass1 lent t = (do match ← view1 t with | .sl xs src => pure (.sl xs [], src) | t => pure (t, []) : Rd (T × Src)) := by
  cases t with
  | win o a b => cases lent with
    | true => exact absurd rfl (h1 o a b rfl)
    | false => rfl
  | nil => cases lent with
    | true => exact absurd rfl (h2 rfl)
    | false => rfl
  | dead => cases lent with
    | true => exact absurd rfl (h3 rfl)
    | false => rfl
  | ptr o i j => exact absurd rfl (h4 o i j)
  | fn f c => exact absurd rfl (h5 f c)
  | _ => cases lent <;> rfl
theorem passQ1_ok {lent : Bool} {v : V G.El} {r : V G.El × Src} {l : List Nat} (h : (passQ1 lent v).runs lk r l) : (pass1 lent (den1 G v)).run (lkT G lk) = some ((den1 G r.1, r.2), l) ∧ okA r.1 = true ∧ (∀ cs, r.1 ≠ .agg cs) ∧ (∀ cs, v ≠ .agg cs) ∧ (∀ cs, v ≠ .tup cs) ∧ (∀ t x j s, v ≠ .rp t x j s) := by
  have view : ∀ (hv : (do let u ← viewQ v; pure (passR u) : Q G.El (V G.El × Src)).runs lk r l)
      (h1 : ∀ o a b, lent = true → den1 G v ≠ .win o a b) (h2 : lent = true → den1 G v ≠ .nil) (h3 : lent = true → den1 G v ≠ .dead) (h4 : ∀ o i j, den1 G v ≠ .ptr o i j) (h5 : ∀ f c, den1 G v ≠ .fn f c),
      (pass1 lent (den1 G v)).run (lkT G lk) = some ((den1 G r.1, r.2), l) ∧ okA r.1 = true ∧ (∀ cs, r.1 ≠ .agg cs) := by
    intro hv h1 h2 h3 h4 h5
    simp only [runs_bind, runs_pure] at hv
    obtain ⟨u, l1, _, hu, ⟨rfl, rfl⟩, rfl⟩ := hv
    obtain ⟨h7, h8⟩ := viewQ_ok hu
    rw [pass1_view h1 h2 h3 h4 h5]
    refine ⟨bind_some.2 ⟨_, l1, [], h7, ?_, rfl⟩, ?_, ?_⟩
    · cases u with
      | bp n c d => cases n <;> rfl
      | bb n x => cases n <;> rfl
      | _ => first | rfl | cases h8
    · cases u <;> first | rfl | cases h8
    · intro cs e
      cases u <;> first | (cases e; done) | cases h8
  have nots : (∃ cs, v = .agg cs) ∨ (∃ cs, v = .tup cs) ∨ (∃ t x j s, v = .rp t x j s) → False := by
    rintro (⟨cs, rfl⟩ | ⟨cs, rfl⟩ | ⟨t, x, j, s, rfl⟩)
    · cases lent <;> · simp only [passQ1, runs_bind, viewQ, runs_fail] at h; obtain ⟨_, _, _, h, _⟩ := h; exact h
    · cases lent <;> · simp only [passQ1, runs_bind, viewQ, runs_fail] at h; obtain ⟨_, _, _, h, _⟩ := h; exact h
    · cases lent <;> · simp only [passQ1, runs_bind, viewQ, runs_fail] at h; obtain ⟨_, _, _, h, _⟩ := h; exact h
  suffices hs : (pass1 lent (den1 G v)).run (lkT G lk) = some ((den1 G r.1, r.2), l) ∧ okA r.1 = true ∧ (∀ cs, r.1 ≠ .agg cs) from
    ⟨hs.1, hs.2.1, hs.2.2, fun cs e => nots (.inl ⟨cs, e⟩), fun cs e => nots (.inr (.inl ⟨cs, e⟩)), fun t x j s e => nots (.inr (.inr ⟨t, x, j, s, e⟩))⟩
  cases v with
  | ptr o i j => obtain ⟨rfl, rfl⟩ := runs_ret.1 h; cases lent <;> exact ⟨rfl, rfl, fun cs e => by cases e⟩
  | fn f caps =>
    simp only [passQ1, runs_bind, runs_grd, runs_pure] at h
    obtain ⟨_, _, _, ⟨h1, rfl⟩, ⟨rfl, rfl⟩, rfl⟩ := h
    refine ⟨?_, rfl, fun cs e => by cases e⟩
    have : (do guardR ((caps.map denP).all fun c => match c with | .ptr .. => true | _ => false); pure (T.fn f (caps.map denP), []) : Rd (T × Src)).run (lkT G lk) = some ((T.fn f (caps.map denP), []), []) :=
      bind_some.2 ⟨(), [], [], guard_some.2 ⟨by rw [isPtr_den]; exact h1, rfl⟩, rfl, rfl⟩
    cases lent <;> exact this
  | win o full off len =>
    cases lent with
    | true => obtain ⟨rfl, rfl⟩ := runs_ret.1 h; exact ⟨rfl, rfl, fun cs e => by cases e⟩
    | false => exact view h (fun _ _ _ e => by cases e) (fun e => by cases e) (fun e => by cases e) (fun _ _ _ e => by cases e) (fun _ _ e => by cases e)
  | nil =>
    cases lent with
    | true => obtain ⟨rfl, rfl⟩ := runs_ret.1 h; exact ⟨rfl, rfl, fun cs e => by cases e⟩
    | false => exact view h (fun _ _ _ e => by cases e) (fun e => by cases e) (fun e => by cases e) (fun _ _ _ e => by cases e) (fun _ _ e => by cases e)
  | dead =>
    cases lent with
    | true => obtain ⟨rfl, rfl⟩ := runs_ret.1 h; exact ⟨rfl, rfl, fun cs e => by cases e⟩
    | false => exact view h (fun _ _ _ e => by cases e) (fun e => by cases e) (fun e => by cases e) (fun _ _ _ e => by cases e) (fun _ _ e => by cases e)
  | bp n c d => cases lent <;> cases n <;> exact view h (fun _ _ _ _ e => by cases e) (fun _ e => by cases e) (fun _ e => by cases e) (fun _ _ _ e => by cases e) (fun _ _ e => by cases e)
  | bb n x => cases lent <;> cases n <;> exact view h (fun _ _ _ _ e => by cases e) (fun _ e => by cases e) (fun _ e => by cases e) (fun _ _ _ e => by cases e) (fun _ _ e => by cases e)
  | agg cs => exact (nots (.inl ⟨_, rfl⟩)).elim
  | tup cs => exact (nots (.inr (.inl ⟨_, rfl⟩))).elim
  | rp t x j s => exact (nots (.inr (.inr ⟨_, _, _, _, rfl⟩))).elim
  | _ => cases lent <;> exact view h (fun _ _ _ _ e => by cases e) (fun _ e => by cases e) (fun _ e => by cases e) (fun _ _ _ e => by cases e) (fun _ _ e => by cases e)
theorem passT_not {lent : Bool} {t : T} (h : ∀ cs, t ≠ .agg cs) : passT lent t = pass1 lent t := by cases t <;> first | rfl | exact absurd rfl (h _)
theorem passQ_ok {lent : Bool} {v : V G.El} {r : V G.El × Src} {l : List Nat} (h : (passQ lent v).runs lk r l) : (passT lent (denV G v)).run (lkT G lk) = some ((denV G r.1, r.2), l) := by
  by_cases hv : ∃ cs, v = .agg cs
  · obtain ⟨cs, rfl⟩ := hv
    simp only [passQ, runs_bind, runs_pure] at h
    obtain ⟨ys, l1, _, h1, ⟨rfl, rfl⟩, rfl⟩ := h
    have := mapQ_ok (a := den1 G) (b := fun p : V G.El × Src => (den1 G p.1, p.2)) (fun x y l h => (passQ1_ok h).1) h1
    refine bind_some.2 ⟨_, l1, [], this, ?_, rfl⟩
    simp only [List.map_map, List.flatMap_map]
    refine pure_some.2 ⟨?_, rfl⟩
    simp [denV, denA, Function.comp]
  · have h2 : passQ lent v = passQ1 lent v := by cases v <;> first | rfl | exact absurd ⟨_, rfl⟩ hv
    rw [h2] at h
    obtain ⟨h3, h4, h5, h6, h7, h8⟩ := passQ1_ok h
    have hd : denV G v = den1 G v := by
      rw [denV_okA (by cases v <;> first | rfl | exact absurd rfl (h7 _) | exact absurd rfl (h8 _ _ _ _))]
      exact denA_not_agg h6
    rw [hd, passT_not (den1_agg v), denV_okA h4, denA_not_agg h5]
    exact h3
theorem passAllQ_ok : ∀ {ls : List Bool} {vs : List (V G.El)} {rs : List (V G.El × Src)} {l : List Nat}, (passAllQ ls vs).runs lk rs l → (passAll ls (vs.map (denV G))).run (lkT G lk) = some (rs.map fun p => (denV G p.1, p.2), l)
  | ls, [], rs, l, h => by
    have h : (Q.ret [] : Q G.El (List (V G.El × Src))).runs lk rs l := by cases ls <;> exact h
    obtain ⟨rfl, rfl⟩ := runs_ret.1 h
    cases ls <;> rfl
  | ls, v :: r, rs, l, h => by
    have h : (do let a ← passQ (ls.headD false) v; let s ← passAllQ ls.tail r; pure (a :: s) : Q G.El (List (V G.El × Src))).runs lk rs l := by cases ls <;> exact h
    simp only [runs_bind, runs_pure] at h
    obtain ⟨a, l1, _, h1, ⟨s, l3, _, h2, ⟨rfl, rfl⟩, rfl⟩, rfl⟩ := h
    have e : passAll ls ((v :: r).map (denV G)) = (do let a ← passT (ls.headD false) (denV G v); let s ← passAll ls.tail (r.map (denV G)); pure (a :: s) : Rd _) := by cases ls <;> rfl
    rw [e]
    exact bind_some.2 ⟨_, l1, _, passQ_ok h1, bind_some.2 ⟨_, l3, [], passAllQ_ok h2, rfl, rfl⟩, rfl⟩
theorem passOQ_ok {x : O G.El} {y : O G.El × Src} {l : List Nat} (h : (passOQ x).runs lk y l) : (passOb (denO G x)).run (lkT G lk) = some ((denO G y.1, y.2), l) ∧
    (if (denO G x).row then [] else (denO G y.1).xs.flatMap refs) = (cellsO y.1).flatMap refs1V ∧ y.1.born = true := by
  cases x with
  | row a m k v t xs last => obtain ⟨rfl, rfl⟩ := runs_ret.1 h; exact ⟨rfl, rfl, rfl⟩
  | gone => exact (runs_fail.1 h).elim
  | box a m v k g cs =>
    simp only [passOQ, runs_bind, runs_grd, runs_pure] at h
    obtain ⟨_, _, _, ⟨hg, rfl⟩, ⟨ys, l1, _, h1, ⟨rfl, rfl⟩, rfl⟩, rfl⟩ := h
    have h2 := mapQ_ok (a := den1 G) (b := fun p : V G.El × Src => (den1 G p.1, p.2)) (fun x y l h => (passQ1_ok h).1) h1
    have hlen := mapQ_len h1
    have hcells : ∀ c ∈ ys.map (·.1), (∀ l, den1 G c ≠ .agg l) := fun c _ l => den1_agg c l
    have hT : (passT true (wrapT g (cs.map (den1 G)))).run (lkT G lk) = some ((wrapT g ((ys.map (·.1)).map (den1 G)), ys.flatMap (·.2)), l1) := by
      cases g with
      | true =>
        refine bind_some.2 ⟨_, l1, [], h2, ?_, by simp⟩
        simp only [List.map_map, List.flatMap_map]
        exact pure_some.2 ⟨by simp [wrapT, Function.comp], rfl⟩
      | false =>
        match cs, hg, ys, hlen, h1, h2 with
        | [c], _, [y], _, h1, h2 =>
          simp only [mapQ, runs_bind] at h1
          obtain ⟨y', l3, l4, h3, ⟨zs, l5, l6, h4, h5, rfl⟩, rfl⟩ := h1
          obtain ⟨h6, rfl⟩ := runs_pure.1 h5
          obtain ⟨rfl, rfl⟩ := runs_ret.1 h4
          simp only [List.cons.injEq, and_true] at h6
          subst h6
          simp only [List.map_cons, List.map_nil, wrapT]
          rw [passT_not (den1_agg c)]
          have := (passQ1_ok h3).1
          simpa using this
    refine ⟨?_, ?_, rfl⟩
    · simp only [passOb, denO, Bool.false_eq_true, if_false, List.nil_append, List.append_nil]
      refine bind_some.2 ⟨[(wrapT g ((ys.map (·.1)).map (den1 G)), ys.flatMap (·.2))], l1, [], ?_, ?_, by simp⟩
      · exact bind_some.2 ⟨_, l1, [], hT, rfl, by simp⟩
      · exact pure_some.2 ⟨by simp, rfl⟩
    · have ho : oneOr g (ys.map (·.1)) = true := by
        simp only [oneOr, Bool.or_eq_true, beq_iff_eq, List.length_map] at hg ⊢
        rw [hlen]; exact hg
      simp only [denO, Bool.false_eq_true, if_false, cellsO, ho, List.flatMap_cons, List.flatMap_nil, List.append_nil]
      cases g with
      | true =>
        simp only [wrapT, refs, List.flatMap_map]
        exact flatMap_same fun c _ => refs1_den c.1
      | false =>
        match cs, hg, ys, hlen with
        | [c], _, [y], _ =>
          simp only [List.map_cons, List.map_nil, wrapT, List.flatMap_cons, List.flatMap_nil, List.append_nil]
          rw [← refs1_den]
          cases hd : den1 G y.1 with
          | agg l => exact absurd hd (den1_agg y.1 l)
          | tup l => exact absurd hd (den1_tup y.1 l)
          | _ => rfl
theorem reachQ_ok : ∀ {n : Nat} {os : List Nat} {done : List (Nat × O G.El)} {vs : Src} {r : List (Nat × O G.El) × Src} {l : List Nat}, (∀ p ∈ done, p.2.born = true) → (reachQ n os done vs).runs lk r l →
    (reach n os (denWr G done) vs).run (lkT G lk) = some ((denWr G r.1, r.2), l) ∧ ∀ p ∈ r.1, p.2.born = true
  | n, [], done, vs, r, l, hd, h => by
    have h : (Q.ret (done, vs) : Q G.El (List (Nat × O G.El) × Src)).runs lk r l := by cases n <;> exact h
    obtain ⟨rfl, rfl⟩ := runs_ret.1 h
    cases n <;> exact ⟨rfl, hd⟩
  | 0, o :: q, done, vs, r, l, hd, h => (runs_fail.1 h).elim
  | n + 1, o :: q, done, vs, r, l, hd, h => by
    have e : (denWr G done).any (fun p => p.1 == o) = done.any (fun p => p.1 == o) := by simp only [denWr, List.any_map]; rfl
    simp only [reachQ] at h
    simp only [reach]
    rw [e]
    split at h
    · rename_i hany
      rw [hany, if_pos rfl]
      exact reachQ_ok hd h
    · rename_i hany
      rw [hany, if_neg (by simp)]
      simp only [runs_bind, runs_get, runs_grd] at h
      obtain ⟨x, _, _, ⟨rfl, rfl⟩, ⟨_, _, _, ⟨hal, rfl⟩, ⟨y, l5, l6, h1, h2, rfl⟩, rfl⟩, rfl⟩ := h
      obtain ⟨h3, h4, h5⟩ := passOQ_ok h1
      have ih := reachQ_ok (fun p hp => by
        rcases List.mem_append.1 hp with hp | hp
        · exact hd p hp
        · obtain rfl := List.mem_singleton.1 hp; exact h5) h2
      refine ⟨?_, ih.2⟩
      refine bind_some.2 ⟨denO G (lk o), [o], _, obj_some.2 ⟨rfl, rfl⟩, bind_some.2 ⟨(), [], _, guard_some.2 ⟨by rw [alive_den]; exact hal, rfl⟩, bind_some.2 ⟨_, l5, l6, h3, ?_, rfl⟩, rfl⟩, rfl⟩
      rw [h4]
      have e2 : denWr G (done ++ [(o, y.1)]) = denWr G done ++ [(o, denO G y.1)] := by simp [denWr]
      rw [← e2]
      exact ih.1
end Go.Proofs.YtmjmoagmolgacaaGreatDoor.PN
namespace Go.Proofs.YtmjmoagmolgacaaGreatDoor.PN
open Go Go.Proofs.YtmjmoagmolgacaaGreatDoor.PM
variable {G : Sg} {P : Program} {α β : Type} {lk : Nat → O G.El} {look : Nat → Ob} {C : Cert} {prim : FuncId → Option (List T → List Ob → Option (T × List Ob))}
structure EvOk (P : Program) (C : Cert) (prim : FuncId → Option (List T → List Ob → Option (T × List Ob))) (G : Sg) (E : Ev G.El) : Prop where
  lent : ∀ f, E.lent f = (C f).lent
  call : ∀ (f : FuncId) (args : List (V G.El)) (objs : List (O G.El)) (lk : Nat → O G.El) (r : V G.El × List (O G.El)) (l : List Nat), (E.call f args objs).runs lk r l →
    l = [] ∧ callT P C prim f (args.map (denV G)) (objs.map (denO G)) = some (denV G r.1, r.2.map (denO G))
theorem mem_zip {α : Type} : ∀ (l : List α) (n : Nat) (p : α × Nat), p ∈ l.zipIdx n → p.1 ∈ l
  | [], n, p, h => by cases h
  | a :: r, n, p, h => by
    rw [List.zipIdx_cons] at h
    rcases List.mem_cons.1 h with rfl | h
    · simp
    · exact List.mem_cons_of_mem _ (mem_zip r (n + 1) p h)
theorem callQ_ok (ok : SgOk P G) {E : Ev G.El} (hE : EvOk P C prim G E) {f : FuncId} {args : List (V G.El)} {base : Nat} {e : Ef G.El} {l : List Nat} (h : (callQ G E f args base).runs lk e l) :
    (callR (envT P C prim) f (args.map (denV G)) base).run (lkT G lk) = some (denE G e, l) := by
  simp only [callQ, runs_bind, runs_grd] at h
  obtain ⟨aas, l1, _, h1, ⟨lv, l3, _, h2, ⟨_, _, _, ⟨hS, rfl⟩, ⟨ro, l7, _, h3, ⟨_, _, _, ⟨hg, rfl⟩, h4, rfl⟩, rfl⟩, rfl⟩, rfl⟩, rfl⟩ := h
  obtain ⟨rfl, rfl⟩ := runs_pure.1 h4
  obtain ⟨rfl, hc⟩ := hE.call _ _ _ _ _ _ h3
  have h1' := passAllQ_ok h1
  obtain ⟨h2', hborn⟩ := reachQ_ok (fun p hp => by cases hp) h2
  rw [hE.lent] at h1'
  simp only [Bool.and_eq_true, decide_eq_true_eq] at hg
  obtain ⟨⟨⟨hm, hfl⟩, hmay⟩, hrb⟩ := hg
  simp only [callR]
  have eL : (denWr G lv.1).map (·.1) = lv.1.map (·.1) := by simp [denWr, Function.comp]
  have eS : (aas.map fun p => (denV G p.1, p.2)).flatMap (·.2) = aas.flatMap (·.2) := by simp [List.flatMap_map]
  have eR : (aas.map fun p => (denV G p.1, p.2)).map (·.1) = aas.map fun p => denV G p.1 := by simp
  have eF : ((aas.map fun p => (denV G p.1, p.2)).map (·.1)).flatMap refs = (aas.map (·.1)).flatMap refsV := by
    rw [eR]
    simp only [List.flatMap_map]
    exact flatMap_same fun p _ => refs_den p.1
  have eO : (denWr G lv.1).map (·.2) = (lv.1.map (·.2)).map (denO G) := by simp [denWr, Function.comp]
  refine bind_some.2 ⟨_, l1, _, h1', bind_some.2 ⟨(denWr G lv.1, lv.2), l3, [], by rw [eF]; exact h2', ?_, by simp⟩, rfl⟩
  simp only [eL, eS]
  refine bind_some.2 ⟨(), [], [], guard_some.2 ⟨hS, rfl⟩, bind_some.2 ⟨(denV G ro.1, ro.2.map (denO G)), [], [], opt_some.2 ⟨?_, rfl⟩, bind_some.2 ⟨(), [], [], guard_some.2 ⟨?_, rfl⟩, pure_some.2 ⟨?_, rfl⟩, rfl⟩, rfl⟩, rfl⟩
  · show callT P C prim f _ _ = _
    rw [← hc]
    congr 1
    · simp only [List.map_map]
      refine List.map_congr_left fun p _ => ?_
      simp only [Function.comp]
      exact (mapV_den p.1).symm
    · simp only [List.map_map, denWr]
      refine List.map_congr_left fun p hp => ?_
      simp only [Function.comp]
      rw [mapO_den, setVer_den _ _ (.inr rfl)]
  · simp only [List.length_map, Bool.and_eq_true, decide_eq_true_eq]
    simp only [List.length_map] at hm
    refine ⟨⟨hm, ?_⟩, ?_⟩
    · simp only [Bool.or_eq_true] at hfl ⊢
      rcases hfl with hfl | hfl
      · exact .inl hfl
      · right
        simp only [List.all_map, List.all_eq_true, Function.comp] at hfl ⊢
        exact fun x hx => flatO_den ok (hfl x hx)
    · simp only [List.all_map, List.all_eq_true, Function.comp] at hmay ⊢
      intro x hx
      rw [may_den, alive_den]
      exact hmay x hx
  · simp only [denE, List.length_map, eO, ← backSO_den]
    rw [Eff.mk.injEq]
    refine ⟨mapV_den ro.1, ?_⟩
    simp only [denWr, List.map_map, List.zipIdx_map]
    refine List.map_congr_left fun p hp => ?_
    have hb : p.1.born = true := List.all_eq_true.1 hrb _ (mem_zip _ _ _ hp)
    simp only [Function.comp, Prod.map, Prod.mk.injEq, true_and, id_eq]
    rw [keepAs_den]
    have hb2 : (mapVO (backN (lv.1.map (·.1)) base ro.2.length) (backSO (lv.1.map (·.1)) base (lv.1.map (·.2)) ro.2 (aas.flatMap (·.2) ++ lv.2)) p.1).born = true := by
      cases hp1 : p.1 with
      | gone => rw [hp1] at hb; cases hb
      | _ => rfl
    rw [setVer_den _ _ (.inl hb2), mapO_den, verOfO_den, ver_den, List.map_map]
theorem findK_map {γ δ : Type} (g : γ → δ) : ∀ (l : List (Nat × γ)) (i : Nat), findK (l.map fun p => (p.1, g p.2)) i = (findK l i).map g
  | [], i => rfl
  | (k, x) :: r, i => by
    simp only [List.map_cons, findK]
    split
    · rfl
    · exact findK_map g r i
def denS (G : Sg) (s : S G.El) : St := { tmps := (List.range s.n).map fun i => denV G (lookV s.tm s.df i), store := denWr G s.st, nx := s.nx, m := s.m }
theorem get_den (s : S G.El) (t : Nat) : denV G (s.get t) = ((denS G s).tmps[t]?).getD .dead := by
  simp only [S.get, denS, List.getElem?_map]
  by_cases h : t < s.n
  · rw [decide_eq_true h]; simp [List.getElem?_range h]
  · rw [decide_eq_false h]
    have : (List.range s.n)[t]? = none := by rw [List.getElem?_eq_none_iff, List.length_range]; omega
    rw [this]; rfl
theorem lift1_den (v : Value) : den1 G (lift1V v) = lift1 v := by
  cases v with
  | slice a l c => cases a <;> cases l <;> cases c <;> rfl
  | _ => rfl
theorem lift_den (v : Value) : denV G (liftV v) = lift v := by
  cases v with
  | agg cs =>
    simp only [liftV, denV, denA, lift, List.map_map]
    exact congrArg T.agg (List.map_congr_left fun c _ => lift1_den c)
  | slice a l c => cases a <;> cases l <;> cases c <;> rfl
  | _ => rfl
theorem eval_den (s : S G.El) (o : Operand) : denV G (evalV s o) = evalT (denS G s).tmps o := by
  cases o with
  | tmp t => exact get_den s t
  | const v => exact lift_den v
  | func f => rfl
  | global g => rfl
theorem lookIn_den : ∀ (st : List (Nat × O G.El)) (o : Nat), lookIn (denWr G st) o = denO G (lookO st o)
  | [], o => rfl
  | (k, x) :: r, o => by
    simp only [denWr, List.map_cons, lookIn, lookO]
    split
    · rfl
    · exact lookIn_den r o
theorem putIn_den : ∀ (st : List (Nat × O G.El)) (o : Nat) (x : O G.El), denWr G (putO st o x) = putIn (denWr G st) o (denO G x)
  | [], o, x => rfl
  | (k, y) :: r, o, x => by
    simp only [denWr, List.map_cons, putIn, putO]
    split
    · rfl
    · simp only [List.map_cons]
      exact congrArg _ (putIn_den r o x)
theorem putAll_den : ∀ (wr st : List (Nat × O G.El)), denWr G (putOs st wr) = putAll (denWr G st) (denWr G wr)
  | [], st => rfl
  | (o, x) :: r, st => by
    show denWr G (putOs (putO st o x) r) = putAll (putIn (denWr G st) o (denO G x)) (denWr G r)
    rw [putAll_den, putIn_den]
theorem lk_den (s : S G.El) : lkT G (lookO s.st) = lookIn (denS G s).store := by
  funext o; exact (lookIn_den s.st o).symm
theorem putT_den (s : S G.El) (dst : Option Tmp) (v : V G.El) : denS G (putV s dst v) = { denS G s with tmps := putT (denS G s).tmps dst (denV G v) } := by
  cases dst with
  | none => rfl
  | some d =>
    simp only [putV, putT]
    by_cases h : d < s.n
    · rw [decide_eq_true h]
      simp only [denS, St.mk.injEq, and_true]
      apply List.ext_getElem?
      intro i
      rw [List.getElem?_set, List.getElem?_map, List.getElem?_map]
      by_cases hi : i < s.n
      · rw [List.getElem?_range hi]
        by_cases hd : d = i
        · subst hd; simp [lookV, findK, h]
        · simp [hd, lookV, findK]
      · have : (List.range s.n)[i]? = none := by rw [List.getElem?_eq_none_iff, List.length_range]; omega
        rw [this]
        have hd : d ≠ i := fun e => hi (e ▸ h)
        simp [hd]
    · rw [decide_eq_false h]
      simp only [denS, St.mk.injEq, and_true]
      rw [List.set_eq_of_length_le]
      rw [List.length_map, List.length_range]; exact Nat.le_of_not_lt h
end Go.Proofs.YtmjmoagmolgacaaGreatDoor.PN
namespace Go.Proofs.YtmjmoagmolgacaaGreatDoor.PN
open Go Go.Proofs.YtmjmoagmolgacaaGreatDoor.PM
variable {G : Sg} {P : Program} {α β : Type} {C : Cert} {prim : FuncId → Option (List T → List Ob → Option (T × List Ob))}
theorem vR {look : Nat → Ob} {r : Rd T} {t : T} {l : List Nat} (h : r.run look = some (t, l)) : (do pure ⟨← r, []⟩ : Rd Eff).run look = some (⟨t, []⟩, l) := bind_some.2 ⟨t, l, [], h, rfl, by simp⟩
theorem vQ {lk : Nat → O G.El} {q : Q G.El (V G.El)} {e : Ef G.El} {l : List Nat} (h : (do pure ⟨← q, []⟩ : Q G.El (Ef G.El)).runs lk e l) : q.runs lk e.val l ∧ e.wr = [] := by
  simp only [runs_bind, runs_pure] at h
  obtain ⟨w, l1, _, h1, ⟨rfl, rfl⟩, rfl⟩ := h
  exact ⟨by rw [List.append_nil]; exact h1, rfl⟩
theorem denE_v {e : Ef G.El} (h : e.wr = []) : denE G e = ⟨denV G e.val, []⟩ := by simp [denE, h, denWr]
theorem zip_mem {γ : Type} : ∀ (fs : List γ) (n f : Nat) (p : γ), fs[f]? = some p → (p, n + f) ∈ fs.zipIdx n
  | [], n, f, p, h => by simp at h
  | a :: r, n, 0, p, h => by simp at h; subst h; simp [List.zipIdx_cons]
  | a :: r, n, f + 1, p, h => by
    rw [List.zipIdx_cons]
    refine List.mem_cons_of_mem _ ?_
    have := zip_mem r (n + 1) f p (by simpa using h)
    rwa [Nat.add_assoc, Nat.add_comm 1 f] at this
theorem field_ok {t : TypeId} {fs : List (Nat × Nat)} {f : Nat} {p : Nat × Nat} (hk : KdOk P G t (.struct fs)) (h : fs[f]? = some p) : fieldT P t f = some p := by
  have h1 := List.all_eq_true.1 hk.1 (p, 0 + f) (zip_mem fs 0 f p h)
  simpa using h1
theorem wrapT_A (z : V G.El) (h : okA z = true) : wrapT (isAgg z) ((cellsV z).map (den1 G)) = denA G z := by
  cases z with
  | bp n c d => cases n <;> rfl
  | bb n x => cases n <;> rfl
  | _ => rfl
theorem u8_ok {kd : Kd} {t : TypeId} (hk : KdOk P G t kd) (h : isU8 kd = true) : P.underlying t = some (.int .u8) := by
  cases kd with
  | int k => cases k <;> first | exact hk | cases h
  | _ => cases h
theorem str_ok {kd : Kd} {t : TypeId} (hk : KdOk P G t kd) (h : isStrK kd = true) : P.underlying t = some .string := by
  cases kd <;> first | exact hk | cases h
theorem convQ_ok (ok : SgOk P G) {lk : Nat → O G.El} {base : Nat} {src dst : TypeId} {x : V G.El} {e : Ef G.El} {l : List Nat} {E : Env} {s : St} {o : Oper} (ho : ∃ xo, o.op = .convert src dst xo ∧ evalT s.tmps xo = denV G x) (h : (convQ G base src dst x).runs lk e l) :
    (opR P E s.tmps base o).run (lkT G lk) = some (denE G e, l) := by
  obtain ⟨xo, ho, hx⟩ := ho
  obtain ⟨d, op, ty, pos, af, gd⟩ := o
  simp only at ho
  subst ho
  simp only [opR, hx]
  simp only [convQ, runs_bind, runs_opt] at h
  obtain ⟨a, _, _, ⟨ha, rfl⟩, ⟨b, _, _, ⟨hb, rfl⟩, h2, rfl⟩, rfl⟩ := h
  have ka := (ok.ti _ _ ha).kd
  have kb := (ok.ti _ _ hb).kd
  split at h2
  · rename_i k1 k2 e1 e2
    rw [e1] at ka; rw [e2] at kb
    split at h2
    · rename_i k n la hi
      obtain ⟨rfl, rfl⟩ := runs_pure.1 h2
      rw [(intV_some hi).2, show P.underlying src = some (.int k1) from ka, show P.underlying dst = some (.int k2) from kb]
      refine (vR (opt_some.2 ⟨ev_conv k2 n, rfl⟩)).trans ?_
      simp [denE, denWr, mkI_den]
    · exact (runs_fail.1 h2).elim
  · rename_i e1 e2
    rw [e1] at ka; rw [e2] at kb
    split at h2
    · obtain ⟨rfl, rfl⟩ := runs_pure.1 h2
      rw [show P.underlying src = some .string from ka, show P.underlying dst = some .string from kb]; rfl
    · exact (runs_fail.1 h2).elim
  · rename_i e' ec e1 e2
    rw [e1] at ka; rw [e2] at kb
    split at h2
    · rename_i s
      simp only [runs_bind, runs_opt, runs_grd, runs_nd, runs_pure, Bool.and_eq_true, beq_iff_eq] at h2
      obtain ⟨ie, _, _, ⟨hie, rfl⟩, ⟨_, _, _, ⟨⟨hsoft, ⟨⟨hw, hu⟩, hk1⟩, hb1⟩, rfl⟩, ⟨_, _, _, ⟨hs, rfl⟩, ⟨xs, _, _, ⟨hxs, rfl⟩, ⟨rfl, rfl⟩, rfl⟩, rfl⟩, rfl⟩, rfl⟩ := h2
      have hie := ok.ti _ _ hie
      rw [show P.underlying src = some .string from ka, show P.underlying dst = some (.slice e') from kb]
      refine bind_some.2 ⟨(), [], [], guard_some.2 ⟨by rw [u8_ok hie.kd hu], rfl⟩, bind_some.2 ⟨(), [], [], guard_some.2 ⟨by rw [hie.sz, hie.by_, hk1, hb1]; simp [hs, hsoft], rfl⟩, pure_some.2 ⟨?_, rfl⟩, rfl⟩, rfl⟩
      simp only [denE, denV, denA, den1, denWr, List.map_cons, List.map_nil, denO, rowsOf, ok.ofStr _ _ _ hxs, hw, N.v]
    · exact (runs_fail.1 h2).elim
  · rename_i e' ec e1 e2
    rw [e1] at ka; rw [e2] at kb
    simp only [runs_bind, runs_opt, runs_grd, runs_pure, Bool.and_eq_true, beq_iff_eq] at h2
    obtain ⟨ie, _, _, ⟨hie, rfl⟩, ⟨_, _, _, ⟨⟨⟨hw, hu⟩, hk1⟩, rfl⟩, ⟨ns, l9, _, hns, ⟨st, _, _, ⟨hst, rfl⟩, ⟨rfl, rfl⟩, rfl⟩, rfl⟩, rfl⟩, rfl⟩ := h2
    have hie := ok.ti _ _ hie
    rw [show P.underlying src = some (.slice e') from ka, show P.underlying dst = some .string from kb]
    have hN : (elemsR (denV G x)).run (lkT G lk) = some (ns.1.map (G.enc ec), l9) ∧ (scOf (denV G x)).isNone = true ∧ (∀ v, denV G x ≠ .sc v) := by
      rcases elemsQ_ok ok hns with ⟨h1, h2, ys, src, hx⟩ | ⟨h1, h2, ⟨o, a, b, hx⟩ | hx⟩ <;> exact ⟨h1, by rw [hx]; rfl, by rw [hx]; intro v e; cases e⟩
    have e0 : ([] ++ ([] ++ ([] ++ ([] ++ (l9 ++ ([] ++ []))))) : List Nat) = l9 := by simp
    simp only [List.nil_append, List.append_nil]
    generalize denV G x = t at hN
    have hwid : wid 1 (ns.1.map (G.enc ec)) = true := by rw [← hw]; exact wid_enc ok _ _
    have hU := u8_ok hie.kd hu
    have fin : (do
          guardR (match P.underlying e' with | some (.int .u8) => true | _ => false)
          let ns ← elemsR t
          let bs ← Rd.ofOption (bytesOf ns)
          guardR ((scOf t).isNone && wid 1 ns)
          pure ⟨.sc (.string ⟨bs.toArray⟩), []⟩ : Rd Eff).run (lkT G lk) = some (denE G ⟨.s st, []⟩, l9) := by
      refine bind_some.2 ⟨(), [], l9, guard_some.2 ⟨by rw [hU], rfl⟩, bind_some.2 ⟨_, l9, [], hN.1, bind_some.2 ⟨st.data.toList, [], [], opt_some.2 ⟨ok.toStr _ _ _ hst, rfl⟩, bind_some.2 ⟨(), [], [], guard_some.2 ⟨?_, rfl⟩, rfl, rfl⟩, rfl⟩, by simp⟩, rfl⟩
      rw [hN.2.1, hwid]; rfl
    cases t with
    | sc v => exact absurd rfl (hN.2.2 v)
    | _ => exact fin
  · exact (runs_fail.1 h2).elim
theorem min_run {ts : Array TypeId} {ty : TypeId} {look : Nat → Ob} {k : IntKind} {a b : Int} :
    (match ([T.sc (.int k a), T.sc (.int k b)]).mapM scOf with
      | some vs => if vs.all plainB then Rd.ofOption ((pureOf (Builtin.min_ ts ty vs.toArray)).bind scP) else .fail
      | none => .fail : Rd T).run look = some (.sc (.int k (minI a b)), []) :=
  opt_some.2 ⟨ev_min (ts := ts) (ty := ty) (k := k) (k' := k) (a := a) (b := b), rfl⟩
theorem max_run {ts : Array TypeId} {ty : TypeId} {look : Nat → Ob} {k : IntKind} {a b : Int} :
    (match ([T.sc (.int k a), T.sc (.int k b)]).mapM scOf with
      | some vs => if vs.all plainB then Rd.ofOption ((pureOf (Builtin.max_ ts ty vs.toArray)).bind scP) else .fail
      | none => .fail : Rd T).run look = some (.sc (.int k (maxI a b)), []) :=
  opt_some.2 ⟨ev_max (ts := ts) (ty := ty) (k := k) (k' := k) (a := a) (b := b), rfl⟩
theorem caps_den {caps : List (V G.El)} (h : caps.all isPtr = true) : caps.map denP = caps.map (denV G) := by
  refine List.map_congr_left fun c hc => ?_
  have := List.all_eq_true.1 h c hc
  cases c <;> first | rfl | cases this
theorem isPtr_V {v : V G.El} (h : isPtr v = true) : (match denV G v with | .ptr .. => true | _ => false) = true := by cases v <;> first | rfl | cases h
theorem opQ_ok (ok : SgOk P G) {E : Ev G.El} (hE : EvOk P C prim G E) {s : S G.El} {base : Nat} {o : Oper} {e : Ef G.El} {l : List Nat} (h : (opQ G E s base o).runs (lookO s.st) e l) :
    (opR P (envT P C prim) (denS G s).tmps base o).run (lkT G (lookO s.st)) = some (denE G e, l) := by
  obtain ⟨dst, op, ty, pos, af, gd⟩ := o
  have ev : ∀ x, evalT (denS G s).tmps x = denV G (evalV s x) := fun x => (eval_den s x).symm
  have evs : ∀ xs : List Operand, xs.map (evalT (denS G s).tmps) = (xs.map (evalV s)).map (denV G) := by
    intro xs; rw [List.map_map]; exact List.map_congr_left fun x _ => ev x
  have evp : ∀ ps : List (Nat × Operand), ps.map (fun p => (p.1, evalT (denS G s).tmps p.2)) = (ps.map fun p => (p.1, evalV s p.2)).map (fun p => (p.1, denV G p.2)) := by
    intro ps; rw [List.map_map]; exact List.map_congr_left fun p _ => by simp only [Function.comp, ev]
  have evo : ∀ x : Option Operand, x.map (evalT (denS G s).tmps) = (x.map (evalV s)).map (denV G) := by
    intro x; cases x with
    | none => rfl
    | some x => exact congrArg some (ev x)
  cases op with
  | move x => simp only [opQ] at h; obtain ⟨rfl, rfl⟩ := runs_ret.1 h; simp only [opR, ev]; rfl
  | assign x => simp only [opQ] at h; obtain ⟨rfl, rfl⟩ := runs_ret.1 h; simp only [opR, ev]; rfl
  | alloc t =>
    simp only [opQ, runs_bind, runs_opt, runs_grd, runs_pure] at h
    obtain ⟨inf, _, _, ⟨hi, rfl⟩, ⟨z, _, _, hz, ⟨_, _, _, ⟨h1, rfl⟩, ⟨rfl, rfl⟩, rfl⟩, rfl⟩, rfl⟩ := h
    have hi := ok.ti _ _ hi
    obtain ⟨rfl, hz1, hz2, hz3⟩ := zeroQ_ok hz
    simp only [opR]
    refine bind_some.2 ⟨denA G z, [], [], opt_some.2 ⟨hi.ze z hz1, rfl⟩, bind_some.2 ⟨inf.k, [], [], opt_some.2 ⟨hi.sz, rfl⟩, bind_some.2 ⟨(), [], [], guard_some.2 ⟨?_, rfl⟩, pure_some.2 ⟨?_, rfl⟩, rfl⟩, rfl⟩, rfl⟩
    · rw [okA_width hz2, hz3, denA_cells, all_cellT h1]; simp
    · simp only [denE, denV, denA, den1, denWr, List.map_cons, List.map_nil, denO]
      rw [wrapT_A z hz2]; rfl
  | box t x =>
    simp only [opQ, runs_bind, runs_opt] at h
    obtain ⟨inf, _, _, ⟨hi, rfl⟩, h2, rfl⟩ := h
    have hi := ok.ti _ _ hi
    simp only [opR, ev]
    cases hx : evalV s x with
    | agg cs =>
      rw [hx] at h2
      simp only [runs_bind, runs_grd, runs_pure, Bool.and_eq_true, beq_iff_eq] at h2
      obtain ⟨_, _, _, ⟨⟨h3, h4⟩, rfl⟩, ⟨rfl, rfl⟩, rfl⟩ := h2
      refine bind_some.2 ⟨inf.k, [], [], opt_some.2 ⟨hi.sz, rfl⟩, bind_some.2 ⟨(), [], [], guard_some.2 ⟨?_, rfl⟩, pure_some.2 ⟨rfl, rfl⟩, rfl⟩, rfl⟩
      show ((cs.map (den1 G)).length == inf.k && (cs.map (den1 G)).all cellT) = true
      rw [List.length_map, h3, all_cellT h4]; simp
    | _ =>
      rw [hx] at h2
      simp only [runs_bind, runs_grd, runs_pure, Bool.and_eq_true, beq_iff_eq] at h2
      obtain ⟨_, _, _, ⟨⟨h3, h4⟩, rfl⟩, ⟨rfl, rfl⟩, rfl⟩ := h2
      have hc := cellT_den1 (G := G) h3
      first
        | (cases h3; done)
        | (rw [denV_isCell h3]
           refine bind_some.2 ⟨inf.k, [], [], opt_some.2 ⟨hi.sz, rfl⟩, bind_some.2 ⟨(), [], [], guard_some.2 ⟨?_, rfl⟩, pure_some.2 ⟨rfl, rfl⟩, rfl⟩, rfl⟩
           show ((den1 G _).cells.length == inf.k && (den1 G _).cells.all cellT) = true
           rw [cells_den1, h4]; simp [hc])
  | build t ps =>
    simp only [opQ] at h
    obtain ⟨h1, h2⟩ := vQ h
    rw [denE_v h2]
    simp only [opR]
    refine vR ?_
    rw [show ps.toList.map (fun p => (p.1, evalT (denS G s).tmps p.2)) = (ps.toList.map fun p => (p.1, evalV s p.2)).map (fun p => (p.1, denV G p.2)) from evp ps.toList]
    exact buildQ_ok ok h1
  | buildSlice t n ps =>
    simp only [opQ] at h
    simp only [opR]
    rw [show ps.toList.map (fun p => (p.1, evalT (denS G s).tmps p.2)) = (ps.toList.map fun p => (p.1, evalV s p.2)).map (fun p => (p.1, denV G p.2)) from evp ps.toList]
    exact buildSliceQ_ok ok h
  | load t a =>
    by_cases ha : ∃ g, a = .global g
    · obtain ⟨g, rfl⟩ := ha
      simp only [opQ, runs_bind, runs_opt, runs_grd, runs_pure, Bool.and_eq_true, beq_iff_eq] at h
      obtain ⟨inf, _, _, ⟨hi, rfl⟩, ⟨_, _, _, ⟨⟨hk, hg⟩, rfl⟩, ⟨rfl, rfl⟩, rfl⟩, rfl⟩ := h
      have hi := ok.ti _ _ hi
      simp only [opR]
      refine vR ?_
      refine bind_some.2 ⟨0, [], [], opt_some.2 ⟨by rw [hi.sz, hk], rfl⟩, bind_some.2 ⟨true, [], [], opt_some.2 ⟨by rw [hi.ag, hg], rfl⟩, bind_some.2 ⟨(), [], [], guard_some.2 ⟨rfl, rfl⟩, rfl, rfl⟩, rfl⟩, rfl⟩
    · have e1 : opQ G E s base ⟨dst, .load t a, ty, pos, af, gd⟩ = (do pure ⟨← loadQ G t (evalV s a), []⟩) := by
        cases a <;> first | rfl | exact absurd ⟨_, rfl⟩ ha
      have e2 : opR P (envT P C prim) (denS G s).tmps base ⟨dst, .load t a, ty, pos, af, gd⟩ = (do pure ⟨← loadR P t (evalT (denS G s).tmps a), []⟩) := by
        cases a <;> first | rfl | exact absurd ⟨_, rfl⟩ ha
      rw [e1] at h
      rw [e2]
      obtain ⟨h1, h2⟩ := vQ h
      rw [denE_v h2, ev]
      obtain ⟨h3, h4⟩ := loadQ_ok ok h1
      rw [denV_okA h4]
      exact vR h3
  | store t a x =>
    simp only [opQ, runs_bind, runs_pure] at h
    obtain ⟨wr, l1, _, h1, ⟨rfl, rfl⟩, rfl⟩ := h
    simp only [opR, ev]
    exact bind_some.2 ⟨_, l1, [], storeQ_ok ok h1, rfl, rfl⟩
  | nilCheck x =>
    simp only [opQ] at h
    simp only [opR, ev]
    cases hx : evalV s x with
    | ptr o i j => rw [hx] at h; obtain ⟨rfl, rfl⟩ := runs_ret.1 h; rfl
    | rp t y j src => rw [hx] at h; obtain ⟨rfl, rfl⟩ := runs_ret.1 h; rfl
    | fn f c => rw [hx] at h; obtain ⟨rfl, rfl⟩ := runs_ret.1 h; rfl
    | _ => rw [hx] at h; exact (runs_fail.1 h).elim
  | binOp op t x y yt =>
    simp only [opQ] at h
    obtain ⟨h1, h2⟩ := vQ h
    rw [denE_v h2]
    have := binQ_ok (look := lkT G (lookO s.st)) ok h1
    rw [← ev, ← ev] at this
    exact vR this
  | unOp op t x =>
    simp only [opQ] at h
    obtain ⟨h1, h2⟩ := vQ h
    rw [denE_v h2]
    have := unQ_ok (look := lkT G (lookO s.st)) h1
    rw [← ev] at this
    exact vR this
  | convert src dst' x =>
    simp only [opQ] at h
    exact convQ_ok ok ⟨x, rfl, ev x⟩ h
  | makeFunc fn first caps =>
    cases fn with
    | func f =>
      simp only [opQ, runs_bind, runs_grd, runs_pure, Bool.and_eq_true, beq_iff_eq] at h
      obtain ⟨_, _, _, ⟨⟨h1, h2⟩, rfl⟩, ⟨rfl, rfl⟩, rfl⟩ := h
      simp only [opR]
      refine bind_some.2 ⟨(), [], [], guard_some.2 ⟨?_, rfl⟩, pure_some.2 ⟨?_, rfl⟩, rfl⟩
      · rw [evs, List.all_map]
        simp only [Bool.and_eq_true, beq_iff_eq, List.all_eq_true, Function.comp]
        exact ⟨h1, fun v hv => isPtr_V (List.all_eq_true.1 h2 v hv)⟩
      · rw [evs, ← caps_den h2]; rfl
    | _ => exact (runs_fail.1 h).elim
  | makeSlice t lv cv =>
    simp only [opQ] at h
    simp only [opR, ev]
    exact makeSliceQ_ok ok h
  | slice t x lo hi mx =>
    simp only [opQ] at h
    obtain ⟨h1, h2⟩ := vQ h
    rw [denE_v h2]
    simp only [opR, ev, evo]
    obtain ⟨h3, h4⟩ := sliceQ_ok ok h1
    rw [denV_okA (okA_isCell h4)]
    exact vR h3
  | fieldAddr t x f =>
    simp only [opQ, runs_bind, runs_opt] at h
    obtain ⟨inf, _, _, ⟨hi, rfl⟩, h2, rfl⟩ := h
    have hk := (ok.ti _ _ hi).kd
    split at h2
    · rename_i fs he
      rw [he] at hk
      simp only [runs_bind, runs_opt, runs_grd, fieldAt, decide_eq_true_eq] at h2
      obtain ⟨p, _, _, ⟨hp, rfl⟩, ⟨ie, _, _, ⟨hie, rfl⟩, ⟨_, _, _, ⟨hpos, rfl⟩, h3, rfl⟩, rfl⟩, rfl⟩ := h2
      have hf := field_ok hk hp
      simp only [opR, ev]
      have pre : ∀ t', (match denV G (evalV s x) with | .ptr o i j => pure (T.ptr o i (j + p.1)) | .rp x j src => pure (T.rp x (j + p.1) src) | _ => .fail : Rd T).run (lkT G (lookO s.st)) = some (t', []) → denE G e = ⟨t', []⟩ →
          (do pure ⟨← (do
            let ft ← Rd.ofOption (fieldT P t f)
            let n ← Rd.ofOption (szT P ft.2)
            guardR (decide (0 < n))
            match denV G (evalV s x) with
            | .ptr o i j => pure (.ptr o i (j + ft.1))
            | .rp x j src => pure (.rp x (j + ft.1) src)
            | _ => .fail : Rd T), []⟩ : Rd Eff).run (lkT G (lookO s.st)) = some (denE G e, []) := by
        intro t' h1 h2
        rw [h2]
        exact vR (bind_some.2 ⟨p, [], [], opt_some.2 ⟨hf, rfl⟩, bind_some.2 ⟨ie.k, [], [], opt_some.2 ⟨(ok.ti _ _ hie).sz, rfl⟩, bind_some.2 ⟨(), [], [], guard_some.2 ⟨by simp [hpos], rfl⟩, h1, rfl⟩, rfl⟩, rfl⟩)
      cases hx : evalV s x with
      | ptr o i j =>
        rw [hx] at h3; obtain ⟨rfl, rfl⟩ := runs_pure.1 h3
        rw [hx] at pre
        exact pre _ rfl rfl
      | rp t' y j src =>
        rw [hx] at h3; obtain ⟨rfl, rfl⟩ := runs_pure.1 h3
        rw [hx] at pre
        exact pre _ rfl rfl
      | _ => rw [hx] at h3; exact (runs_fail.1 h3).elim
    · exact (runs_fail.1 h2).elim
  | field t x f =>
    simp only [opQ, runs_bind, runs_opt] at h
    obtain ⟨inf, _, _, ⟨hi, rfl⟩, h2, rfl⟩ := h
    have hk := (ok.ti _ _ hi).kd
    split at h2
    · rename_i fs he
      rw [he] at hk
      simp only [runs_bind, runs_opt, fieldAt] at h2
      obtain ⟨p, _, _, ⟨hp, rfl⟩, ⟨ie, _, _, ⟨hie, rfl⟩, h3, rfl⟩, rfl⟩ := h2
      have hf := field_ok hk hp
      simp only [opR, ev]
      cases hx : evalV s x with
      | agg cs =>
        rw [hx] at h3
        obtain ⟨h4, h5⟩ := vQ h3
        obtain ⟨h6, h7, rfl, _⟩ := takeQ_ok (look := lkT G (lookO s.st)) (ok.ti _ _ hie) h4
        rw [denE_v h5, denV_okA h7]
        exact vR (bind_some.2 ⟨p, [], [], opt_some.2 ⟨hf, rfl⟩, h6, rfl⟩)
      | _ => rw [hx] at h3; exact (runs_fail.1 h3).elim
    · exact (runs_fail.1 h2).elim
  | indexAddr t x ix =>
    simp only [opQ] at h
    obtain ⟨h1, h2⟩ := vQ h
    rw [denE_v h2]
    simp only [opR, ev]
    exact vR (indexAddrQ_ok ok h1)
  | index t x ix =>
    simp only [opQ, runs_bind, runs_opt, runs_grd] at h
    obtain ⟨inf, _, _, ⟨hi, rfl⟩, ⟨_, _, _, ⟨hs, rfl⟩, h2, rfl⟩, rfl⟩ := h
    have hu := str_ok (ok.ti _ _ hi).kd hs
    simp only [opR, ev]
    cases hx : evalV s x with
    | s str =>
      rw [hx] at h2
      cases hix : intV (evalV s ix) with
      | none => rw [hix] at h2; exact (runs_fail.1 h2).elim
      | some q =>
        obtain ⟨k, i, li⟩ := q
        rw [hix] at h2
        simp only [runs_bind, runs_nd, runs_pure] at h2
        obtain ⟨_, l1, _, h3, ⟨_, _, _, ⟨h4, rfl⟩, ⟨rfl, rfl⟩, rfl⟩, rfl⟩ := h2
        have h5 : l1 = [] ∧ 0 ≤ i := by
          cases li with
          | true => have := runs_grd.1 h3; exact ⟨this.2, of_decide_eq_true this.1⟩
          | false => have := runs_nd.1 h3; exact ⟨this.2, this.1⟩
        obtain ⟨rfl, h5⟩ := h5
        rw [(intV_some hix).2, hu, denE_v rfl, mkI_den]
        refine vR ?_
        show (if 0 ≤ i then Rd.ofOption ((str[i.toNat]?).map fun b => T.sc (.int .u8 b.toNat)) else .fail : Rd T).run _ = _
        rw [if_pos h5]
        exact opt_some.2 ⟨byteAt_eq str i h5 h4, rfl⟩
    | _ => rw [hx] at h2; exact (runs_fail.1 h2).elim
  | extract x i =>
    simp only [opQ] at h
    simp only [opR, ev]
    cases hx : evalV s x with
    | tup ts =>
      rw [hx] at h
      simp only [runs_bind, runs_opt, runs_grd, runs_pure] at h
      obtain ⟨v, _, _, ⟨h1, rfl⟩, ⟨_, _, _, ⟨h2, rfl⟩, ⟨rfl, rfl⟩, rfl⟩, rfl⟩ := h
      rw [denE_v rfl, denV_okA h2]
      exact vR (opt_some.2 ⟨by rw [List.getElem?_map, h1]; rfl, rfl⟩)
    | _ => rw [hx] at h; exact (runs_fail.1 h).elim
  | call c =>
    obtain ⟨callee, args, ats⟩ := c
    cases callee with
    | invoke r m => exact (runs_fail.1 h).elim
    | value f =>
      simp only [opQ] at h
      simp only [opR, ev, evs]
      cases hf : evalV s f with
      | fn g caps =>
        rw [hf] at h
        simp only [runs_bind, runs_grd] at h
        obtain ⟨_, _, _, ⟨hc, rfl⟩, h1, rfl⟩ := h
        have := callQ_ok ok hE h1
        rw [List.map_append] at this
        simp only [denV, denA, den1, caps_den hc]
        exact this
      | _ => rw [hf] at h; exact (runs_fail.1 h).elim
    | builtin b =>
      cases b with
      | append =>
        simp only [opQ] at h
        simp only [opR, evs]
        split at h
        · rename_i a x he
          simp only [runs_bind, runs_grd, beq_iff_eq] at h
          obtain ⟨_, _, _, ⟨hs, rfl⟩, h1, rfl⟩ := h
          rw [he]
          simp only [List.map_cons, List.map_nil, if_pos hs]
          exact appendQ_ok ok h1
        · exact (runs_fail.1 h).elim
      | len =>
        simp only [opQ] at h
        simp only [opR, evs]
        split at h
        · rename_i x he
          obtain ⟨h1, h2⟩ := vQ h
          rw [he, denE_v h2]
          exact vR (lenQ_ok ok h1)
        · exact (runs_fail.1 h).elim
      | copy =>
        simp only [opQ] at h
        simp only [opR, evs]
        split at h
        · rename_i d x he
          rw [he]
          exact copyQ_ok ok h
        · exact (runs_fail.1 h).elim
      | min =>
        simp only [opQ] at h
        simp only [opR, evs]
        split at h
        · rename_i x y he
          obtain ⟨h1, h2⟩ := vQ h
          obtain ⟨rfl, k, a, b, hx, hy, hw⟩ := minQ_den h1
          rw [he, denE_v h2, hw]
          simp only [List.map_cons, List.map_nil, hx, hy, Bool.false_eq_true, if_false]
          exact vR min_run
        · exact (runs_fail.1 h).elim
      | max =>
        simp only [opQ] at h
        simp only [opR, evs]
        split at h
        · rename_i x y he
          obtain ⟨h1, h2⟩ := vQ h
          obtain ⟨rfl, k, a, b, hx, hy, hw⟩ := minQ_den h1
          rw [he, denE_v h2, hw]
          simp only [List.map_cons, List.map_nil, hx, hy, if_true]
          exact vR max_run
        · exact (runs_fail.1 h).elim
      | _ => exact (runs_fail.1 h).elim
  | _ => exact (runs_fail.1 h).elim
end Go.Proofs.YtmjmoagmolgacaaGreatDoor.PN
namespace Go.Proofs.YtmjmoagmolgacaaGreatDoor.PN
open Go Go.Proofs.YtmjmoagmolgacaaGreatDoor.PM
variable {G : Sg} {P : Program} {α β L : Type} {C : Cert} {prim : FuncId → Option (List T → List Ob → Option (T × List Ob))}
def Tree.yields (R : L → Prop) : Tree L → Prop
  | .leaf x => R x
  | .fail => False
  | .need c _ k => ∃ h : c, (k h).yields R
  | .ite c _ t e => (∃ h : c, (t h).yields R) ∨ ∃ h : ¬ c, (e h).yields R
  | .call _ x k => ∃ r, x = some r ∧ (k r).yields R
  | .callc _ x _ k => ∃ e r h, (k e r h).yields R
  | .same _ x _ r k => ∃ e h, (k e h).yields R
  | .either _ _ x l r => match x with
    | .inl a => (l a).yields R
    | .inr b => (r b).yields R
variable {R : L → Prop}
theorem runQ_yields {lk : Nat → O G.El} : ∀ {q : Q G.El α} {h : H} {k : α → List Nat → H → Tree L}, (runQ lk q h k).yields R → ∃ a l h', q.runs lk a l ∧ (k a l h').yields R := by
  intro q
  induction q with
  | ret a => intro h k hy; exact ⟨a, [], h, ⟨rfl, rfl⟩, hy⟩
  | fail => intro h k hy; exact hy.elim
  | get o f ih =>
    intro h k hy
    obtain ⟨a, l, h', h1, h2⟩ := ih (lk o) hy
    exact ⟨a, o :: l, h', (says_mono (lk := lk) (q := f (lk o)) (fun a' l' hh => ⟨hh.1, by rw [hh.2]⟩) h1 : (f (lk o)).says lk fun a' l' => a' = a ∧ o :: l' = o :: l), h2⟩
  | need c d f ih =>
    intro h k hy
    obtain ⟨hc, hy⟩ := hy
    obtain ⟨a, l, h', h1, h2⟩ := ih hy
    exact ⟨a, l, h', ⟨hc, h1⟩, h2⟩
  | call ρ x f ih =>
    intro h k hy
    have plain : ∀ h, (Tree.call ρ x fun r => runQ lk (f r) h k).yields R → ∃ a l h', (Q.call ρ x f).runs lk a l ∧ (k a l h').yields R := by
      intro h hy
      obtain ⟨r, hr, hy⟩ := hy
      obtain ⟨a, l, h', h1, h2⟩ := ih r hy
      exact ⟨a, l, h', ⟨r, hr, h1⟩, h2⟩
    cases h with
    | bindr ρ' g =>
      obtain ⟨e, r, hr, hy⟩ := hy
      obtain ⟨a, l, h', h1, h2⟩ := ih (e ▸ r) hy
      exact ⟨a, l, h', ⟨_, hr, h1⟩, h2⟩
    | re ρ' r n =>
      obtain ⟨e, hr, hy⟩ := hy
      obtain ⟨a, l, h', h1, h2⟩ := ih (e ▸ r) hy
      exact ⟨a, l, h', ⟨_, hr, h1⟩, h2⟩
    | all => exact plain _ hy
    | both a b => exact plain _ hy
    | l a => exact plain _ hy
    | r a => exact plain _ hy
    | two a b => exact plain _ hy
    | skip n => exact plain _ hy
  | either β γ x f g ih1 ih2 =>
    intro h k hy
    have hy : ∃ h1 h2, (Tree.either β γ x (fun a => runQ lk (f a) h1 k) (fun b => runQ lk (g b) h2 k)).yields R := by
      cases h with
      | two h1 h2 => exact ⟨h1, h2, hy⟩
      | all => exact ⟨_, _, hy⟩
      | both a b => exact ⟨_, _, hy⟩
      | l a => exact ⟨_, _, hy⟩
      | r b => exact ⟨_, _, hy⟩
      | bindr ρ g => exact ⟨_, _, hy⟩
      | re ρ r n => exact ⟨_, _, hy⟩
      | skip n => exact ⟨_, _, hy⟩
    obtain ⟨h1, h2, hy⟩ := hy
    cases x with
    | inl a => exact ih1 a hy
    | inr b => exact ih2 b hy
theorem forkP_yields {c : Prop} {d : Decidable c} {h : H} {t e : H → Tree L} (hy : (forkP c d h t e).yields R) : (c ∧ ∃ h', (t h').yields R) ∨ (¬ c ∧ ∃ h', (e h').yields R) := by
  cases h with
  | all =>
    rcases hy with ⟨hc, hy⟩ | ⟨hc, hy⟩
    · exact .inl ⟨hc, _, hy⟩
    · exact .inr ⟨hc, _, hy⟩
  | both a b =>
    rcases hy with ⟨hc, hy⟩ | ⟨hc, hy⟩
    · exact .inl ⟨hc, _, hy⟩
    · exact .inr ⟨hc, _, hy⟩
  | l a => obtain ⟨hc, hy⟩ := hy; exact .inl ⟨hc, _, hy⟩
  | r b => obtain ⟨hc, hy⟩ := hy; exact .inr ⟨hc, _, hy⟩
  | two a b => exact hy.elim
  | bindr ρ g => exact hy.elim
  | re ρ r n => exact hy.elim
  | skip n => exact hy.elim
theorem fork_yields {v : V G.El} {h : H} {t e : H → Tree L} (hy : (fork v h t e).yields R) : ∃ b h', boolOf v = some b ∧ (if b = true then t h' else e h').yields R := by
  cases v with
  | bl b => cases b <;> exact ⟨_, h, rfl, hy⟩
  | bp n c d =>
    cases n with
    | false =>
      rcases forkP_yields hy with ⟨hc, h', hy⟩ | ⟨hc, h', hy⟩
      · exact ⟨true, h', by simp [boolOf, hc], hy⟩
      · exact ⟨false, h', by simp [boolOf, hc], hy⟩
    | true =>
      rcases forkP_yields hy with ⟨hc, h', hy⟩ | ⟨hc, h', hy⟩
      · exact ⟨false, h', by simp [boolOf, hc], hy⟩
      · exact ⟨true, h', by simp [boolOf, hc], hy⟩
  | bb n x =>
    cases n with
    | false =>
      rcases forkP_yields hy with ⟨hc, h', hy⟩ | ⟨hc, h', hy⟩
      · exact ⟨true, h', by simp [boolOf, hc], hy⟩
      · exact ⟨false, h', by simp at hc; simp [boolOf, hc], hy⟩
    | true =>
      rcases forkP_yields hy with ⟨hc, h', hy⟩ | ⟨hc, h', hy⟩
      · exact ⟨false, h', by simp [boolOf, hc], hy⟩
      · exact ⟨true, h', by simp at hc; simp [boolOf, hc], hy⟩
  | _ => exact hy.elim
theorem notV_ok {v w : V G.El} (h : notV v = some w) {b : Bool} (hb : boolOf w = some b) : boolOf v = some !b := by
  cases v with
  | bl x => obtain rfl := Option.some.inj h; obtain rfl := Option.some.inj hb; simp [boolOf]
  | bp n c d => obtain rfl := Option.some.inj h; obtain rfl := Option.some.inj hb; cases n <;> simp [boolOf]
  | bb n x => obtain rfl := Option.some.inj h; obtain rfl := Option.some.inj hb; cases n <;> simp [boolOf]
  | _ => cases h
theorem tmps_get {s : S G.El} {t : Nat} (h : t < s.n) : (denS G s).tmps[t]? = some (denV G (s.get t)) := by
  simp only [denS, List.getElem?_map, List.getElem?_range h, Option.map_some, S.get, decide_eq_true h]
theorem wantV_ok {ops : Array Oper} {s : S G.El} {o : Oper} {v : V G.El} {b : Bool} (h : wantV ops s o = some v) (hb : boolOf v = some b) : wantR ops (denS G s).tmps o = some b := by
  unfold wantV at h
  unfold wantR
  cases hg : o.guard with
  | none =>
    rw [hg] at h
    obtain rfl := Option.some.inj h
    exact hb
  | some p =>
    obtain ⟨j, want⟩ := p
    rw [hg] at h
    simp only at h ⊢
    cases hd : (ops[j]?).bind (·.dst) with
    | none => rw [hd] at h; cases h
    | some t =>
      rw [hd] at h
      simp only [Option.bind_some] at h ⊢
      by_cases ht : t < s.n
      · rw [tmps_get ht]
        by_cases hu : s.get t = .tup []
        · rw [hu] at h ⊢
          obtain rfl := Option.some.inj h
          obtain rfl := Option.some.inj hb
          rfl
        · have h' : wantB want (s.get t) = some v := by
            cases hs : s.get t with
            | tup ts =>
              rw [hs] at h
              cases ts with
              | nil => exact absurd hs hu
              | cons a r => exact h
            | _ => rw [hs] at h; exact h
          cases want with
          | true =>
            obtain rfl := Option.some.inj h'
            rw [(boolOf_some hb).1]; simp
          | false =>
            have := notV_ok h' hb
            rw [(boolOf_some this).1]; simp
      · have : s.get t = .dead := by simp [S.get, ht]
        rw [this] at h
        cases want with
        | true => obtain rfl := Option.some.inj h; cases hb
        | false => cases h
theorem wrOk_den (lk : Nat → O G.El) (base : Nat) (wr : List (Nat × O G.El)) : wrOk (lkT G lk) base (denWr G wr) = wrOkV lk base wr := by
  simp only [wrOk, wrOkV, denWr, List.all_map]
  congr 1
  funext p
  simp only [Function.comp]
  rw [born_den]
theorem stepN_ok (ok : SgOk P G) {E : Ev G.El} (hE : EvOk P C prim G E) {ops : Array Oper} {nx i : Nat} {o : Oper} {s : S G.El} {h : H} {k : S G.El → Log → H → Tree L} (hy : (stepN G E ops nx i o s h k).yields R) :
    ∃ s' lg h', stepR P (envT P C prim) ops nx i o (denS G s) = some (denS G s', lg) ∧ (k s' lg h').yields R := by
  unfold stepN at hy
  split at hy
  · exact hy.elim
  · rename_i v hv
    obtain ⟨b, h', hb, hy⟩ := fork_yields hy
    have hw := wantV_ok hv hb
    simp only [stepR, hw]
    cases b with
    | false =>
      simp only [Bool.false_eq_true, if_false] at hy
      exact ⟨putV s o.dst undV, _, h', by rw [putT_den]; rfl, hy⟩
    | true =>
      simp only [if_true] at hy
      by_cases hp : ∃ c a b, o.op = .pick c a b
      · obtain ⟨c, a, b, hp⟩ := hp
        rw [hp] at hy
        simp only at hy
        obtain ⟨bb, h'', hbb, hy⟩ := fork_yields hy
        have hev : evalT (denS G s).tmps c = .sc (.bool bb) := by rw [← eval_den]; exact (boolOf_some hbb).1
        have hop : ∀ base, (opR P (envT P C prim) (denS G s).tmps base o).run (lookIn (denS G s).store) = some (⟨if bb = true then evalT (denS G s).tmps a else evalT (denS G s).tmps b, []⟩, []) := by
          intro base
          obtain ⟨d, op, ty, pos, af, gd⟩ := o
          simp only at hp
          subst hp
          simp only [opR, hev]; rfl
        simp only [hop]
        cases bb with
        | true =>
          simp only [if_true] at hy ⊢
          refine ⟨putV s o.dst (evalV s a), _, h'', ?_, hy⟩
          rw [putT_den, eval_den]; simp [wrOk, putAll]
        | false =>
          simp only [Bool.false_eq_true, if_false] at hy ⊢
          refine ⟨putV s o.dst (evalV s b), _, h'', ?_, hy⟩
          rw [putT_den, eval_den]; simp [wrOk, putAll]
      · have hy : (runQ (lookO s.st) (opQ G E s (nx + room * i) o) h' fun e l h => match wrOkV (lookO s.st) (nx + room * i) e.wr with
            | true => k { putV s o.dst e.val with st := putOs s.st e.wr } ⟨i, l, e.wr.map (·.1)⟩ h
            | false => .fail).yields R := by
          cases ho : o.op with
          | pick c a b => exact absurd ⟨c, a, b, ho⟩ hp
          | _ => rw [ho] at hy; exact hy
        obtain ⟨e, l, h'', hr, hy⟩ := runQ_yields hy
        have hop := opQ_ok ok hE hr
        rw [lk_den] at hop
        simp only [hop]
        have hwr := wrOk_den (lookO s.st) (nx + room * i) e.wr
        rw [lk_den] at hwr
        cases hwo : wrOkV (lookO s.st) (nx + room * i) e.wr with
        | false => rw [hwo] at hy; exact hy.elim
        | true =>
          rw [hwo] at hy hwr
          refine ⟨_, _, h'', ?_, hy⟩
          simp only [denE, hwr, if_true]
          have hput := putT_den s o.dst e.val
          have h1 : denS G { putV s o.dst e.val with st := putOs s.st e.wr } = { denS G (putV s o.dst e.val) with store := denWr G (putOs s.st e.wr) } := rfl
          rw [h1, hput, putAll_den]
          simp [denWr, denS, Function.comp]
theorem runOpsN_ok (ok : SgOk P G) {E : Ev G.El} (hE : EvOk P C prim G E) {ops : Array Oper} {nx : Nat} : ∀ {l : List Oper} {i : Nat} {s : S G.El} {h : H} {k : S G.El → List Log → H → Tree L}, (runOpsN G E ops nx i l s h k).yields R →
    ∃ s' lgs h', runOps P (envT P C prim) ops nx i l (denS G s) = some (denS G s', lgs) ∧ (k s' lgs h').yields R
  | [], i, s, h, k, hy => ⟨s, [], h, rfl, hy⟩
  | o :: r, i, s, h, k, hy => by
    simp only [runOpsN] at hy
    obtain ⟨s1, l1, h1, hs, hy⟩ := stepN_ok ok hE hy
    obtain ⟨s2, l2, h2, hs2, hy⟩ := runOpsN_ok ok hE hy
    refine ⟨s2, l1 :: l2, h2, ?_, hy⟩
    simp only [runOps, hs, hs2]
theorem regionN_ok (ok : SgOk P G) {E : Ev G.El} (hE : EvOk P C prim G E) {ps : List (List Nat)} {ops : Array Oper} {draw : Bool} {s : S G.El} {h : H} {k : S G.El → H → Tree L} (hy : (regionN G E ps ops draw s h k).yields R) :
    ∃ s' h', regionR P (envT P C prim) ps ops draw (denS G s) = some (denS G s') ∧ (k s' h').yields R := by
  unfold regionN at hy
  obtain ⟨s1, l1, h1, hs, hy⟩ := runOpsN_ok ok hE hy
  have hnx : (denS G s).nx = s.nx := rfl
  cases hd : draw && !logsR ps (l1.filter fun l => !l.bare) with
  | true => rw [hd] at hy; exact hy.elim
  | false =>
    rw [hd] at hy
    refine ⟨_, h1, ?_, hy⟩
    simp only [regionR, hnx, hs, hd, Bool.false_eq_true, if_false]
    rfl
end Go.Proofs.YtmjmoagmolgacaaGreatDoor.PN
namespace Go.Proofs.YtmjmoagmolgacaaGreatDoor.PN
open Go Go.Proofs.YtmjmoagmolgacaaGreatDoor.PM
variable {G : Sg} {P : Program} {α β γ : Type} {lk : Nat → O G.El}
theorem mapQ_nil {f : α → Q G.El β} (hf : ∀ x y l, (f x).runs lk y l → l = []) : ∀ {xs : List α} {ys : List β} {l : List Nat}, (mapQ f xs).runs lk ys l → l = []
  | [], ys, l, h => (runs_ret.1 h).2
  | x :: r, ys, l, h => by
    simp only [mapQ, runs_bind, runs_pure] at h
    obtain ⟨y, l1, l2, h1, ⟨zs, l3, l4, h2, ⟨_, rfl⟩, rfl⟩, rfl⟩ := h
    rw [hf x y l1 h1, mapQ_nil hf h2]; rfl
theorem mapQ_map {f : α → Q G.El β} {a : α → γ} {b : β → γ} (hf : ∀ x y l, (f x).runs lk y l → b y = a x) : ∀ {xs : List α} {ys : List β} {l : List Nat}, (mapQ f xs).runs lk ys l → ys.map b = xs.map a
  | [], ys, l, h => by obtain ⟨rfl, rfl⟩ := runs_ret.1 h; rfl
  | x :: r, ys, l, h => by
    simp only [mapQ, runs_bind, runs_pure] at h
    obtain ⟨y, l1, l2, h1, ⟨zs, l3, l4, h2, ⟨rfl, rfl⟩, rfl⟩, rfl⟩ := h
    rw [List.map_cons, List.map_cons, hf x y l1 h1, mapQ_map hf h2]
theorem canN_v (i : N) : (canN i).v = i.v := by
  unfold canN
  split
  · rename_i h; exact (is0_v h).symm
  · rfl
theorem l_v (n : Nat) : (N.l n).v = n := rfl
theorem d_v (m n : Nat) : (N.d m n).v = n := rfl
theorem denV_agg {v : V G.El} {l : List T} (h : denV G v = .agg l) : ∃ cs, v = .agg cs := by
  cases v with
  | agg cs => exact ⟨cs, rfl⟩
  | bp n c d => cases n <;> cases h
  | bb n x => cases n <;> cases h
  | _ => cases h
theorem canC_ok {nm : Nat} {look : Nat → O G.El} {v w : V G.El} {l : List Nat} (h : (canC nm look v).runs lk w l) : l = [] ∧ denV G w = denV G v ∧ den1 G w = den1 G v := by
  cases v with
  | bl b => obtain ⟨rfl, rfl⟩ := runs_ret.1 h; exact ⟨rfl, rfl, rfl⟩
  | bp n c d => cases n <;> · obtain ⟨rfl, rfl⟩ := runs_ret.1 h; exact ⟨rfl, rfl, rfl⟩
  | bb n x => cases n <;> · obtain ⟨rfl, rfl⟩ := runs_ret.1 h; exact ⟨rfl, rfl, rfl⟩
  | il k n => obtain ⟨rfl, rfl⟩ := runs_ret.1 h; exact ⟨rfl, rfl, rfl⟩
  | id k m n => obtain ⟨rfl, rfl⟩ := runs_ret.1 h; exact ⟨rfl, rfl, rfl⟩
  | ptr o i j =>
    obtain ⟨rfl, rfl⟩ := runs_ret.1 h
    refine ⟨rfl, ?_, ?_⟩ <;> simp [denV, denA, den1, canN_v]
  | win o full off len =>
    have two : ∀ {w : V G.El} {l : List Nat}, (Q.ret (.win o false (canN off) (.d 0 len.v)) : Q G.El (V G.El)).runs lk w l → l = [] ∧ denV G w = denV G (.win o full off len) ∧ den1 G w = den1 G (.win o full off len) := by
      intro w l h
      obtain ⟨rfl, rfl⟩ := runs_ret.1 h
      refine ⟨rfl, ?_, ?_⟩ <;> simp [denV, denA, den1, canN_v, l_v, d_v]
    simp only [canC] at h
    split at h
    · rename_i al mw kp ver t xs last hl
      split at h
      · rename_i hf
        simp only [Bool.and_eq_true] at hf
        simp only [runs_bind, runs_ndEq, runs_pure] at h
        obtain ⟨_, _, _, ⟨h1, rfl⟩, ⟨rfl, rfl⟩, rfl⟩ := h
        have h0 := is0_v hf.2
        refine ⟨rfl, ?_, ?_⟩ <;> simp [denV, denA, den1, rowsOf_length, h0, h1, l_v, d_v]
      · exact two h
    · exact two h
  | _ => obtain ⟨rfl, rfl⟩ := runs_ret.1 h; exact ⟨rfl, rfl, rfl⟩
theorem canA_ok {nm : Nat} {look : Nat → O G.El} {v w : V G.El} {l : List Nat} (h : (canA nm look v).runs lk w l) : l = [] ∧ denV G w = denV G v ∧ denA G w = denA G v := by
  by_cases hv : ∃ cs, v = .agg cs
  · obtain ⟨cs, rfl⟩ := hv
    simp only [canA, runs_bind, runs_pure] at h
    obtain ⟨ys, l1, _, h1, ⟨rfl, rfl⟩, rfl⟩ := h
    have h2 := mapQ_nil (fun x y l h => (canC_ok h).1) h1
    have h3 := mapQ_map (a := den1 G) (b := den1 G) (fun x y l h => by rw [(canC_ok h).2.2, den1_cell1]) h1
    subst h2
    exact ⟨rfl, congrArg T.agg h3, congrArg T.agg h3⟩
  · have e : canA nm look v = canC nm look v := by cases v <;> first | rfl | exact absurd ⟨_, rfl⟩ hv
    rw [e] at h
    obtain ⟨h1, h2, h3⟩ := canC_ok h
    refine ⟨h1, h2, ?_⟩
    have hw : ∀ cs, w ≠ .agg cs := by
      rintro cs rfl
      exact hv (denV_agg (h2.symm : denV G v = T.agg (cs.map (den1 G))))
    rw [denA_not_agg hw, denA_not_agg fun cs e => hv ⟨cs, e⟩, h3]
theorem canV_ok {look : Nat → O G.El} {v w : V G.El} {l : List Nat} (h : (canV look v).runs lk w l) : l = [] ∧ denV G w = denV G v := by
  by_cases hv : ∃ ts, v = .tup ts
  · obtain ⟨ts, rfl⟩ := hv
    simp only [canV, runs_bind, runs_pure] at h
    obtain ⟨ys, l1, _, h1, ⟨rfl, rfl⟩, rfl⟩ := h
    have h2 := mapQ_nil (fun x y l h => (canA_ok h).1) h1
    have h3 := mapQ_map (a := denA G) (b := denA G) (fun x y l h => (canA_ok h).2.2) h1
    subst h2
    exact ⟨rfl, congrArg T.tup h3⟩
  · have e : canV look v = canA 0 look v := by cases v <;> first | rfl | exact absurd ⟨_, rfl⟩ hv
    rw [e] at h
    exact ⟨(canA_ok h).1, (canA_ok h).2.1⟩
theorem canO_ok {nm : Nat → Nat} {look : Nat → O G.El} {x w : O G.El} {l : List Nat} (h : (canO nm look x).runs lk w l) : l = [] ∧ denO G w = denO G x := by
  cases x with
  | row a m k v t xs last => obtain ⟨rfl, rfl⟩ := runs_ret.1 h; exact ⟨rfl, rfl⟩
  | gone => obtain ⟨rfl, rfl⟩ := runs_ret.1 h; exact ⟨rfl, rfl⟩
  | box a m v k g cs =>
    simp only [canO, runs_bind, runs_pure] at h
    obtain ⟨ys, l1, _, h1, ⟨rfl, rfl⟩, rfl⟩ := h
    have h2 := mapQ_nil (fun x y l h => (canC_ok h).1) h1
    have h3 := mapQ_map (a := fun p : V G.El × Nat => den1 G p.1) (b := den1 G) (fun x y l h => by rw [(canC_ok h).2.2, den1_cell1]) h1
    subst h2
    have h4 : cs.zipIdx.map (fun p => den1 G p.1) = cs.map (den1 G) := by
      have : (fun p : V G.El × Nat => den1 G p.1) = den1 G ∘ Prod.fst := rfl
      rw [this, ← List.map_map, List.zipIdx_map_fst]
    refine ⟨rfl, ?_⟩
    simp only [denO, h3, h4]
variable {look : Nat → O G.El}
theorem refsBox {al mw : Bool} {ver k : Nat} {g : Bool} {cs : List (V G.El)} : [wrapT g (cs.map (den1 G))].flatMap refs = (cellsO (.box al mw ver k g cs : O G.El)).flatMap refs1V := by
  simp only [List.flatMap_cons, List.flatMap_nil, List.append_nil, cellsO]
  cases g with
  | true =>
    simp only [oneOr, Bool.true_or, wrapT, refs, List.flatMap_map]
    exact flatMap_same fun c _ => refs1_den c
  | false =>
    match cs with
    | [] => rfl
    | [c] =>
      show refs (den1 G c) = [c].flatMap refs1V
      simp only [List.flatMap_cons, List.flatMap_nil, List.append_nil]
      rw [← refs1_den]
      cases hd : den1 G c with
      | agg l => exact absurd hd (den1_agg c l)
      | tup l => exact absurd hd (den1_tup c l)
      | _ => rfl
    | _ :: _ :: _ => rfl
theorem reachO_den : ∀ (n : Nat) (os done : List Nat), reachN (lkT G look) n os done = reachO look n os done
  | 0, os, done => by cases os <;> rfl
  | n + 1, [], done => rfl
  | n + 1, o :: r, done => by
    simp only [reachN, reachO, lkT, alive_den]
    cases hc : done.contains o || !(look o).alive with
    | true => rw [if_pos rfl]; exact reachO_den n r done
    | false =>
      rw [if_neg (by simp)]
      have : (if (denO G (look o)).row then [] else (denO G (look o)).xs.flatMap refs) = (cellsO (look o)).flatMap refs1V := by
        cases hx : look o with
        | row a m k v t xs last => rfl
        | gone => rfl
        | box a m v k g cs => exact refsBox
      rw [this]
      exact reachO_den n _ _
theorem validO_den (src : Src) : validB (lkT G look) src = validO look src := by
  simp only [validB, validO, lkT, alive_den, ver_den]
theorem srcO_den (K : List Nat) : srcN K (lkT G look) (fun _ => 0) = srcO K look := by
  funext l
  simp only [srcN, srcO, validO_den]
  cases validO look l <;> rfl
def selT (look : Nat → Ob) (m : Bool) (t : T) : T := match m with
  | false => t
  | true => match t with
    | .nil => .sl [] []
    | .win o off len => let x := look o
      if x.alive && x.row && decide (off + len ≤ x.xs.length) then .sl ((x.xs.drop off).take len) (if x.may then [(o, x.ver)] else []) else .dead
    | t => t
theorem pickTmps_get {keep : List (Nat × Bool)} {look : Nat → Ob} : ∀ (l : List T) (j i : Nat), (pickTmps keep look j l)[i]? = (l[i]?).map fun t => match keep.find? (·.1 == j + i) with
    | none => .dead
    | some p => selT look p.2 t
  | [], j, i => by simp [pickTmps]
  | t :: r, j, 0 => by
    simp only [pickTmps, List.getElem?_cons_zero, Option.map_some, Nat.add_zero]
    cases keep.find? (·.1 == j) with
    | none => rfl
    | some p =>
      obtain ⟨q, m⟩ := p
      cases m with
      | false => rfl
      | true => cases t <;> rfl
  | t :: r, j, i + 1 => by
    simp only [pickTmps, List.getElem?_cons_succ]
    rw [pickTmps_get r (j + 1) i, Nat.add_assoc, Nat.add_comm 1 i]
theorem pickQ_ok {kt : Nat → Nat} {s : S G.El} : ∀ {keep : List (Nat × Nat)} {ts : List (Nat × V G.El)} {l : List Nat}, (pickQ look kt s keep).runs lk ts l →
    l = [] ∧ ts.map (fun p => (p.1, denV G p.2)) = keep.map (fun p => (p.1, selT (lkT G look) (p.2 == 1) (denV G (s.get p.1)))) ∧ ∀ p ∈ keep, p.1 < s.n
  | [], ts, l, h => by obtain ⟨rfl, rfl⟩ := runs_ret.1 h; exact ⟨rfl, rfl, fun p hp => by cases hp⟩
  | (q, m) :: r, ts, l, h => by
    simp only [pickQ, runs_bind, runs_grd, runs_pure, decide_eq_true_eq] at h
    obtain ⟨_, _, _, ⟨hq, rfl⟩, ⟨v, l3, _, hv, ⟨tl, l5, _, ht, ⟨rfl, rfl⟩, rfl⟩, rfl⟩, rfl⟩ := h
    obtain ⟨rfl, h1, h2⟩ := pickQ_ok ht
    have key : l3 = [] ∧ denV G v = selT (lkT G look) (m == 1) (denV G (s.get q)) := by
      cases hm : m == 1 with
      | false => rw [hm] at hv; obtain ⟨rfl, rfl⟩ := runs_pure.1 hv; exact ⟨rfl, rfl⟩
      | true =>
        rw [hm] at hv
        simp only at hv
        cases hg : s.get q with
        | nil => rw [hg] at hv; obtain ⟨rfl, rfl⟩ := runs_pure.1 hv; exact ⟨rfl, rfl⟩
        | win o full off len =>
          rw [hg] at hv
          simp only at hv
          have hT : ∀ r, (if (denO G (look o)).alive && (denO G (look o)).row && decide (off.v + len.v ≤ (denO G (look o)).xs.length) then T.sl (((denO G (look o)).xs.drop off.v).take len.v) (if (denO G (look o)).may then [(o, (denO G (look o)).ver)] else []) else .dead) = r → selT (lkT G look) true (denV G (.win o full off len)) = r := fun r h => h
          split at hv
          · rename_i mw kp ver t xs last hl
            simp only [runs_bind, runs_pure] at hv
            obtain ⟨ys, _, _, h4, ⟨rfl, rfl⟩, rfl⟩ := hv
            obtain ⟨rfl, h5, rfl⟩ := winQ_ok h4
            refine ⟨rfl, (hT _ ?_).symm⟩
            rw [hl, lenT, winT]
            simp only [denO, Bool.and_true, Bool.true_and, decide_eq_true h5, if_true]
            cases mw <;> rfl
          · rename_i hl
            obtain ⟨rfl, rfl⟩ := runs_pure.1 hv
            refine ⟨rfl, (hT _ ?_).symm⟩
            cases hx : look o with
            | row al mw kp ver t xs last =>
              cases al with
              | true => exact absurd hx (hl _ _ _ _ _ _)
              | false => simp [denO]; rfl
            | box al mw ver k g cs => simp [denO]; rfl
            | gone => simp [denO, Ob.gone]; rfl
        | bp n c d => rw [hg] at hv; obtain ⟨rfl, rfl⟩ := runs_pure.1 hv; cases n <;> exact ⟨rfl, rfl⟩
        | bb n x => rw [hg] at hv; obtain ⟨rfl, rfl⟩ := runs_pure.1 hv; cases n <;> exact ⟨rfl, rfl⟩
        | _ => rw [hg] at hv; obtain ⟨rfl, rfl⟩ := runs_pure.1 hv; exact ⟨rfl, rfl⟩
    obtain ⟨rfl, key⟩ := key
    refine ⟨rfl, ?_, ?_⟩
    · rw [List.map_cons, List.map_cons, h1, key]
    · intro p hp
      rcases List.mem_cons.1 hp with rfl | hp
      · exact hq
      · exact h2 p hp
theorem setTm_den (s : S G.El) (q : Nat) (v : V G.El) (h : q < s.n) (st : List (Nat × O G.El)) (nx : Nat) : denS G { s with tm := (q, v) :: s.tm, st := st, nx := nx } = { denS G s with tmps := (denS G s).tmps.set q (denV G v), store := denWr G st, nx := nx } := by
  have := putT_den s (some q) v
  simp only [putV, decide_eq_true h, putT] at this
  have h1 := congrArg St.tmps this
  simp only [denS] at h1 ⊢
  simp only [St.mk.injEq, and_true]
  exact h1
theorem den_nil {v : V G.El} (h : denV G v = .nil) : v = .nil := by
  cases v with
  | nil => rfl
  | bp n c d => cases n <;> cases h
  | bb n x => cases n <;> cases h
  | _ => cases h
theorem freshS_ok {kt : Nat → Nat} : ∀ {keep : List (Nat × Nat)} {s s' : S G.El} {l : List Nat}, (freshS G kt keep s).runs lk s' l → l = [] ∧ freshR keep (denS G s) = denS G s' ∧ s'.n = s.n ∧ s'.m = s.m
  | [], s, s', l, h => by obtain ⟨rfl, rfl⟩ := runs_ret.1 h; exact ⟨rfl, rfl, rfl, rfl⟩
  | (q, k) :: r, s, s', l, h => by
    simp only [freshS] at h
    simp only [freshR]
    by_cases hk : k < 2
    · rw [decide_eq_true hk] at h
      rw [if_pos hk]
      exact freshS_ok h
    · rw [decide_eq_false hk] at h
      rw [if_neg hk]
      have same : (∀ x, s.get q ≠ .nil ∨ x = ()) → s.get q ≠ .nil → fresh1 q (k - 2) (denS G s) = denS G s := by
        intro _ hne
        unfold fresh1
        by_cases hq : q < s.n
        · rw [tmps_get hq]
          split
          · rename_i he
            exact absurd (den_nil (Option.some.inj he)) hne
          · rfl
        · have : (denS G s).tmps[q]? = none := by
            rw [List.getElem?_eq_none_iff]; simp only [denS, List.length_map, List.length_range]; omega
          rw [this]
      simp only at h
      split at h
      · rename_i hg
        simp only [runs_bind, widthQ, runs_grd, beq_iff_eq] at h
        obtain ⟨_, _, _, ⟨hw, rfl⟩, h1, rfl⟩ := h
        have hq : q < s.n := by
          by_cases hq : q < s.n
          · exact hq
          · simp [S.get, hq] at hg
        obtain ⟨rfl, h2, h3, h4⟩ := freshS_ok h1
        refine ⟨rfl, ?_, h3, h4⟩
        rw [← h2, setTm_den s q _ hq, putAll_den]
        congr 1
        unfold fresh1
        rw [tmps_get hq, hg]
        simp only [denV, denA, den1, denWr, List.map_cons, List.map_nil, denO, rowsOf, hw, N.v]
        rfl
      · rename_i hg
        have := same (fun x => .inr rfl) (fun e => hg e)
        rw [this]
        exact freshS_ok h
end Go.Proofs.YtmjmoagmolgacaaGreatDoor.PN
namespace Go.Proofs.YtmjmoagmolgacaaGreatDoor.PN
open Go Go.Proofs.YtmjmoagmolgacaaGreatDoor.PM
variable {G : Sg} {P : Program} {α β γ : Type} {lk : Nat → O G.El} {look : Nat → O G.El}
theorem findK_find {δ : Type} (g : Nat × γ → δ) : ∀ (l : List (Nat × γ)) (i : Nat), findK (l.map fun p => (p.1, g p)) i = (l.find? (fun p => p.1 == i)).map g
  | [], i => rfl
  | p :: r, i => by
    simp only [List.map_cons, findK, List.find?_cons]
    by_cases h : p.1 = i
    · simp [h]
    · have hb : (p.1 == i) = false := by simpa using h
      rw [if_neg h, hb]
      exact findK_find g r i
theorem find_map {δ : Type} (g : Nat × γ → δ) (l : List (Nat × γ)) (i : Nat) : (l.map fun p => (p.1, g p)).find? (fun p => p.1 == i) = (l.find? (fun p => p.1 == i)).map fun p => (p.1, g p) := by
  induction l with
  | nil => rfl
  | cons p r ih =>
    simp only [List.map_cons, List.find?_cons]
    cases hp : p.1 == i with
    | true => rfl
    | false => exact ih
theorem rising_keys : ∀ {l : List (Nat × Nat)} {p : Nat × Nat}, risingB (p :: l) = true → ∀ q ∈ l, p.1 < q.1
  | [], p, h, q, hq => by cases hq
  | a :: r, p, h, q, hq => by
    simp only [risingB, Bool.and_eq_true, decide_eq_true_eq] at h
    rcases List.mem_cons.1 hq with rfl | hq
    · exact h.1
    · exact Nat.lt_trans h.1 (rising_keys h.2 q hq)
theorem rising_tail {l : List (Nat × Nat)} {p : Nat × Nat} (h : risingB (p :: l) = true) : risingB l = true := by
  cases l with
  | nil => rfl
  | cons a r => simp only [risingB, Bool.and_eq_true] at h; exact h.2
theorem findK_none {δ : Type} : ∀ {l : List (Nat × δ)} {i : Nat}, (∀ p ∈ l, p.1 ≠ i) → findK l i = none
  | [], i, h => rfl
  | (k, x) :: r, i, h => by
    simp only [findK, if_neg (h (k, x) (by simp))]
    exact findK_none fun p hp => h p (by simp [hp])
theorem flat_keys {δ : Type} (f : δ → List Nat) : ∀ (n a : Nat) (keep : List (Nat × Nat)) (ts : List (Nat × δ)), ts.map (·.1) = keep.map (·.1) → risingB keep = true → (∀ p ∈ keep, a ≤ p.1 ∧ p.1 < a + n) →
    (List.range' a n).flatMap (fun i => match findK ts i with | some x => f x | none => []) = ts.flatMap fun p => f p.2
  | 0, a, keep, ts, hk, hr, hb => by
    cases keep with
    | nil => cases ts with
      | nil => rfl
      | cons t r => simp at hk
    | cons p r => have := hb p (by simp); omega
  | n + 1, a, keep, ts, hk, hr, hb => by
    rw [List.range'_succ, List.flatMap_cons]
    cases keep with
    | nil =>
      cases ts with
      | nil =>
        simp only [findK, List.nil_append, List.flatMap_nil]
        exact flat_keys f n (a + 1) [] [] rfl rfl fun p hp => by cases hp
      | cons t r => simp at hk
    | cons p r =>
      cases ts with
      | nil => simp at hk
      | cons t q =>
        obtain ⟨k, x⟩ := t
        simp only [List.map_cons, List.cons.injEq] at hk
        obtain ⟨rfl, hk⟩ := hk
        have hp := hb p (by simp)
        have hlt := rising_keys hr
        by_cases ha : p.1 = a
        · have h1 : findK ((p.1, x) :: q) a = some x := by simp [findK, ha]
          rw [h1, List.flatMap_cons]
          congr 1
          have h2 : (List.range' (a + 1) n).flatMap (fun i => match findK ((p.1, x) :: q) i with | some x => f x | none => []) = (List.range' (a + 1) n).flatMap (fun i => match findK q i with | some x => f x | none => []) := by
            refine flatMap_same fun i hi => ?_
            have : p.1 ≠ i := by have := (List.mem_range'_1.1 hi).1; omega
            simp only [findK, if_neg this]
          rw [h2]
          exact flat_keys f n (a + 1) r q hk (rising_tail hr) fun z hz => by have := hlt z hz; have := hb z (by simp [hz]); omega
        · have hge : a + 1 ≤ p.1 := by omega
          have h1 : findK ((p.1, x) :: q) a = none := by
            refine findK_none fun z hz => ?_
            rcases List.mem_cons.1 hz with rfl | hz
            · exact ha
            · have : z.1 ∈ r.map (·.1) := by rw [← hk]; exact List.mem_map_of_mem hz
              obtain ⟨y, hy, hyz⟩ := List.mem_map.1 this
              have := hlt y hy
              rw [← hyz]; omega
          rw [h1, List.nil_append]
          exact flat_keys f n (a + 1) (p :: r) ((p.1, x) :: q) (by simp [hk]) hr fun z hz => by
            have h3 := hb z hz
            rcases List.mem_cons.1 hz with rfl | hz
            · omega
            · have := hlt z hz; omega
theorem normS_ok {kt : Nat → Nat} {keep : List (Nat × Nat)} {s s' : S G.El} {l : List Nat} (h : (normS G kt keep s).runs lk s' l) : normR keep (denS G s) = denS G s' := by
  simp only [normS, runs_bind, runs_grd] at h
  obtain ⟨_, _, _, ⟨hr, rfl⟩, ⟨s1, _, _, h1, ⟨ts, _, _, h2, ⟨us, _, _, h3, ⟨os, _, _, h4, h5, rfl⟩, rfl⟩, rfl⟩, rfl⟩, rfl⟩ := h
  obtain ⟨rfl, rfl⟩ := runs_pure.1 h5
  obtain ⟨rfl, hf, hn, hm⟩ := freshS_ok h1
  obtain ⟨rfl, hts, hlt⟩ := pickQ_ok h2
  have hus : us.map (fun p => (p.1, denV G p.2)) = ts.map (fun p => (p.1, denV G p.2)) := by
    refine mapQ_map (a := fun p : Nat × V G.El => (p.1, denV G p.2)) (b := fun p : Nat × V G.El => (p.1, denV G p.2)) ?_ h3
    intro p q l hq
    simp only [runs_bind, runs_pure] at hq
    obtain ⟨v, l1, _, hv, ⟨rfl, rfl⟩, rfl⟩ := hq
    simp only [Prod.mk.injEq, true_and]
    cases hp : p.2 with
    | tup tt => rw [hp] at hv; obtain ⟨rfl, rfl⟩ := runs_pure.1 hv; rfl
    | _ => rw [hp] at hv; exact (canA_ok hv).2.1
  let st := denS G s1
  let keepB : List (Nat × Bool) := keep.map fun p => (p.1, p.2 == 1)
  let lT := lkT G (lookO s1.st)
  have hlT : lookIn st.store = lT := (lk_den s1).symm
  have hTS : pickTmps keepB lT 0 st.tmps = (List.range s1.n).map fun i => (findK (ts.map fun p => (p.1, denV G p.2)) i).getD .dead := by
    apply List.ext_getElem?
    intro i
    rw [pickTmps_get, List.getElem?_map]
    by_cases hi : i < s1.n
    · rw [tmps_get hi, List.getElem?_range hi]
      simp only [Option.map_some, Nat.zero_add]
      rw [hts, findK_find (fun p : Nat × Nat => selT (lkT G (lookO s1.st)) (p.2 == 1) (denV G (s1.get p.1))), find_map (fun p : Nat × Nat => p.2 == 1)]
      cases hfd : keep.find? (fun p => p.1 == i) with
      | none => rfl
      | some p =>
        have : p.1 = i := by simpa using List.find?_some hfd
        subst this
        rfl
    · have e1 : st.tmps[i]? = none := by rw [List.getElem?_eq_none_iff]; simp only [st, denS, List.length_map, List.length_range]; omega
      have e2 : (List.range s1.n)[i]? = none := by rw [List.getElem?_eq_none_iff, List.length_range]; omega
      rw [e1, e2]; rfl
  have hkeys : ts.map (·.1) = keep.map (·.1) := by
    have := congrArg (List.map Prod.fst) hts
    simpa [List.map_map, Function.comp_def] using this
  have hRefs : (pickTmps keepB lT 0 st.tmps).flatMap refs = ts.flatMap fun p => refsV p.2 := by
    rw [hTS, List.flatMap_map, List.range_eq_range']
    have h6 := flat_keys (fun v : V G.El => refsV v) s1.n 0 keep ts hkeys hr (fun p hp => ⟨Nat.zero_le _, by have := hlt p hp; omega⟩)
    rw [← h6]
    refine flatMap_same fun i _ => ?_
    rw [findK_map]
    cases findK ts i with
    | none => rfl
    | some v => exact refs_den v
  have hK : (List.range st.m ++ (reachN lT 64 (List.range st.m ++ (pickTmps keepB lT 0 st.tmps).flatMap refs) []).filter fun o => !decide (o < st.m)) =
      (List.range s1.m ++ (reachO (lookO s1.st) 64 (List.range s1.m ++ ts.flatMap fun p => refsV p.2) []).filter fun o => !decide (o < s1.m)) := by
    rw [hRefs, reachO_den]; rfl
  show normB keepB (freshR keep (denS G s)) = _
  rw [hf]
  show normB keepB st = _
  simp only [normB, hlT]
  rw [hK, srcO_den]
  generalize hKK : (List.range s1.m ++ (reachO (lookO s1.st) 64 (List.range s1.m ++ ts.flatMap fun p => refsV p.2) []).filter fun o => !decide (o < s1.m)) = K at h4 ⊢
  rw [hTS]
  have hmm : st.m = s1.m := rfl
  simp only [denS, St.mk.injEq, hmm]
  refine ⟨?_, ?_, trivial, trivial⟩
  · rw [List.map_map]
    refine List.map_congr_left fun i _ => ?_
    simp only [Function.comp]
    rw [← hus, findK_map, lookV, findK_map]
    cases findK us i with
    | none => rfl
    | some v => exact (mapV_den v).symm
  · have := mapQ_map (a := fun p : Nat × Nat => (p.2, ({ mapOb (posIn K) (srcO K (lookO s1.st)) (lT p.1) with ver := 0 } : Ob))) (b := fun p : Nat × O G.El => (p.1, denO G p.2)) ?_ h4
    · simp only [denWr]; rw [this]
    · intro p q l hq
      simp only [runs_bind, runs_pure] at hq
      obtain ⟨x, l1, _, hx, ⟨rfl, rfl⟩, rfl⟩ := hq
      obtain ⟨_, hx⟩ := canO_ok hx
      simp only [Prod.mk.injEq, true_and]
      rw [setVer_den _ _ (.inr rfl), mapO_den, hx]
theorem resQ_ok (ok : SgOk P G) {fn : Func} {s : S G.El} {v : V G.El} {l : List Nat} (h : (resQ G fn s).runs (lookO s.st) v l) : (resR P fn (denS G s)).run (lookIn (denS G s).store) = some (denV G v, l) := by
  simp only [resQ, runs_bind] at h
  obtain ⟨vs, l1, l2, h1, h2, rfl⟩ := h
  rw [← lk_den]
  have h3 : (mapR (fun r => match r with
    | .tmp t => Rd.ret (((denS G s).tmps[t]?).getD .dead)
    | .cell a t => loadR P t (((denS G s).tmps[a]?).getD .dead)) fn.results.toList).run (lkT G (lookO s.st)) = some (vs.map (denA G), l1) := by
    have := mapQ_ok (a := fun r : ResultVar => r) (b := denA G) (g := fun r => match r with
      | .tmp t => Rd.ret (((denS G s).tmps[t]?).getD .dead)
      | .cell a t => loadR P t (((denS G s).tmps[a]?).getD .dead)) (fun r y l hr => ?_) h1
    · rwa [List.map_id'] at this
    · cases r with
      | tmp t =>
        simp only [runs_bind, runs_grd, runs_pure] at hr
        obtain ⟨_, _, _, ⟨ha, rfl⟩, ⟨rfl, rfl⟩, rfl⟩ := hr
        show (Rd.ret (((denS G s).tmps[t]?).getD .dead)).run _ = _
        rw [← get_den, denV_okA ha]; rfl
      | cell a t =>
        obtain ⟨h4, h5⟩ := loadQ_ok ok hr
        show (loadR P t (((denS G s).tmps[a]?).getD .dead)).run _ = _
        rw [← get_den]; exact h4
  have hA : ∀ v ∈ vs, okA v = true := by
    refine mapQ_all (p := fun v => okA v = true) (fun r y l hr => ?_) h1
    cases r with
    | tmp t =>
      simp only [runs_bind, runs_grd, runs_pure] at hr
      obtain ⟨_, _, _, ⟨ha, rfl⟩, ⟨rfl, rfl⟩, rfl⟩ := hr
      exact ha
    | cell a t => exact (loadQ_ok ok hr).2
  simp only [resR]
  refine bind_some.2 ⟨_, l1, l2, h3, ?_, rfl⟩
  match vs, h2, hA with
  | [v1], h2, hA =>
    obtain ⟨rfl, rfl⟩ := runs_pure.1 h2
    rw [denV_okA (hA _ (by simp))]; rfl
  | [], h2, hA => obtain ⟨rfl, rfl⟩ := runs_pure.1 h2; rfl
  | a :: b :: r, h2, hA => obtain ⟨rfl, rfl⟩ := runs_pure.1 h2; rfl
def denOut (G : Sg) (p : V G.El × Nat × List (Nat × O G.El)) : T × Nat × List (Nat × Ob) := (denV G p.1, p.2.1, denWr G p.2.2)
theorem outCellQ_ok {own : Bool} {m : Nat} {k : Option Nat} {v : V G.El} {nx : Nat} {r : V G.El × Nat × List (Nat × O G.El)} {l : List Nat} (h : (outCellQ own m look k v nx).runs lk r l) :
    l = [] ∧ outCell own m (lkT G look) (k.map G.w) (denV G v) nx = some (denOut G r) ∧ isCell r.1 = true ∧ denV G v = den1 G v := by
  unfold outCellQ at h
  split at h
  · rename_i e
    cases own with
    | true => obtain ⟨rfl, rfl⟩ := runs_pure.1 h; exact ⟨rfl, rfl, rfl, rfl⟩
    | false => obtain ⟨rfl, rfl⟩ := runs_pure.1 h; exact ⟨rfl, rfl, rfl, rfl⟩
  · rename_i e o full off len
    cases ho : own || decide (o < m) with
    | true =>
      rw [ho] at h
      obtain ⟨rfl, rfl⟩ := runs_pure.1 h
      refine ⟨rfl, ?_, rfl, rfl⟩
      simp only [Option.map_some, denV, denA, den1, outCell, ho, if_true]; rfl
    | false =>
      rw [ho] at h
      simp only at h
      split at h
      · rename_i mw kp ver t xs last hl
        simp only [runs_bind, runs_pure] at h
        obtain ⟨ys, _, _, h4, ⟨rfl, rfl⟩, rfl⟩ := h
        obtain ⟨rfl, h5, rfl⟩ := winQ_ok h4
        refine ⟨rfl, ?_, rfl, rfl⟩
        simp only [Option.map_some, denV, denA, den1, outCell, ho, Bool.false_eq_true, if_false]
        simp only [lkT, hl, lenT, winT]
        simp only [denO, Bool.and_true, Bool.true_and, decide_eq_true h5, if_true]
        cases mw <;> rfl
      · exact (runs_fail.1 h).elim
  · rename_i e t xs src
    simp only [runs_bind, runs_grd, runs_pure] at h
    obtain ⟨_, _, _, ⟨h1, rfl⟩, ⟨rfl, rfl⟩, rfl⟩ := h
    refine ⟨rfl, ?_, rfl, rfl⟩
    simp only [Option.map_some, denV, denA, den1, outCell, validO_den, h1, if_true]; rfl
  · rename_i e src
    simp only [runs_bind, runs_grd, runs_pure] at h
    obtain ⟨_, _, _, ⟨h1, rfl⟩, ⟨rfl, rfl⟩, rfl⟩ := h
    refine ⟨rfl, ?_, rfl, rfl⟩
    simp only [Option.map_some, denV, denA, den1, outCell, validO_den, h1, if_true]; rfl
  · rename_i a b c
    obtain ⟨rfl, rfl⟩ := runs_pure.1 h; exact ⟨rfl, rfl, rfl, rfl⟩
  · obtain ⟨rfl, rfl⟩ := runs_pure.1 h; exact ⟨rfl, rfl, rfl, rfl⟩
  · obtain ⟨rfl, rfl⟩ := runs_pure.1 h; exact ⟨rfl, rfl, rfl, rfl⟩
  · rename_i a b c
    obtain ⟨rfl, rfl⟩ := runs_pure.1 h; cases a <;> exact ⟨rfl, rfl, rfl, rfl⟩
  · rename_i a b
    obtain ⟨rfl, rfl⟩ := runs_pure.1 h; cases a <;> exact ⟨rfl, rfl, rfl, rfl⟩
  · obtain ⟨rfl, rfl⟩ := runs_pure.1 h; exact ⟨rfl, rfl, rfl, rfl⟩
  · obtain ⟨rfl, rfl⟩ := runs_pure.1 h; exact ⟨rfl, rfl, rfl, rfl⟩
  · obtain ⟨rfl, rfl⟩ := runs_pure.1 h; exact ⟨rfl, rfl, rfl, rfl⟩
  · exact (runs_fail.1 h).elim
theorem outCellsQ_ok {own : Bool} {m : Nat} : ∀ {ks : List (Option Nat)} {vs : List (V G.El)} {nx : Nat} {r : List (V G.El) × Nat × List (Nat × O G.El)} {l : List Nat}, (outCellsQ own m look ks vs nx).runs lk r l →
    l = [] ∧ outCells own m (lkT G look) (ks.map (Option.map G.w)) (vs.map (den1 G)) nx = some (r.1.map (den1 G), r.2.1, denWr G r.2.2)
  | [], [], nx, r, l, h => by obtain ⟨rfl, rfl⟩ := runs_ret.1 h; exact ⟨rfl, rfl⟩
  | k :: ks, t :: ts, nx, r, l, h => by
    simp only [outCellsQ, runs_bind, runs_pure] at h
    obtain ⟨p, l1, _, h1, ⟨q, l3, _, h2, ⟨rfl, rfl⟩, rfl⟩, rfl⟩ := h
    obtain ⟨rfl, h3, h4, h5⟩ := outCellQ_ok h1
    obtain ⟨rfl, h6⟩ := outCellsQ_ok h2
    refine ⟨rfl, ?_⟩
    simp only [List.map_cons, outCells]
    rw [← h5, h3]
    simp only [denOut, h6]
    simp [denWr, denV_isCell h4]
  | [], _ :: _, nx, r, l, h => (runs_fail.1 h).elim
  | _ :: _, [], nx, r, l, h => (runs_fail.1 h).elim
theorem outOneQ_ok (ok : SgOk P G) {own : Bool} {m : Nat} {ty : TypeId} {v : V G.El} {nx : Nat} {r : V G.El × Nat × List (Nat × O G.El)} {l : List Nat} (h : (outOneQ G own m look ty v nx).runs lk r l) :
    l = [] ∧ outOne P own m (lkT G look) ty (denV G v) nx = some (denOut G r) ∧ okA r.1 = true ∧ denV G v = denA G v := by
  simp only [outOneQ, runs_bind, runs_opt] at h
  obtain ⟨inf, _, _, ⟨hi, rfl⟩, ⟨ks, _, _, ⟨hk, rfl⟩, h2, rfl⟩, rfl⟩ := h
  have hc := (ok.ti _ _ hi).cs _ hk
  unfold outOne
  rw [hc]
  simp only
  by_cases hv : ∃ cs, v = .agg cs
  · obtain ⟨cs, rfl⟩ := hv
    simp only [runs_bind, runs_pure] at h2
    obtain ⟨p, l1, _, h3, ⟨rfl, rfl⟩, rfl⟩ := h2
    obtain ⟨rfl, h4⟩ := outCellsQ_ok h3
    refine ⟨rfl, ?_, rfl, rfl⟩
    simp only [denV, denA, h4, Option.map_some]; rfl
  · have h3 : (out1Q own m look ks v nx).runs lk r l := by
      cases v with
      | agg cs => exact absurd ⟨cs, rfl⟩ hv
      | _ => exact h2
    match ks, h3, hc with
    | [k], h3, hc =>
      obtain ⟨rfl, h4, h5, h6⟩ := outCellQ_ok h3
      have hA : denV G v = denA G v := by rw [h6, denA_not_agg fun cs e => hv ⟨cs, e⟩]
      refine ⟨rfl, ?_, okA_isCell h5, hA⟩
      have : ∀ t, (∀ cs, t ≠ .agg cs) → (match t with | .agg cs => (outCells own m (lkT G look) ([k].map (Option.map G.w)) cs nx).map fun p => (T.agg p.1, p.2) | t => (match [k].map (Option.map G.w) with | [k] => outCell own m (lkT G look) k t nx | _ => none)) = outCell own m (lkT G look) (k.map G.w) t nx := by
        intro t ht
        cases t with
        | agg cs => exact absurd rfl (ht cs)
        | _ => rfl
      rw [← h4]
      exact this _ (by rw [h6]; exact den1_agg v)
    | [], h3, hc => exact (runs_fail.1 h3).elim
    | _ :: _ :: _, h3, hc => exact (runs_fail.1 h3).elim
theorem outManyQ_ok (ok : SgOk P G) {own : Bool} {m : Nat} : ∀ {tys : List TypeId} {vs : List (V G.El)} {nx : Nat} {r : List (V G.El) × Nat × List (Nat × O G.El)} {l : List Nat}, (outManyQ G own m look tys vs nx).runs lk r l →
    l = [] ∧ outMany P own m (lkT G look) tys (vs.map (denA G)) nx = some (r.1.map (denA G), r.2.1, denWr G r.2.2)
  | [], [], nx, r, l, h => by obtain ⟨rfl, rfl⟩ := runs_ret.1 h; exact ⟨rfl, rfl⟩
  | ty :: tys, t :: ts, nx, r, l, h => by
    simp only [outManyQ, runs_bind, runs_pure] at h
    obtain ⟨p, l1, _, h1, ⟨q, l3, _, h2, ⟨rfl, rfl⟩, rfl⟩, rfl⟩ := h
    obtain ⟨rfl, h3, h4, h5⟩ := outOneQ_ok ok h1
    obtain ⟨rfl, h6⟩ := outManyQ_ok ok h2
    refine ⟨rfl, ?_⟩
    simp only [List.map_cons, outMany]
    rw [← h5, h3]
    simp only [denOut, h6]
    simp [denWr, denV_okA h4]
  | [], _ :: _, nx, r, l, h => (runs_fail.1 h).elim
  | _ :: _, [], nx, r, l, h => (runs_fail.1 h).elim
theorem outAllQ_ok (ok : SgOk P G) {own : Bool} {m : Nat} {tys : List TypeId} {v : V G.El} {nx : Nat} {r : V G.El × Nat × List (Nat × O G.El)} {l : List Nat} (h : (outAllQ G own m look tys v nx).runs lk r l) :
    l = [] ∧ outAll P own m (lkT G look) tys (denV G v) nx = some (denOut G r) := by
  have many : ∀ tys : List TypeId, (outMQ G own m look tys v nx).runs lk r l →
      l = [] ∧ (match denV G v with | .tup rs => (outMany P own m (lkT G look) tys rs nx).map fun p => (T.tup p.1, p.2) | _ => none) = some (denOut G r) := by
    intro tys h
    cases v with
    | tup rs =>
      simp only [outMQ, runs_bind, runs_pure] at h
      obtain ⟨p, l1, _, h3, ⟨rfl, rfl⟩, rfl⟩ := h
      obtain ⟨rfl, h4⟩ := outManyQ_ok ok h3
      refine ⟨rfl, ?_⟩
      simp only [denV, h4, Option.map_some]; rfl
    | _ => exact (runs_fail.1 h).elim
  match tys, h with
  | [ty], h => obtain ⟨h1, h2, _⟩ := outOneQ_ok ok h; exact ⟨h1, h2⟩
  | [], h => exact many [] h
  | a :: b :: t, h => exact many _ h
theorem giveQ_ok (ok : SgOk P G) {fn : Func} {own : Bool} {m : Nat} {s : S G.El} {r : V G.El × List (O G.El)} {l : List Nat} (h : (giveQ G fn own m s).runs (lookO s.st) r l) :
    giveR P fn own m (denS G s) = some (denV G r.1, r.2.map (denO G)) := by
  simp only [giveQ, runs_bind] at h
  obtain ⟨v, l1, _, h1, ⟨q, l3, _, h2, ⟨w, l5, _, h3, ⟨os, l7, _, h4, h5, rfl⟩, rfl⟩, rfl⟩, rfl⟩ := h
  obtain ⟨rfl, rfl⟩ := runs_pure.1 h5
  have h1' := resQ_ok ok h1
  obtain ⟨rfl, h2'⟩ := outAllQ_ok ok h2
  obtain ⟨rfl, h3'⟩ := canV_ok h3
  simp only [giveR, h1']
  rw [lk_den] at h2'
  have hnx : (denS G s).nx = s.nx := rfl
  rw [hnx, h2']
  simp only [denOut]
  have hl : lookIn (putAll (denS G s).store (denWr G q.2.2)) = lkT G (lookO (putOs s.st q.2.2)) := by
    funext o
    have : putAll (denS G s).store (denWr G q.2.2) = denWr G (putOs s.st q.2.2) := (putAll_den q.2.2 s.st).symm
    rw [this]; exact lookIn_den _ o
  rw [hl, refs_den, reachO_den, srcO_den]
  generalize (List.range m ++ (reachO (lookO (putOs s.st q.2.2)) 64 (List.range m ++ refsV q.1) []).filter fun o => !decide (o < m)) = K at h4 ⊢
  simp only [Option.some.injEq, Prod.mk.injEq]
  refine ⟨by rw [mapV_den, h3'], ?_⟩
  refine (mapQ_map (a := fun o : Nat => ({ mapOb (posIn K) (srcO K (lookO (putOs s.st q.2.2))) (lkT G (lookO (putOs s.st q.2.2)) o) with ver := 0 } : Ob)) (b := denO G) ?_ h4).symm
  intro o x l hx
  simp only [runs_bind, runs_pure] at hx
  obtain ⟨y, l1, _, hy, ⟨rfl, rfl⟩, rfl⟩ := hx
  obtain ⟨_, hy⟩ := canO_ok hy
  rw [setVer_den _ _ (.inr rfl), mapO_den, hy]
end Go.Proofs.YtmjmoagmolgacaaGreatDoor.PN
namespace Go.Proofs.YtmjmoagmolgacaaGreatDoor.PN
open Go Go.Proofs.YtmjmoagmolgacaaGreatDoor.PM
variable {P : Program} {C : Cert} {prim : FuncId → Option (List T → List Ob → Option (T × List Ob))} {β : Type}
noncomputable def atK (P : Program) (C : Cert) (prim : FuncId → Option (List T → List Ob → Option (T × List Ob))) (cert : FCert) (rid : Nat) : Code → St → (RS → β) → Option β
  | .region id ops draw, s, K => if id = rid then some (regionK P (envT P C prim) (cert.predsOf id) ops draw s K) else none
  | .seq a b, s, K => match atK P C prim cert rid a s (seqK P C prim cert b K) with
    | some r => some r
    | none => atK P C prim cert rid b s K
  | .cond _ a b, s, K => match atK P C prim cert rid a s K with
    | some r => some r
    | none => atK P C prim cert rid b s K
  | .block id b, s, K => atK P C prim cert rid b s (blockK id K)
  | .loop b, s, K => atK P C prim cert rid b s (nextK P C prim cert b K)
  | _, _, _ => none
def ids : Code → List Nat
  | .region id _ _ => [id]
  | .seq a b => ids a ++ ids b
  | .cond _ a b => ids a ++ ids b
  | .block _ b => ids b
  | .loop b => ids b
  | _ => []
def distinct : List Nat → Bool
  | [] => true
  | a :: r => !r.contains a && distinct r
theorem distinct_append : ∀ {a b : List Nat}, distinct (a ++ b) = true → distinct a = true ∧ distinct b = true ∧ ∀ x ∈ a, x ∉ b
  | [], b, h => ⟨rfl, h, fun x hx => by cases hx⟩
  | y :: r, b, h => by
    simp only [List.cons_append, distinct, Bool.and_eq_true, Bool.not_eq_true', List.contains_eq_mem] at h ⊢
    obtain ⟨h1, h2⟩ := h
    obtain ⟨h3, h4, h5⟩ := distinct_append h2
    simp only [List.mem_append, decide_eq_false_iff_not, not_or] at h1 ⊢
    refine ⟨⟨h1.1, h3⟩, h4, fun x hx => ?_⟩
    rcases List.mem_cons.1 hx with rfl | hx
    · exact h1.2
    · exact h5 x hx
theorem atK_none {cert : FCert} {rid : Nat} : ∀ {c : Code} {s : St} {K : RS → β}, rid ∉ ids c → atK P C prim cert rid c s K = none
  | .region id ops draw, s, K, h => by
    have : ¬ id = rid := fun e => h (by simp [ids, e])
    simp only [atK, if_neg this]
  | .seq a b, s, K, h => by
    simp only [ids, List.mem_append, not_or] at h
    simp only [atK, atK_none h.1, atK_none h.2]
  | .cond c a b, s, K, h => by
    simp only [ids, List.mem_append, not_or] at h
    simp only [atK, atK_none h.1, atK_none h.2]
  | .block id b, s, K, h => by simp only [atK]; exact atK_none h
  | .loop b, s, K, h => by simp only [atK]; exact atK_none h
  | .skip, s, K, h => rfl
  | .exit id, s, K, h => rfl
  | .ret, s, K, h => rfl
  | .rangeFunc _ _ _ _, s, K, h => rfl
  | .scope _, s, K, h => rfl
  | .label _, s, K, h => rfl
  | .goto _, s, K, h => rfl
  | .refuse _, s, K, h => rfl
theorem atK_some {cert : FCert} {rid : Nat} : ∀ {c : Code} {s : St} {K : RS → β}, rid ∈ ids c → ∃ r, atK P C prim cert rid c s K = some r
  | .region id ops draw, s, K, h => by
    have : id = rid := by simp only [ids, List.mem_singleton] at h; exact h.symm
    exact ⟨_, by simp only [atK, if_pos this]; rfl⟩
  | .seq a b, s, K, h => by
    simp only [ids, List.mem_append] at h
    by_cases ha : rid ∈ ids a
    · obtain ⟨r, hr⟩ := atK_some (cert := cert) (s := s) (K := seqK P C prim cert b K) ha
      exact ⟨r, by simp only [atK, hr]⟩
    · rcases h with h | h
      · exact absurd h ha
      · obtain ⟨r, hr⟩ := atK_some (cert := cert) (s := s) (K := K) h
        exact ⟨r, by simp only [atK, atK_none ha, hr]⟩
  | .cond c a b, s, K, h => by
    simp only [ids, List.mem_append] at h
    by_cases ha : rid ∈ ids a
    · obtain ⟨r, hr⟩ := atK_some (cert := cert) (s := s) (K := K) ha
      exact ⟨r, by simp only [atK, hr]⟩
    · rcases h with h | h
      · exact absurd h ha
      · obtain ⟨r, hr⟩ := atK_some (cert := cert) (s := s) (K := K) h
        exact ⟨r, by simp only [atK, atK_none ha, hr]⟩
  | .block id b, s, K, h => by simp only [atK]; exact atK_some h
  | .loop b, s, K, h => by simp only [atK]; exact atK_some h
  | .skip, s, K, h => by cases h
  | .exit id, s, K, h => by cases h
  | .ret, s, K, h => by cases h
  | .rangeFunc _ _ _ _, s, K, h => by cases h
  | .scope _, s, K, h => by cases h
  | .label _, s, K, h => by cases h
  | .goto _, s, K, h => by cases h
  | .refuse _, s, K, h => by cases h
section
variable {X : Cx} {body : Code} {K0 : RS → β} {OUT : β} {R : Lf X.G.El → Prop}
def Ctx (P : Program) (C : Cert) (prim : FuncId → Option (List T → List Ob → Option (T × List Ob))) (cert : FCert) (body : Code) (K0 : RS → β) (c : Code) (K : RS → β) : Prop :=
  ∀ rid s r, rid ∈ ids c → atK P C prim cert rid body s K0 = some r → atK P C prim cert rid c s K = some r
theorem exec_ok (ok : SgOk P X.G) (hE : EvOk P C prim X.G X.E) (hR : ∀ rid s, R (.at rid s) → atK P C prim X.cert rid body (denS X.G s) K0 = some OUT) :
    ∀ {c : Code} {K : RS → β} {s : S X.G.El} {h : H} {k : PN.K X}, distinct (ids c) = true → Ctx P C prim X.cert body K0 c K → (∀ ex s' h', (k ex s' h').yields R → K (some (ex, denS X.G s')) = OUT) →
      (exec X c s h k).yields R → execK P C prim X.cert c (denS X.G s) K = OUT
  | .skip, K, s, h, k, hd, hc, hk, hy => by rw [execK_skip]; exact hk _ _ _ hy
  | .region id ops draw, K, s, h, k, hd, hc, hk, hy => by
    rw [execK_region]
    simp only [exec] at hy
    cases hf : findK X.cert.keep id with
    | none =>
      rw [hf] at hy
      obtain ⟨s', h', hr, hy⟩ := regionN_ok ok hE hy
      rw [clearK_none, regionK_eq hr]
      exact hk _ _ _ hy
    | some kp =>
      rw [hf] at hy
      obtain ⟨s', l, h', hr, hy⟩ := runQ_yields hy
      have hn := normS_ok hr
      rw [clearK_some, hn]
      have h1 := hc id (denS X.G s') OUT (by simp [ids]) (hR id s' hy)
      simpa [atK] using h1
  | .seq a b, K, s, h, k, hd, hc, hk, hy => by
    rw [execK_seq]
    obtain ⟨d1, d2, d3⟩ := distinct_append hd
    have cb : Ctx P C prim X.cert body K0 b K := by
      intro rid st r hm hr
      have := hc rid st r (by simp [ids, hm]) hr
      simp only [atK] at this
      have hna : rid ∉ ids a := fun ha => d3 rid ha hm
      rw [atK_none hna] at this
      exact this
    have ca : Ctx P C prim X.cert body K0 a (seqK P C prim X.cert b K) := by
      intro rid st r hm hr
      have := hc rid st r (by simp [ids, hm]) hr
      simp only [atK] at this
      obtain ⟨r', hr'⟩ := atK_some (P := P) (C := C) (prim := prim) (cert := X.cert) (s := st) (K := seqK P C prim X.cert b K) hm
      rw [hr'] at this ⊢
      exact this
    refine exec_ok ok hE hR d1 ca (fun ex s' h' hy' => ?_) hy
    cases ex with
    | normal => rw [seqK_normal]; exact exec_ok ok hE hR d2 cb hk hy'
    | exit i => rw [seqK_exit]; exact hk _ _ _ hy'
    | ret => rw [seqK_ret]; exact hk _ _ _ hy'
  | .cond c a b, K, s, h, k, hd, hc, hk, hy => by
    rw [execK_cond]
    obtain ⟨d1, d2, d3⟩ := distinct_append hd
    have cb : Ctx P C prim X.cert body K0 b K := by
      intro rid st r hm hr
      have := hc rid st r (by simp [ids, hm]) hr
      simp only [atK] at this
      have hna : rid ∉ ids a := fun ha => d3 rid ha hm
      rw [atK_none hna] at this
      exact this
    have ca : Ctx P C prim X.cert body K0 a K := by
      intro rid st r hm hr
      have := hc rid st r (by simp [ids, hm]) hr
      simp only [atK] at this
      obtain ⟨r', hr'⟩ := atK_some (P := P) (C := C) (prim := prim) (cert := X.cert) (s := st) (K := K) hm
      rw [hr'] at this ⊢
      exact this
    obtain ⟨t, h', hb, hy⟩ := fork_yields hy
    have : evalT (denS X.G s).tmps c = .sc (.bool t) := by rw [← eval_den]; exact (boolOf_some hb).1
    rw [this, condK_bool]
    cases t with
    | true => rw [if_pos rfl] at hy ⊢; exact exec_ok ok hE hR d1 ca hk hy
    | false => rw [if_neg (by simp)] at hy ⊢; exact exec_ok ok hE hR d2 cb hk hy
  | .block id b, K, s, h, k, hd, hc, hk, hy => by
    rw [execK_block]
    refine exec_ok ok hE hR hd (fun rid st r hm hr => hc rid st r hm hr) (fun ex s' h' hy' => ?_) hy
    cases ex with
    | normal => rw [blockK_normal]; exact hk _ _ _ hy'
    | exit i => rw [blockK_exit]; exact hk _ _ _ hy'
    | ret => rw [blockK_ret]; exact hk _ _ _ hy'
  | .loop b, K, s, h, k, hd, hc, hk, hy => by
    rw [execK_next]
    refine exec_ok ok hE hR hd (fun rid st r hm hr => hc rid st r hm hr) (fun ex s' h' hy' => ?_) hy
    cases ex with
    | normal => exact hy'.elim
    | exit i => rw [nextK_exit]; exact hk _ _ _ hy'
    | ret => rw [nextK_ret]; exact hk _ _ _ hy'
  | .exit id, K, s, h, k, hd, hc, hk, hy => by rw [execK_exit]; exact hk _ _ _ hy
  | .ret, K, s, h, k, hd, hc, hk, hy => by rw [execK_ret]; exact hk _ _ _ hy
  | .rangeFunc _ _ _ _, K, s, h, k, hd, hc, hk, hy => hy.elim
  | .scope _, K, s, h, k, hd, hc, hk, hy => hy.elim
  | .label _, K, s, h, k, hd, hc, hk, hy => hy.elim
  | .goto _, K, s, h, k, hd, hc, hk, hy => hy.elim
  | .refuse _, K, s, h, k, hd, hc, hk, hy => hy.elim
theorem resume_none {rid : Nat} : ∀ {c : Code} {s : S X.G.El} {h : H} {k : PN.K X}, resume X rid c s h k = none → rid ∉ ids c
  | .region id ops draw, s, h, k, hn => by
    simp only [resume] at hn
    split at hn
    · cases hn
    · rename_i hne; simp only [ids, List.mem_singleton]; exact fun e => hne e.symm
  | .seq a b, s, h, k, hn => by
    simp only [resume] at hn
    split at hn
    · cases hn
    · rename_i ha
      simp only [ids, List.mem_append, not_or]
      exact ⟨resume_none ha, resume_none hn⟩
  | .cond c a b, s, h, k, hn => by
    simp only [resume] at hn
    split at hn
    · cases hn
    · rename_i ha
      simp only [ids, List.mem_append, not_or]
      exact ⟨resume_none ha, resume_none hn⟩
  | .block id b, s, h, k, hn => by simp only [resume] at hn; exact resume_none (c := b) hn
  | .loop b, s, h, k, hn => by simp only [resume] at hn; exact resume_none (c := b) hn
  | .skip, s, h, k, hn => by simp [ids]
  | .exit id, s, h, k, hn => by simp [ids]
  | .ret, s, h, k, hn => by simp [ids]
  | .rangeFunc _ _ _ _, s, h, k, hn => by simp [ids]
  | .scope _, s, h, k, hn => by simp [ids]
  | .label _, s, h, k, hn => by simp [ids]
  | .goto _, s, h, k, hn => by simp [ids]
  | .refuse _, s, h, k, hn => by simp [ids]
theorem resume_ok (ok : SgOk P X.G) (hE : EvOk P C prim X.G X.E) (hR : ∀ rid s, R (.at rid s) → atK P C prim X.cert rid body (denS X.G s) K0 = some OUT) {rid : Nat} :
    ∀ {c : Code} {K : RS → β} {s : S X.G.El} {h : H} {k : PN.K X} {t : Tree (Lf X.G.El)}, distinct (ids c) = true → Ctx P C prim X.cert body K0 c K → (∀ ex s' h', (k ex s' h').yields R → K (some (ex, denS X.G s')) = OUT) →
      resume X rid c s h k = some t → t.yields R → atK P C prim X.cert rid c (denS X.G s) K = some OUT
  | .region id ops draw, K, s, h, k, t, hd, hc, hk, ht, hy => by
    simp only [resume] at ht
    split at ht
    · rename_i hid
      obtain rfl := Option.some.inj ht
      obtain ⟨s', h', hr, hy⟩ := regionN_ok ok hE hy
      simp only [atK, if_pos hid]
      rw [regionK_eq hr]
      exact congrArg some (hk _ _ _ hy)
    · cases ht
  | .seq a b, K, s, h, k, t, hd, hc, hk, ht, hy => by
    obtain ⟨d1, d2, d3⟩ := distinct_append hd
    have cb : Ctx P C prim X.cert body K0 b K := by
      intro rid st r hm hr
      have := hc rid st r (by simp [ids, hm]) hr
      simp only [atK] at this
      have hna : rid ∉ ids a := fun ha => d3 rid ha hm
      rw [atK_none hna] at this
      exact this
    have ca : Ctx P C prim X.cert body K0 a (seqK P C prim X.cert b K) := by
      intro rid st r hm hr
      have := hc rid st r (by simp [ids, hm]) hr
      simp only [atK] at this
      obtain ⟨r', hr'⟩ := atK_some (P := P) (C := C) (prim := prim) (cert := X.cert) (s := st) (K := seqK P C prim X.cert b K) hm
      rw [hr'] at this ⊢
      exact this
    simp only [resume] at ht
    simp only [atK]
    split at ht
    · rename_i t' ha
      obtain rfl := Option.some.inj ht
      have := resume_ok ok hE hR (K := seqK P C prim X.cert b K) d1 ca (fun ex s' h' hy' => ?_) ha hy
      · rw [this]
      · cases ex with
        | normal => rw [seqK_normal]; exact exec_ok ok hE hR d2 cb hk hy'
        | exit i => rw [seqK_exit]; exact hk _ _ _ hy'
        | ret => rw [seqK_ret]; exact hk _ _ _ hy'
    · rename_i ha
      rw [atK_none (resume_none ha)]
      exact resume_ok ok hE hR d2 cb hk ht hy
  | .cond c a b, K, s, h, k, t, hd, hc, hk, ht, hy => by
    obtain ⟨d1, d2, d3⟩ := distinct_append hd
    have cb : Ctx P C prim X.cert body K0 b K := by
      intro rid st r hm hr
      have := hc rid st r (by simp [ids, hm]) hr
      simp only [atK] at this
      have hna : rid ∉ ids a := fun ha => d3 rid ha hm
      rw [atK_none hna] at this
      exact this
    have ca : Ctx P C prim X.cert body K0 a K := by
      intro rid st r hm hr
      have := hc rid st r (by simp [ids, hm]) hr
      simp only [atK] at this
      obtain ⟨r', hr'⟩ := atK_some (P := P) (C := C) (prim := prim) (cert := X.cert) (s := st) (K := K) hm
      rw [hr'] at this ⊢
      exact this
    simp only [resume] at ht
    simp only [atK]
    split at ht
    · rename_i t' ha
      obtain rfl := Option.some.inj ht
      rw [resume_ok ok hE hR d1 ca hk ha hy]
    · rename_i ha
      rw [atK_none (resume_none ha)]
      exact resume_ok ok hE hR d2 cb hk ht hy
  | .block id b, K, s, h, k, t, hd, hc, hk, ht, hy => by
    simp only [resume] at ht
    simp only [atK]
    refine resume_ok ok hE hR hd (fun rid st r hm hr => hc rid st r hm hr) (fun ex s' h' hy' => ?_) ht hy
    cases ex with
    | normal => rw [blockK_normal]; exact hk _ _ _ hy'
    | exit i => rw [blockK_exit]; exact hk _ _ _ hy'
    | ret => rw [blockK_ret]; exact hk _ _ _ hy'
  | .loop b, K, s, h, k, t, hd, hc, hk, ht, hy => by
    simp only [resume] at ht
    simp only [atK]
    have cb : Ctx P C prim X.cert body K0 b (nextK P C prim X.cert b K) := fun rid st r hm hr => hc rid st r hm hr
    refine resume_ok ok hE hR hd cb (fun ex s' h' hy' => ?_) ht hy
    cases ex with
    | normal =>
      rw [nextK_normal, execK_next]
      refine exec_ok ok hE hR hd cb (fun ex s'' h'' hy'' => ?_) hy'
      cases ex with
      | normal => exact hy''.elim
      | exit i => rw [nextK_exit]; exact hk _ _ _ hy''
      | ret => rw [nextK_ret]; exact hk _ _ _ hy''
    | exit i => rw [nextK_exit]; exact hk _ _ _ hy'
    | ret => rw [nextK_ret]; exact hk _ _ _ hy'
  | .skip, K, s, h, k, t, hd, hc, hk, ht, hy => by cases ht
  | .exit id, K, s, h, k, t, hd, hc, hk, ht, hy => by cases ht
  | .ret, K, s, h, k, t, hd, hc, hk, ht, hy => by cases ht
  | .rangeFunc _ _ _ _, K, s, h, k, t, hd, hc, hk, ht, hy => by cases ht
  | .scope _, K, s, h, k, t, hd, hc, hk, ht, hy => by cases ht
  | .label _, K, s, h, k, t, hd, hc, hk, ht, hy => by cases ht
  | .goto _, K, s, h, k, t, hd, hc, hk, ht, hy => by cases ht
  | .refuse _, K, s, h, k, t, hd, hc, hk, ht, hy => by cases ht
end
theorem lay_yields {Rr Lb L : Type} {f : Rr → L} {g : Lb → L} {D : Lb → Option Rr} {R : L → Prop} {r : Rr} (hf : R (f r)) (hg : ∀ x, D x = some r → R (g x)) : ∀ {t : PT Rr Lb}, t.run D = some r → (t.lay f g).yields R := by
  intro t
  induction t with
  | ret r' => intro h; obtain rfl := Option.some.inj h; exact hf
  | jump x => intro h; exact hg x h
  | fail => intro h; cases h
  | need c k ih =>
    intro h
    simp only [PT.run] at h
    split at h
    · rename_i hc; exact ⟨hc, ih hc h⟩
    · cases h
  | need' c' c hcc k ih =>
    intro h
    simp only [PT.run] at h
    split at h
    · rename_i hc; exact ⟨hcc.1 hc, ih _ h⟩
    · cases h
  | triv c hc k ih => intro h; exact ⟨hc, ih h⟩
  | ite c t e ih1 ih2 =>
    intro h
    simp only [PT.run] at h
    split at h
    · rename_i hc; exact .inl ⟨hc, ih1 hc h⟩
    · rename_i hc; exact .inr ⟨hc, ih2 hc h⟩
  | ite' c' c hcc t e ih1 ih2 =>
    intro h
    simp only [PT.run] at h
    split at h
    · rename_i hc; exact .inl ⟨hcc.1 hc, ih1 _ h⟩
    · rename_i hc; exact .inr ⟨fun hx => hc (hcc.2 hx), ih2 _ h⟩
  | call ρ x k ih =>
    intro h
    simp only [PT.run, Option.bind_eq_some_iff] at h
    obtain ⟨y, hy, h⟩ := h
    exact ⟨y, hy, ih y h⟩
  | call' ρ x' x hx k ih =>
    intro h
    simp only [PT.run, Option.bind_eq_some_iff] at h
    obtain ⟨y, hy, h⟩ := h
    exact ⟨y, hx ▸ hy, ih y h⟩
  | callh ρ x k ih =>
    intro h
    simp only [PT.run] at h
    cases x with
    | none => cases h
    | some a => exact ⟨rfl, a, rfl, ih a rfl h⟩
  | recall ρ x r hx k ih => intro h; exact ⟨rfl, hx, ih h⟩
  | either β γ x l r ih1 ih2 =>
    intro h
    cases x with
    | inl a => exact ih1 a h
    | inr b => exact ih2 b h
def startS {G : Sg} (n : Nat) (args : List (V G.El)) (objs : List (O G.El)) : S G.El := ⟨n, undV, args.zipIdx.map fun p => (p.2, p.1), objs.zipIdx.map fun p => (p.2, p.1), objs.length, objs.length⟩
theorem findK_zip {γ : Type} : ∀ (l : List γ) (j i : Nat), findK ((l.zipIdx j).map fun p => (p.2, p.1)) (j + i) = l[i]?
  | [], j, i => by simp [findK]
  | a :: r, j, 0 => by simp [List.zipIdx_cons, findK]
  | a :: r, j, i + 1 => by
    rw [List.zipIdx_cons, List.map_cons]
    simp only [findK]
    rw [if_neg (by omega)]
    have := findK_zip r (j + 1) i
    rw [show j + 1 + i = j + (i + 1) by omega] at this
    rw [this]; rfl
theorem startS_den {G : Sg} {n : Nat} {args : List (V G.El)} {objs : List (O G.El)} (hn : args.length ≤ n) : denS G (startS n args objs) =
    ⟨args.map (denV G) ++ List.replicate (n - (args.map (denV G)).length) undT, (objs.map (denO G)).zipIdx.map fun p => (p.2, p.1), (objs.map (denO G)).length, (objs.map (denO G)).length⟩ := by
  simp only [denS, startS, St.mk.injEq, List.length_map, and_self, and_true]
  constructor
  · apply List.ext_getElem?
    intro i
    rw [List.getElem?_map]
    have hz := findK_zip args 0 i
    rw [Nat.zero_add] at hz
    by_cases hi : i < n
    · rw [List.getElem?_range hi]
      simp only [Option.map_some, lookV, hz]
      by_cases ha : i < args.length
      · rw [List.getElem?_append_left (by simpa using ha), List.getElem?_map, List.getElem?_eq_getElem ha]; rfl
      · rw [List.getElem?_append_right (by simp; omega), List.getElem?_eq_none (by omega : args.length ≤ i), List.getElem?_replicate]
        simp only [List.length_map]
        rw [if_pos (by omega)]; rfl
    · have e1 : (List.range n)[i]? = none := by rw [List.getElem?_eq_none_iff, List.length_range]; omega
      rw [e1]
      symm
      rw [Option.map_none, List.getElem?_eq_none_iff]
      simp; omega
  · simp [denWr, List.zipIdx_map, Function.comp_def]
def outL {G : Sg} {Rr : Type} (o : Rr → V G.El × List (O G.El)) (r : Rr) : Lf G.El := .ret (o r).1 (o r).2
def jumpL {G : Sg} {Lb : Type} (st : Lb → Nat × S G.El) (x : Lb) : Lf G.El := .at (st x).1 (st x).2
theorem labels_ok {G : Sg} {f : FuncId} {fn : Func} {c : Code} {m : Nat} {Rr Lb : Type} {E : Nat → Ev G.El} {kt : Nat → Nat → Nat} {D : Nat → Lb → Option Rr} {blk : Nat → Lb → PT Rr Lb} {stt : Lb → Nat × S G.El} {hint : Lb → H} {o : Rr → V G.El × List (O G.El)}
    (ok : SgOk P G) (hE : ∀ k, EvOk P C prim G (E k)) (hids : distinct (ids c) = true) (D0 : ∀ x, D 0 x = none) (DS : ∀ k x, D (k + 1) x = (blk k x).run (D k))
    (hT : ∀ k x, resume ⟨G, E k, C f, kt⟩ (stt x).1 c (stt x).2 (hint x) (endK ⟨G, E k, C f, kt⟩ fn m) = some ((blk k x).lay (outL o) (jumpL stt))) (r : Rr) :
    ∀ k x, D k x = some r → atK P C prim (C f) (stt x).1 c (denS G (stt x).2) (giveK P fn (C f).own m) = some (some (denV G (o r).1, (o r).2.map (denO G))) := by
  intro k
  induction k with
  | zero => intro x h; rw [D0] at h; cases h
  | succ k ih =>
    intro x h
    rw [DS] at h
    let R : Lf G.El → Prop := fun lf => match lf with
      | .ret v os => some (denV G v, os.map (denO G)) = some (denV G (o r).1, (o r).2.map (denO G))
      | .at rid s => atK P C prim (C f) rid c (denS G s) (giveK P fn (C f).own m) = some (some (denV G (o r).1, (o r).2.map (denO G)))
    have hy : ((blk k x).lay (outL o) (jumpL stt)).yields R := lay_yields (R := R) rfl (fun y hy => ih y hy) h
    refine resume_ok (X := ⟨G, E k, C f, kt⟩) (body := c) (K0 := giveK P fn (C f).own m) (R := R) ok (hE k) (fun rid s hr => hr) hids (fun rid s r hm hr => hr) (fun ex s' h' hy' => ?_) (hT k x) hy
    have key : ∀ (hy : (runQ (lookO s'.st) (giveQ G fn (C f).own m s') h' fun p _ _ => .leaf (.ret p.1 p.2)).yields R), giveR P fn (C f).own m (denS G s') = some (denV G (o r).1, (o r).2.map (denO G)) := by
      intro hy
      obtain ⟨p, l, h'', hg, hy⟩ := runQ_yields hy
      rw [giveQ_ok ok hg]; exact hy
    cases ex with
    | normal => rw [giveK_normal]; exact key hy'
    | exit i => exact hy'.elim
    | ret => rw [giveK_ret]; exact key hy'
theorem fn_ok {G : Sg} {f : FuncId} {fn : Func} {c : Code} {Rr Lb : Type} {E : Nat → Ev G.El} {kt : Nat → Nat → Nat} {D : Nat → Lb → Option Rr} {blk : Nat → Lb → PT Rr Lb} {start : PT Rr Lb} {stt : Lb → Nat × S G.El} {hint : Lb → H} {h0 : H} {o : Rr → V G.El × List (O G.El)} {args : List (V G.El)} {objs : List (O G.El)} {s0 : S G.El} {k : Nat} {r : Rr}
    (ok : SgOk P G) (hE : ∀ k, EvOk P C prim G (E k)) (hp : prim f = none) (hf : P.funcs[f]? = some fn) (hb : fn.body = some c) (ho : okCode (C f) c = true) (hids : distinct (ids c) = true)
    (hs : s0 = startS fn.ntmps args objs) (hn : args.length ≤ fn.ntmps) (D0 : ∀ x, D 0 x = none) (DS : ∀ k x, D (k + 1) x = (blk k x).run (D k))
    (hT : ∀ k x, resume ⟨G, E k, C f, kt⟩ (stt x).1 c (stt x).2 (hint x) (endK ⟨G, E k, C f, kt⟩ fn objs.length) = some ((blk k x).lay (outL o) (jumpL stt)))
    (h0T : PN.exec ⟨G, E k, C f, kt⟩ c s0 h0 (endK ⟨G, E k, C f, kt⟩ fn objs.length) = start.lay (outL o) (jumpL stt)) (h : start.run (D k) = some r) :
    callT P C prim f (args.map (denV G)) (objs.map (denO G)) = some (denV G (o r).1, (o r).2.map (denO G)) := by
  have hL := labels_ok (P := P) (C := C) (prim := prim) ok hE hids D0 DS hT r
  rw [callK_eq hp hf hb ho, ← startS_den hn, ← hs, List.length_map]
  let R : Lf G.El → Prop := fun lf => match lf with
    | .ret v os => some (denV G v, os.map (denO G)) = some (denV G (o r).1, (o r).2.map (denO G))
    | .at rid s => atK P C prim (C f) rid c (denS G s) (giveK P fn (C f).own objs.length) = some (some (denV G (o r).1, (o r).2.map (denO G)))
  have hy : (start.lay (outL o) (jumpL stt)).yields R := lay_yields (R := R) rfl (fun y hy => hL k y hy) h
  rw [← h0T] at hy
  refine exec_ok (X := ⟨G, E k, C f, kt⟩) (body := c) (K0 := giveK P fn (C f).own objs.length) (R := R) ok (hE k) (fun rid s hr => hr) hids (fun rid s r hm hr => hr) (fun ex s' h' hy' => ?_) hy
  have key : ∀ (hy : (runQ (lookO s'.st) (giveQ G fn (C f).own objs.length s') h' fun p _ _ => .leaf (.ret p.1 p.2)).yields R), giveR P fn (C f).own objs.length (denS G s') = some (denV G (o r).1, (o r).2.map (denO G)) := by
    intro hy
    obtain ⟨p, l, h'', hg, hy⟩ := runQ_yields hy
    rw [giveQ_ok ok hg]; exact hy
  cases ex with
  | normal => rw [giveK_normal]; exact key hy'
  | exit i => exact hy'.elim
  | ret => rw [giveK_ret]; exact key hy'
end Go.Proofs.YtmjmoagmolgacaaGreatDoor.PN
namespace Go.Proofs.YtmjmoagmolgacaaGreatDoor.PN
open Go Go.Proofs.YtmjmoagmolgacaaGreatDoor.PM
variable {P : Program} {C : Cert} {prim : FuncId → Option (List T → List Ob → Option (T × List Ob))} {G : Sg} {β : Type} {lk : Nat → O G.El} {r : β} {l : List Nat}
theorem argI_runs {k : IntKind} {v : V G.El} {f : Int → Q G.El β} (h : (argI k v f).runs lk r l) : ∃ a, denV G v = .sc (.int k a) ∧ (f a).runs lk r l := by
  cases v with
  | il k' n =>
    simp only [argI] at h
    by_cases hk : k' = k
    · subst hk; rw [decide_eq_true rfl] at h; exact ⟨n, rfl, h⟩
    · rw [decide_eq_false hk] at h; exact h.elim
  | id k' m n =>
    simp only [argI] at h
    by_cases hk : k' = k
    · subst hk; rw [decide_eq_true rfl] at h; exact ⟨n, rfl, h⟩
    · rw [decide_eq_false hk] at h; exact h.elim
  | _ => exact h.elim
theorem argB_runs {v : V G.El} {f : Bool → Q G.El β} (h : (argB v f).runs lk r l) : ∃ a, denV G v = .sc (.bool a) ∧ (f a).runs lk r l := by
  cases v with
  | bl b => exact ⟨b, rfl, h⟩
  | bp n c d => cases n <;> exact ⟨_, rfl, h⟩
  | bb n x => cases n <;> exact ⟨_, rfl, h⟩
  | _ => exact h.elim
theorem argS_runs {v : V G.El} {f : ByteArray → Q G.El β} (h : (argS v f).runs lk r l) : ∃ a, denV G v = .sc (.string a) ∧ (f a).runs lk r l := by
  cases v with
  | s x => exact ⟨x, rfl, h⟩
  | _ => exact h.elim
theorem argL_runs {e : Nat} {v : V G.El} {f : List (G.El e) → Q G.El β} (h : (argL e v f).runs lk r l) : ∃ xs, denV G v = .sl (List.map (G.enc e) xs) [] ∧ (f xs).runs lk r l := by
  cases v with
  | sl t xs src =>
    cases src with
    | nil =>
      simp only [argL] at h
      split at h
      · rename_i he; subst he; exact ⟨xs, rfl, h⟩
      · exact h.elim
    | cons a q => exact h.elim
  | s0 src =>
    cases src with
    | nil => exact ⟨[], rfl, h⟩
    | cons a q => exact h.elim
  | _ => exact h.elim
theorem argA_runs {v : V G.El} {f : List (V G.El) → Q G.El β} (h : (argA v f).runs lk r l) : ∃ cs, denV G v = .agg (cs.map (den1 G)) ∧ (f cs).runs lk r l := by
  cases v with
  | agg cs => exact ⟨cs, rfl, h⟩
  | _ => exact h.elim
theorem denV_cell1 (v : V G.El) : denV G (cell1 v) = den1 G v := by
  cases v with
  | bp n c d => cases n <;> rfl
  | bb n x => cases n <;> rfl
  | _ => rfl
theorem argH_runs {cs : List (V G.El)} {f : V G.El → List (V G.El) → Q G.El β} (h : (argH cs f).runs lk r l) : ∃ y q, cs.map (den1 G) = denV G y :: q.map (den1 G) ∧ (f y q).runs lk r l := by
  cases cs with
  | nil => exact h.elim
  | cons y q => exact ⟨cell1 y, q, by rw [denV_cell1]; rfl, h⟩
theorem lH_runs {γ : Type} {cs : List γ} {f : γ → List γ → Q G.El β} (h : (lH cs f).runs lk r l) : ∃ y q, cs = y :: q ∧ (f y q).runs lk r l := by
  cases cs with
  | nil => exact h.elim
  | cons y q => exact ⟨y, q, rfl, h⟩
theorem lT_runs {γ : Type} {cs : List γ} {f : Q G.El β} (h : (lT cs f).runs lk r l) : cs = [] ∧ f.runs lk r l := by
  cases cs with
  | nil => exact ⟨rfl, h⟩
  | cons y q => exact h.elim
theorem argPH_runs {cs : List (V G.El)} {f : V G.El → List (V G.El) → Q G.El β} (h : (argPH cs f).runs lk r l) : ∃ y q, cs.map denP = denV G y :: q.map denP ∧ (f y q).runs lk r l := by
  cases cs with
  | nil => exact h.elim
  | cons y q =>
    simp only [argPH] at h
    cases y with
    | ptr o i j => exact ⟨_, q, rfl, h⟩
    | _ => exact h.elim
theorem argR_runs {e : Nat} {x : O G.El} {f : List (G.El e) → Q G.El β} (h : (argR e x f).runs lk r l) : ∃ xs, denO G x = Ob.mkRow (G.w e) (List.map (G.enc e) xs) ∧ (f xs).runs lk r l := by
  cases x with
  | row a m k v t xs last =>
    cases a <;> cases m <;> first | exact h.elim | skip
    cases v with
    | succ n => exact h.elim
    | zero =>
      simp only [argR] at h
      split at h
      · rename_i he; subst he; exact ⟨_, rfl, h⟩
      · exact h.elim
  | _ => exact h.elim
theorem argW_runs {o n : Nat} {v : V G.El} {f : Q G.El β} (h : (argW o n v f).runs lk r l) : denV G v = .win o 0 n ∧ f.runs lk r l := by
  cases v with
  | win o' full off len =>
    simp only [argW] at h
    cases hb : o' == o && off.is0 with
    | false => rw [hb] at h; exact h.elim
    | true =>
      rw [hb] at h
      simp only [runs_bind, runs_nd] at h
      obtain ⟨_, _, _, ⟨hl, rfl⟩, h, rfl⟩ := h
      simp only [Bool.and_eq_true, beq_iff_eq] at hb
      refine ⟨?_, h⟩
      show T.win o' off.v len.v = _
      rw [hb.1, is0_v hb.2, hl]
  | _ => exact h.elim
theorem argP_runs {o : Nat} {v : V G.El} {f : Nat → Nat → Q G.El β} (h : (argP o v f).runs lk r l) : ∃ a b, denV G v = .win o a b ∧ (f a b).runs lk r l := by
  cases v with
  | win o' full off len =>
    simp only [argP] at h
    cases hb : o' == o with
    | false => rw [hb] at h; exact h.elim
    | true =>
      rw [hb] at h
      have : o' = o := by simpa using hb
      exact ⟨off.v, len.v, by rw [← this]; rfl, h⟩
  | _ => exact h.elim
theorem argQ_runs {o : Nat} {v : V G.El} {f : Nat → Q G.El β} (h : (argQ o v f).runs lk r l) : ∃ b, denV G v = .win o 0 b ∧ (f b).runs lk r l := by
  cases v with
  | win o' full off len =>
    simp only [argQ] at h
    cases hb : o' == o && off.is0 with
    | false => rw [hb] at h; exact h.elim
    | true =>
      rw [hb] at h
      simp only [Bool.and_eq_true, beq_iff_eq] at hb
      exact ⟨len.v, by rw [← hb.1]; show T.win o' off.v len.v = _; rw [is0_v hb.2], h⟩
  | _ => exact h.elim
theorem argNil_runs {v : V G.El} {f : Q G.El β} (h : (argNil v f).runs lk r l) : denV G v = .nil ∧ f.runs lk r l := by
  cases v with
  | nil => exact ⟨rfl, h⟩
  | _ => exact h.elim
theorem argDead_runs {v : V G.El} {f : Q G.El β} (h : (argDead v f).runs lk r l) : denV G v = .dead ∧ f.runs lk r l := by
  cases v with
  | dead => exact ⟨rfl, h⟩
  | _ => exact h.elim
theorem argV_runs {o j : Nat} {v : V G.El} {f : Q G.El β} (h : (argV o j v f).runs lk r l) : denV G v = .ptr o 0 j ∧ f.runs lk r l := by
  cases v with
  | ptr o' i j' =>
    simp only [argV] at h
    cases hb : o' == o && i.is0 && j' == j with
    | false => rw [hb] at h; exact h.elim
    | true =>
      rw [hb] at h
      simp only [Bool.and_eq_true, beq_iff_eq] at hb
      refine ⟨?_, h⟩
      show T.ptr o' i.v j' = _
      rw [hb.1.1, is0_v hb.1.2, hb.2]
  | _ => exact h.elim
theorem argE_runs {o j : Nat} {v : V G.El} {f : Nat → Q G.El β} (h : (argE o j v f).runs lk r l) : ∃ i, denV G v = .ptr o i j ∧ (f i).runs lk r l := by
  cases v with
  | ptr o' i j' =>
    simp only [argE] at h
    cases hb : o' == o && j' == j with
    | false => rw [hb] at h; exact h.elim
    | true =>
      rw [hb] at h
      simp only [Bool.and_eq_true, beq_iff_eq] at hb
      exact ⟨i.v, by rw [← hb.1, ← hb.2]; rfl, h⟩
  | _ => exact h.elim
theorem argF_runs {g : FuncId} {v : V G.El} {f : List (V G.El) → Q G.El β} (h : (argF g v f).runs lk r l) : ∃ cs : List (V G.El), denV G v = .fn g (cs.map denP) ∧ (f cs).runs lk r l := by
  cases v with
  | fn g' caps =>
    simp only [argF] at h
    cases hb : g' == g with
    | false => rw [hb] at h; exact h.elim
    | true =>
      rw [hb] at h
      have : g' = g := by simpa using hb
      exact ⟨caps, by rw [← this]; rfl, h⟩
  | _ => exact h.elim
theorem argX_runs {k : Nat} {agg : Bool} {x : O G.El} {f : List (V G.El) → Q G.El β} (h : (argX k agg x f).runs lk r l) : ∃ cs, denO G x = Ob.mkBox k (wrapT agg (cs.map (den1 G))) ∧ (f cs).runs lk r l := by
  cases x with
  | box a m v k' g cs =>
    cases a <;> cases m <;> first | exact h.elim | skip
    cases v with
    | succ n => exact h.elim
    | zero =>
      simp only [argX] at h
      cases hb : k' == k && (g == agg) && oneOr g cs with
      | false => rw [hb] at h; exact h.elim
      | true =>
        rw [hb] at h
        simp only [Bool.and_eq_true, beq_iff_eq] at hb
        obtain ⟨⟨rfl, rfl⟩, _⟩ := hb
        exact ⟨cs, rfl, h⟩
  | _ => exact h.elim
theorem call_runs {ρ : Type} {x : Option ρ} {f : ρ → Q G.El β} (h : (Q.call ρ x f).runs lk r l) : ∃ y, x = some y ∧ (f y).runs lk r l := h
def SumOk (P : Program) (C : Cert) (prim : FuncId → Option (List T → List Ob → Option (T × List Ob))) (G : Sg) (f : FuncId) (s : List (V G.El) → List (O G.El) → Q G.El (V G.El × List (O G.El))) : Prop :=
  ∀ (args : List (V G.El)) (objs : List (O G.El)) (lk : Nat → O G.El) (r : V G.El × List (O G.El)) (l : List Nat), (s args objs).runs lk r l →
    l = [] ∧ callT P C prim f (args.map (denV G)) (objs.map (denO G)) = some (denV G r.1, r.2.map (denO G))
def SumsOk (P : Program) (C : Cert) (prim : FuncId → Option (List T → List Ob → Option (T × List Ob))) (G : Sg) (l : List (Nat × (List (V G.El) → List (O G.El) → Q G.El (V G.El × List (O G.El))))) : Prop := ∀ f s, findU l f = some s → SumOk P C prim G f s
theorem sums_nil : SumsOk P C prim G [] := fun f s h => by cases h
theorem sums_cons {f : Nat} {s : List (V G.El) → List (O G.El) → Q G.El (V G.El × List (O G.El))} {l : List (Nat × (List (V G.El) → List (O G.El) → Q G.El (V G.El × List (O G.El))))} (h1 : SumOk P C prim G f s) (h2 : SumsOk P C prim G l) : SumsOk P C prim G ((f, s) :: l) := by
  intro g t h
  simp only [findU] at h
  split at h
  · rename_i he; subst he; obtain rfl := Option.some.inj h; exact h1
  · exact h2 g t h
theorem env_ok {l : List (Nat × (List (V G.El) → List (O G.El) → Q G.El (V G.El × List (O G.El))))} (h : SumsOk P C prim G l) : EvOk P C prim G (envOf C l) := by
  refine ⟨fun f => rfl, fun f args objs lk r q hr => ?_⟩
  simp only [envOf] at hr
  cases hf : findU l f with
  | none => rw [hf] at hr; exact hr.elim
  | some s => rw [hf] at hr; exact h f s hf args objs lk r q hr
theorem fn_ok0 {f : FuncId} {fn : Func} {c : Code} {Rr : Type} {E : Nat → Ev G.El} {kt : Nat → Nat → Nat} {start : PT Rr Empty} {h0 : H} {o : Rr → V G.El × List (O G.El)} {args : List (V G.El)} {objs : List (O G.El)} {s0 : S G.El} {k : Nat} {r : Rr}
    (ok : SgOk P G) (hE : ∀ k, EvOk P C prim G (E k)) (hp : prim f = none) (hf : P.funcs[f]? = some fn) (hb : fn.body = some c) (ho : okCode (C f) c = true) (hids : distinct (ids c) = true)
    (hs : s0 = startS fn.ntmps args objs) (hn : args.length ≤ fn.ntmps)
    (h0T : PN.exec ⟨G, E k, C f, kt⟩ c s0 h0 (endK ⟨G, E k, C f, kt⟩ fn objs.length) = start.lay (outL o) (jumpL (Empty.elim : Empty → Nat × S G.El))) (h : start.run (Empty.elim) = some r) :
    callT P C prim f (args.map (denV G)) (objs.map (denO G)) = some (denV G (o r).1, (o r).2.map (denO G)) :=
  fn_ok (D := fun _ => Empty.elim) (blk := fun _ => Empty.elim) (stt := Empty.elim) (hint := Empty.elim) ok hE hp hf hb ho hids hs hn (fun x => x.elim) (fun _ x => x.elim) (fun _ x => x.elim) h0T h
theorem cI_some {k : IntKind} {v : V G.El} {f : Int → Option β} (h : cI k v f = some r) : ∃ a, den1 G v = .sc (.int k a) ∧ f a = some r := by
  cases v with
  | il k' n =>
    simp only [cI] at h
    by_cases hk : k' = k
    · subst hk; rw [decide_eq_true rfl] at h; exact ⟨n, rfl, h⟩
    · rw [decide_eq_false hk] at h; cases h
  | id k' m n =>
    simp only [cI] at h
    by_cases hk : k' = k
    · subst hk; rw [decide_eq_true rfl] at h; exact ⟨n, rfl, h⟩
    · rw [decide_eq_false hk] at h; cases h
  | _ => cases h
theorem cS_some {v : V G.El} {f : ByteArray → Option β} (h : cS v f = some r) : ∃ a, den1 G v = .sc (.string a) ∧ f a = some r := by
  cases v with
  | s x => exact ⟨x, rfl, h⟩
  | _ => cases h
def TisOk (P : Program) (G : Sg) (l : List (Nat × TI G.El)) : Prop := ∀ t i, findK l t = some i → TiOk P G t i
theorem tis_nil : TisOk P G [] := fun t i h => by cases h
theorem tis_cons {t : Nat} {i : TI G.El} {l : List (Nat × TI G.El)} (h1 : TiOk P G t i) (h2 : TisOk P G l) : TisOk P G ((t, i) :: l) := by
  intro g j h
  simp only [findK] at h
  split at h
  · rename_i he; subst he; obtain rfl := Option.some.inj h; exact h1
  · exact h2 g j h
theorem some_all {α : Type} {a b : α} {p : α → Prop} (h : p a) (e : some a = some b) : p b := by obtain rfl := Option.some.inj e; exact h
theorem none_all {α : Type} {b : α} {p : Prop} (e : none = some b) : p := by cases e
theorem ofStr_u8 (s : ByteArray) : (bytesL s).map (fun x => T.sc (.int .u8 x)) = s.data.toList.map fun b => T.sc (.int .u8 (b.toNat : Int)) := by unfold bytesL; rw [List.map_map]; rfl
theorem toStr_u8 (xs : List Int) : bytesOf (xs.map (fun x => T.sc (.int .u8 x))) = some (strOf xs).data.toList := by
  have := bytesOf_map xs
  unfold strOf
  exact this
abbrev na {El : Nat → Type} {α β : Type} (cs : List (V El)) (g : V El → (α → Q El β) → Q El β) (f : α → List (V El) → Q El β) : Q El β := lH cs fun y q => g y fun a => f a q
abbrev nc {El : Nat → Type} {α β : Type} (cs : List (V El)) (g : V El → (α → Q El β) → Q El β) (f : α → List (V El) → Q El β) : Q El β := argH cs fun y q => g y fun a => f a q
abbrev na0 {El : Nat → Type} {β : Type} (cs : List (V El)) (g : V El → Q El β → Q El β) (f : List (V El) → Q El β) : Q El β := lH cs fun y q => g y (f q)
abbrev nc0 {El : Nat → Type} {β : Type} (cs : List (V El)) (g : V El → Q El β → Q El β) (f : List (V El) → Q El β) : Q El β := argH cs fun y q => g y (f q)
abbrev PT.t2 {R Lb : Type} {c : Prop} [d : Decidable c] (h : c) (k : PT R Lb) : PT R Lb := .th h (.th h k)
abbrev PT.t3 {R Lb : Type} {c : Prop} [d : Decidable c] (h : c) (k : PT R Lb) : PT R Lb := .th h (.t2 h k)
abbrev PT.t4 {R Lb : Type} {c : Prop} [d : Decidable c] (h : c) (k : PT R Lb) : PT R Lb := .th h (.t3 h k)
abbrev PT.t5 {R Lb : Type} {c : Prop} [d : Decidable c] (h : c) (k : PT R Lb) : PT R Lb := .th h (.t4 h k)
abbrev PT.t6 {R Lb : Type} {c : Prop} [d : Decidable c] (h : c) (k : PT R Lb) : PT R Lb := .th h (.t5 h k)
abbrev PT.t7 {R Lb : Type} {c : Prop} [d : Decidable c] (h : c) (k : PT R Lb) : PT R Lb := .th h (.t6 h k)
abbrev PT.t8 {R Lb : Type} {c : Prop} [d : Decidable c] (h : c) (k : PT R Lb) : PT R Lb := .th h (.t7 h k)
abbrev PT.t9 {R Lb : Type} {c : Prop} [d : Decidable c] (h : c) (k : PT R Lb) : PT R Lb := .th h (.t8 h k)
abbrev PT.t10 {R Lb : Type} {c : Prop} [d : Decidable c] (h : c) (k : PT R Lb) : PT R Lb := .th h (.t9 h k)
abbrev PT.t11 {R Lb : Type} {c : Prop} [d : Decidable c] (h : c) (k : PT R Lb) : PT R Lb := .th h (.t10 h k)
abbrev PT.t12 {R Lb : Type} {c : Prop} [d : Decidable c] (h : c) (k : PT R Lb) : PT R Lb := .th h (.t11 h k)
theorem argT2_runs {cs : List (V G.El)} {f : Q G.El β} (h : (argT cs f).runs lk r l) : cs.map (den1 G) = [] ∧ cs.map denP = [] ∧ f.runs lk r l := by
  cases cs with
  | nil => exact ⟨rfl, rfl, h⟩
  | cons y q => exact h.elim
theorem either_runs {γ δ : Type} {x : γ ⊕ δ} {f : γ → Q G.El β} {g : δ → Q G.El β} (h : (Q.either γ δ x f g).runs lk r l) : (∃ a, x = .inl a ∧ (f a).runs lk r l) ∨ ∃ a, x = .inr a ∧ (g a).runs lk r l := by
  cases x with
  | inl a => exact .inl ⟨a, rfl, h⟩
  | inr a => exact .inr ⟨a, rfl, h⟩
theorem sum_auto {f : FuncId} {s : List (V G.El) → List (O G.El) → Q G.El (V G.El × List (O G.El))} {α : Prop} (F : α) (h : α → SumOk P C prim G f s := by
    intro F ys os lk r l h
    with_reducible repeat (first
      | (replace h := lH_runs h; obtain ⟨_, _, rfl, h⟩ := h)
      | (replace h := lT_runs h; obtain ⟨rfl, h⟩ := h)
      | (replace h := argH_runs h; obtain ⟨_, _, _, h⟩ := h)
      | (replace h := argT2_runs h; obtain ⟨_, _, h⟩ := h)
      | (replace h := argL_runs h; obtain ⟨_, _, h⟩ := h)
      | (replace h := argI_runs h; obtain ⟨_, _, h⟩ := h)
      | (replace h := argS_runs h; obtain ⟨_, _, h⟩ := h)
      | (replace h := argB_runs h; obtain ⟨_, _, h⟩ := h)
      | (replace h := argA_runs h; obtain ⟨_, _, h⟩ := h)
      | (replace h := argR_runs h; obtain ⟨_, _, h⟩ := h)
      | (replace h := argX_runs h; obtain ⟨_, _, h⟩ := h)
      | (replace h := argW_runs h; obtain ⟨_, h⟩ := h)
      | (replace h := argV_runs h; obtain ⟨_, h⟩ := h)
      | (replace h := argP_runs h; obtain ⟨_, _, _, h⟩ := h)
      | (replace h := argQ_runs h; obtain ⟨_, _, h⟩ := h)
      | (replace h := argE_runs h; obtain ⟨_, _, h⟩ := h)
      | (replace h := argF_runs h; obtain ⟨_, _, h⟩ := h)
      | (replace h := argPH_runs h; obtain ⟨_, _, _, h⟩ := h)
      | (replace h := argNil_runs h; obtain ⟨_, h⟩ := h)
      | (replace h := argDead_runs h; obtain ⟨_, h⟩ := h))
    replace h := call_runs h
    obtain ⟨_, hz, h⟩ := h
    repeat' (first
      | (obtain ⟨rfl, rfl⟩ := runs_ret.1 h; exact ⟨rfl, by simp only [List.map_cons, List.map_nil, *] <;> exact F hz⟩)
      | (replace h := either_runs h; obtain ⟨_, rfl, h⟩ | ⟨_, rfl, h⟩ := h))) : SumOk P C prim G f s := h F
structure Pk (P : Program) (C : Cert) (prim : FuncId → Option (List T → List Ob → Option (T × List Ob))) (G : Sg) where
  n : Nat
  s : Nat → List (V G.El) → List (O G.El) → Q G.El (V G.El × List (O G.El))
  ok : ∀ k, SumOk P C prim G n (s k)
def orQ {α : Type} (a b : Q G.El α) : Q G.El α := match a with
  | .fail => b
  | q => q
theorem or_sum {f : FuncId} {s t : List (V G.El) → List (O G.El) → Q G.El (V G.El × List (O G.El))} (ha : SumOk P C prim G f s) (hb : SumOk P C prim G f t) : SumOk P C prim G f (fun ys os => orQ (s ys os) (t ys os)) := by
  intro ys os lk r l h
  have h' : (orQ (s ys os) (t ys os)).runs lk r l := h
  unfold orQ at h'
  split at h'
  · exact hb ys os lk r l h'
  · exact ha ys os lk r l h'
def Pk.or (p q : Pk P C prim G) (h : q.n = p.n := by rfl) : Pk P C prim G := ⟨p.n, fun k ys os => orQ (p.s k ys os) (q.s k ys os), fun k => or_sum (p.ok k) (h ▸ q.ok k)⟩
def evK (l : List (Pk P C prim G)) (k : Nat) : Ev G.El := envOf C (l.map fun p => (p.n, p.s k))
theorem evK_sums (k : Nat) : ∀ l : List (Pk P C prim G), SumsOk P C prim G (l.map fun p => (p.n, p.s k))
  | [] => sums_nil
  | p :: r => sums_cons (p.ok k) (evK_sums k r)
theorem evK_ok (l : List (Pk P C prim G)) (k : Nat) : EvOk P C prim G (evK l k) := env_ok (evK_sums k l)
end Go.Proofs.YtmjmoagmolgacaaGreatDoor.PN
