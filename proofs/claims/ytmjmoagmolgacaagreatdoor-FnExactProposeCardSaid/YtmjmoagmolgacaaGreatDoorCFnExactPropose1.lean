/- Part of the proof of FnExactPropose: no statement of its own. -/
import Derived.ArgAppend
import Derived.Below
import Derived.BigQuiet
import Derived.ChangeArms
import Derived.ChangeOld
import Derived.DataElems
import Derived.DataReads
import Derived.Deep.AppendLies
import Derived.Deep.CutBlock
import Derived.Deep.DeepCutAuto
import Derived.Deep.Draws
import Derived.Deep.LoopGhost
import Derived.Deep.OwnRows
import Derived.Deep.QuietTactic
import Derived.Deep.RegionHeld3
import Derived.Deep.RegionLaw
import Derived.Deep.RegionWith
import Derived.Deep.Slices
import Derived.IntWalk
import Derived.JoinedTies
import Derived.KernelRfl
import Derived.Laws.BitsLemmas
import Derived.Laws.BytesArg
import Derived.Laws.BytesString
import Derived.Laws.CopyRow
import Derived.Laws.IdiomCopy
import Derived.Laws.MakeOwn
import Derived.Laws.NewBlocks
import Derived.Laws.OwnMore
import Derived.Laws.Rows
import Derived.Laws.Slices
import Derived.Laws.StructEq
import Derived.Lib.AppendStr
import Derived.Lib.AppendZerosOnto
import Derived.Lib.Bytealg
import Derived.Lib.ConvBytes
import Derived.Lib.Overlaps
import Derived.Lib.Strings
import Derived.Maps.AppendAt
import Derived.OpenShut
import Derived.OrdersHeld
import Derived.OwnWalk
import Derived.ProofKit
import Derived.RowKit
import Derived.RowKit3
import Derived.Shelf.Abstract
import Derived.Shelf.Bin.LEUint32
import Derived.Shelf.Bin.ReadersZ
import Derived.Shelf.Small.Strs
import Derived.Shelf.Spec.SlicesInsert
import Derived.ShutString
import Derived.SizedLaws
import Derived.Tactics
import Derived.Test.YtmjmoagmolgacaaGreatDoorProg
import Derived.WalkKit
import Derived.WideLaws
import Derived.Test.YtmjmoagmolgacaaGreatDoorCFnExactPropose0
set_option linter.unusedVariables false
set_option linter.unusedSimpArgs false
namespace Go.Proofs.YtmjmoagmolgacaaGreatDoor.PM
open Go
section
variable {P : Program} {E : Env} {cx : Cx} {cert : FCert} {n : Nat}
def Does (P : Program) (E : Env) (cx : Cx) (cert : FCert) (n : Nat) (c : Code) : Prop :=
 ∀ (s s' : St) (ex : Ex) (g : Nat → Option Nat) (a : Act) (w : World), RelS cx g s a w → exec P E cert n c s = some (ex, s') → ∀ (Q : Exit → Act → World → Prop), (∀ g a w, RelS cx g s' a w → Q ex.to a w) → c.wp P Q a w
theorem least (p : Nat → Prop) (h : ∃ n, p n) : ∃ m, p m ∧ ∀ k, p k → m ≤ k := by
 obtain ⟨n, hn⟩ := h
 induction n using Nat.strongRecOn with
 | _ n ih =>
  by_cases hx : ∃ k, k < n ∧ p k
  ·
   obtain ⟨k, hk, hp⟩ := hx
   exact ih k hk hp
  · exact ⟨n, hn, fun k hp => Nat.le_of_not_lt fun hk => hx ⟨k, hk, hp⟩⟩
open Classical in
theorem loop_does {b : Code} (hb : Does P E cx cert n b) : Does P E cx cert n (.loop b) := by
 intro s s' ex g a w R h Q hQ
 simp only [exec] at h
 let I : Nat → Act → World → Prop := fun k a w => ∃ s g, RelS cx g s a w ∧ iter (exec P E cert n b) k s = some (ex, s')
 let μ : Act → World → Nat := fun a w => if h : ∃ k, I k a w then Classical.choose (least (fun k => I k a w) h) else 0
 refine wp_loop (fun a w => ∃ k, I k a w) μ ⟨n, s, g, R, h⟩ (fun a w hI => ?_)
 have hμ : I (μ a w) a w := by
  show I (if h : ∃ k, I k a w then Classical.choose (least (fun k => I k a w) h) else 0) a w
  rw [dif_pos hI]
  exact (Classical.choose_spec (least (fun k => I k a w) hI)).1
 generalize hk : μ a w = k at hμ ⊢
 obtain ⟨s1, g1, R1, h1⟩ := hμ
 cases k with
 | zero => simp only [iter] at h1; cases h1
 | succ k =>
  simp only [iter] at h1
  split at h1
  ·
   rename_i s2 h2
   refine hb s1 s2 .normal g1 a w R1 h2 _ (fun g' a' w' R' => ?_)
   show (∃ k, I k a' w') ∧ μ a' w' < k + 1
   have hI' : I k a' w' := ⟨s2, g', R', h1⟩
   refine ⟨⟨k, hI'⟩, ?_⟩
   have : μ a' w' ≤ k := by
    show (if h : ∃ k, I k a' w' then Classical.choose (least (fun k => I k a' w') h) else 0) ≤ k
    rw [dif_pos ⟨k, hI'⟩]
    exact (Classical.choose_spec (least (fun k => I k a' w') ⟨k, hI'⟩)).2 k hI'
   omega
  ·
   rename_i hne
   have hx : ex ≠ .normal := fun e => by subst e; exact hne s' h1
   refine hb s1 s' ex g1 a w R1 h1 _ (fun g' a' w' R' => ?_)
   cases ex with
   | normal => exact absurd rfl hx
   | exit id => exact hQ g' a' w' R'
   | ret => exact hQ g' a' w' R'
theorem exec_does (hE : EnvOk P E cx) (hm : P.follows .mixedOrders = true) : ∀ c, okCode cert c = true → Does P E cx cert n c := by
 intro c hoc
 induction c with
 | skip =>
  intro s s' ex g a w R h Q hQ
  simp only [exec, Option.some.injEq, Prod.mk.injEq] at h
  obtain ⟨rfl, rfl⟩ := h
  exact wp_skip (hQ g a w R)
 | region id ops draw =>
  intro s s' ex g a w R h Q hQ
  simp only [exec, Option.map_eq_some_iff] at h
  obtain ⟨s1, h1, h2⟩ := h
  obtain ⟨rfl, rfl⟩ := Prod.mk.inj h2
  have hok : draw = true → okOps ops = true ∧ okPreds (cert.predsOf id) (predsR ops.toList []) = true := fun hd => by
   simp only [okCode, hd, Bool.not_true, Bool.false_or, Bool.and_eq_true] at hoc
   exact hoc
  cases hc : findK cert.keep id with
  | none =>
   rw [hc] at h1
   exact region_wp hE hm hok R h1 hQ
  | some k =>
   rw [hc] at h1
   obtain ⟨g', R'⟩ := norm_ok R k
   exact region_wp hE hm hok R' h1 hQ
 | seq x y ihx ihy =>
  simp only [okCode, Bool.and_eq_true] at hoc
  have ihx := ihx hoc.1
  have ihy := ihy hoc.2
  intro s s' ex g a w R h Q hQ
  simp only [exec] at h
  refine wp_seq ?_
  split at h
  ·
   rename_i s1 h1
   refine ihx s s1 .normal g a w R h1 _ (fun g' a' w' R' => ?_)
   exact ihy s1 s' ex g' a' w' R' h Q hQ
  ·
   rename_i hne
   have hx : ex ≠ .normal := fun e => by subst e; exact hne s' h
   refine ihx s s' ex g a w R h _ (fun g' a' w' R' => ?_)
   cases ex with
   | normal => exact absurd rfl hx
   | exit id => exact hQ g' a' w' R'
   | ret => exact hQ g' a' w' R'
 | cond c x y ihx ihy =>
  simp only [okCode, Bool.and_eq_true] at hoc
  have ihx := ihx hoc.1
  have ihy := ihy hoc.2
  intro s s' ex g a w R h Q hQ
  simp only [exec] at h
  split at h
  ·
   rename_i t ht
   have hc := eval_ok R.1 c
   rw [ht] at hc
   obtain ⟨hc, _⟩ := frV_sc hc
   refine wp_cond hc ?_
   cases t with
   | true => exact ihx s s' ex g a w R (by simpa using h) Q hQ
   | false => exact ihy s s' ex g a w R (by simpa using h) Q hQ
  · cases h
 | block id b ih =>
  have ih := ih hoc
  intro s s' ex g a w R h Q hQ
  simp only [exec] at h
  refine wp_block ?_
  split at h
  ·
   rename_i j s1 h1
   simp only [Option.some.injEq, Prod.mk.injEq] at h
   obtain ⟨rfl, rfl⟩ := h
   refine ih s s1 (.exit j) g a w R h1 _ (fun g' a' w' R' => ?_)
   have := hQ g' a' w' R'
   show if j = id then Q .normal a' w' else Q (.exit j) a' w'
   split
   · rename_i he; rw [if_pos he] at this; exact this
   · rename_i he; rw [if_neg he] at this; exact this
  ·
   rename_i hne
   have hx : ∀ j, ex ≠ .exit j := fun j e => by subst e; exact hne j s' h
   refine ih s s' ex g a w R h _ (fun g' a' w' R' => ?_)
   cases ex with
   | normal => exact hQ g' a' w' R'
   | exit j => exact absurd rfl (hx j)
   | ret => exact hQ g' a' w' R'
 | loop b ih => exact loop_does (ih hoc)
 | exit id =>
  intro s s' ex g a w R h Q hQ
  simp only [exec, Option.some.injEq, Prod.mk.injEq] at h
  obtain ⟨rfl, rfl⟩ := h
  exact wp_exit (hQ g a w R)
 | ret =>
  intro s s' ex g a w R h Q hQ
  simp only [exec, Option.some.injEq, Prod.mk.injEq] at h
  obtain ⟨rfl, rfl⟩ := h
  exact wp_ret (hQ g a w R)
 | _ =>
  intro s s' ex g a w R h Q hQ
  simp only [exec] at h
  cases h
end
end Go.Proofs.YtmjmoagmolgacaaGreatDoor.PM
namespace Go.Proofs.YtmjmoagmolgacaaGreatDoor.PM
open Go
abbrev lookOf (objs : List Ob) (j : Nat) : Ob := (objs[j]?).getD .gone
structure Ent (w : World) (g : Nat → Option Nat) (N : Nat → Prop) (objs : List Ob) (args : List T) (vs : Array Value) : Prop where
 size : vs.size = args.length
 args : ∀ (i : Nat) t, args[i]? = some t → ∃ v, vs[i]? = some v ∧ FrV w g (lookOf objs) N v t
 born : ∀ j, j < objs.length → (lookOf objs j).born = true
 rt : ∀ o, RootV w g (lookOf objs) N o
 inj : ∀ o o' b, Own (lookOf objs) o → Own (lookOf objs) o' → g o = some b → g o' = some b → o = o'
 blk : ∀ o b, (lookOf objs o).alive = true → g o = some b → b < w.heap.size ∧ if (lookOf objs o).may then ¬ N b else N b
 n : ∀ b, N b → b < w.heap.size
def cxOf (w : World) (g : Nat → Option Nat) (N : Nat → Prop) (objs : List Ob) : Cx :=
 ⟨w, N, fun b => ∃ o, Own (lookOf objs) o ∧ g o = some b, g, lookOf objs, objs.length⟩
structure Exi (w : World) (g : Nat → Option Nat) (N : Nat → Prop) (objs : List Ob) (w' : World) (g' : Nat → Option Nat) (objs' : List Ob) (v : Value) (r : T) : Prop where
 val : FrV w' g' (lookOf objs') (NN (cxOf w g N objs) w' g' (lookOf objs')) v r
 rt : ∀ o, RootV w' g' (lookOf objs') (NN (cxOf w g N objs) w' g' (lookOf objs')) o
 inj : ∀ o o' b, Own (lookOf objs') o → Own (lookOf objs') o' → g' o = some b → g' o' = some b → o = o'
 blk : ∀ o b, (lookOf objs' o).alive = true → g' o = some b → b < w'.heap.size ∧ if (lookOf objs' o).may then w.heap.size ≤ b ∨ ∃ o, Own (lookOf objs) o ∧ g o = some b else NN (cxOf w g N objs) w' g' (lookOf objs') b
 keep : ∀ b, b < w.heap.size → (¬ ∃ o, Own (lookOf objs) o ∧ g o = some b) → w'.heap[b]? = w.heap[b]?
 hsz : w.heap.size ≤ w'.heap.size
 os : w'.os = w.os
 tape : w'.tape = w.tape
 output : w'.output = w.output
 lent : ∀ j, j < objs.length → (lookOf objs' j).born = true ∧ ((lookOf objs' j).alive = true → (lookOf objs j).alive = true ∧ (lookOf objs' j).k = (lookOf objs j).k ∧ g' j = g j ∧ ∀ b, g j = some b → csz w' b = csz w b)
def CallOk (P : Program) (f : FuncId) (args : List T) (objs : List Ob) (r : T) (objs' : List Ob) : Prop :=
 ∀ (w : World) (g : Nat → Option Nat) (N : Nat → Prop) (vs : Array Value), Ent w g N objs args vs → GlobOk P w N → Calls P f vs w fun e w' => ∃ v g', e = .returned v ∧ Exi w g N objs w' g' objs' v r
def FnOk (P : Program) (f : FuncId) : Prop := ∃ fn, P.funcs[f]? = some fn ∧ (fn.name == "runtime.NumGoroutine") = false ∧ fn.body.isNone = false
def CallsOk (P : Program) (E : Env) : Prop := ∀ f args objs r objs', E.call f args objs = some (r, objs') → FnOk P f ∧ CallOk P f args objs r objs'
section
variable {cx : Cx} {w : World} {g : Nat → Option Nat} {look : Nat → Ob} {tmps : List T} {a : Act}
def Nx (N : Nat → Prop) (g : Nat → Option Nat) (S : List (Nat × Nat)) (b : Nat) : Prop := N b ∨ ∃ p ∈ S, g p.1 = some b
theorem FrC.nosrc {N N' : Nat → Prop} {v : Value} {t : T} (h : FrC w g look N v t) (ht : ∀ xs src, t ≠ .sl xs src) (ht' : ∀ x j src, t ≠ .rp x j src) : FrC w g look N' v t := by
 cases t with
 | sl xs src => exact absurd rfl (ht xs src)
 | rp x j src => exact absurd rfl (ht' x j src)
 | _ => exact h
theorem pass1_ok (R : Rel cx g tmps look a w) {lent : Bool} {v : Value} {t t' : T} {S : List (Nat × Nat)} {l : List Nat} (hv : FrC w g look (NN cx w g look) v t) (h : (pass1 lent t).run look = some ((t', S), l)) :
 valid look S ∧ okSrc look S ∧ ∀ S', (∀ p ∈ S, p ∈ S') → FrC w g look (Nx (NN cx w g look) g S') v t' := by
 have h0 : valid look ([] : List (Nat × Nat)) ∧ okSrc look [] := ⟨fun p hp => by simp at hp, okSrc_nil⟩
 have hview : ∀ {t : T}, FrC w g look (NN cx w g look) v t → (do match ← view1 t with
  | .sl xs src => pure (.sl xs [], src)
  | t => pure (t, []) : Rd (T × List (Nat × Nat))).run look = some ((t', S), l) → valid look S ∧ okSrc look S ∧ ∀ S', (∀ p ∈ S, p ∈ S') → FrC w g look (Nx (NN cx w g look) g S') v t' := by
  intro t hv h
  simp only [bind_some] at h
  obtain ⟨z, _, _, h1, h2, _⟩ := h
  obtain ⟨h3, h4⟩ := view1_ok R hv h1
  rcases h4 with ⟨u, rfl⟩ | ⟨xs, src, rfl, hvl⟩
  ·
   simp only [pure_some, Prod.mk.injEq] at h2
   obtain ⟨⟨rfl, rfl⟩, _⟩ := h2
   exact ⟨h0.1, h0.2, fun S' _ => h3⟩
  ·
   simp only [pure_some, Prod.mk.injEq] at h2
   obtain ⟨⟨rfl, rfl⟩, _⟩ := h2
   refine ⟨hvl, h3.2.1, fun S' hS => ⟨h3.1, okSrc_nil, fun _ => (h3.2.2 hvl).mono fun b hb => ⟨.inl ?_, rfl⟩⟩⟩
   rcases hb with hb | ⟨p, hp, hgb⟩
   · exact .inl hb
   · exact .inr ⟨p, hS p hp, hgb⟩
 have hret : ∀ {t : T}, FrC w g look (NN cx w g look) v t → (∀ xs src, t ≠ .sl xs src) → (∀ x j src, t ≠ .rp x j src) → (Rd.ret (t, ([] : List (Nat × Nat)))).run look = some ((t', S), l) → valid look S ∧ okSrc look S ∧ ∀ S', (∀ p ∈ S, p ∈ S') → FrC w g look (Nx (NN cx w g look) g S') v t' := by
  intro t hv h1 h2 h
  simp only [ret_some, Prod.mk.injEq] at h
  obtain ⟨⟨rfl, rfl⟩, _⟩ := h
  exact ⟨h0.1, h0.2, fun S' _ => hv.nosrc h1 h2⟩
 cases t with
 | ptr o i j => cases lent <;> exact hret hv (fun _ _ h => by cases h) (fun _ _ _ h => by cases h) h
 | fn f caps =>
  have h' : (do guardR (caps.all fun c => match c with | .ptr .. => true | _ => false); pure (.fn f caps, []) : Rd (T × List (Nat × Nat))).run look = some ((t', S), l) := by cases lent <;> exact h
  simp only [bind_some, guard_some, pure_some, Prod.mk.injEq] at h'
  obtain ⟨_, _, _, _, ⟨⟨rfl, rfl⟩, _⟩, _⟩ := h'
  exact ⟨h0.1, h0.2, fun S' _ => hv⟩
 | win o off len =>
  cases lent with
  | true => exact hret hv (fun _ _ h => by cases h) (fun _ _ _ h => by cases h) h
  | false => exact hview hv h
 | nil =>
  cases lent with
  | true => exact hret hv (fun _ _ h => by cases h) (fun _ _ _ h => by cases h) h
  | false => exact hview hv h
 | dead =>
  cases lent with
  | true => exact hret hv (fun _ _ h => by cases h) (fun _ _ _ h => by cases h) h
  | false => exact hview hv h
 | sc u => cases lent <;> exact hview hv h
 | ifc b => cases lent <;> exact hview hv h
 | sl xs src => cases lent <;> exact hview hv h
 | rp x j src => cases lent <;> exact hview hv h
 | agg cs => exact hv.elim
 | tup cs => exact hv.elim
theorem passT_cells {lent : Bool} {t t' : T} {S : List (Nat × Nat)} {l : List Nat} (h : (passT lent t).run look = some ((t', S), l)) (ht : ∀ cs, t ≠ .tup cs) :
 ((∃ cs cs', t = .agg cs ∧ t' = .agg cs') ∨ ((∀ cs, t ≠ .agg cs) ∧ ∃ l', (pass1 lent t).run look = some ((t', S), l'))) ∧
 (∀ cs, t = .agg cs → t'.cells.length = cs.length ∧ ∀ (j : Nat) c', t'.cells[j]? = some c' → ∃ c Sc l', cs[j]? = some c ∧ (pass1 lent c).run look = some ((c', Sc), l') ∧ ∀ p ∈ Sc, p ∈ S) := by
 by_cases hc : ∃ cs, t = .agg cs
 ·
  obtain ⟨cs, rfl⟩ := hc
  simp only [passT, bind_some, pure_some, Prod.mk.injEq] at h
  obtain ⟨ps, _, _, h1, ⟨⟨rfl, rfl⟩, _⟩, _⟩ := h
  obtain ⟨h2, h3⟩ := mapR_some h1
  refine ⟨.inl ⟨cs, _, rfl, rfl⟩, fun cs' he => ?_⟩
  obtain rfl := T.agg.inj he
  refine ⟨by simp [T.cells, h2], fun j c' hj => ?_⟩
  simp only [T.cells, List.getElem?_map, Option.map_eq_some_iff] at hj
  obtain ⟨p, hp, rfl⟩ := hj
  have hlt : j < cs.length := by have := (List.getElem?_eq_some_iff.1 hp).1; omega
  obtain ⟨y, l', h4, h5⟩ := h3 j _ (List.getElem?_eq_getElem hlt)
  rw [hp] at h4
  obtain rfl := Option.some.inj h4
  exact ⟨cs[j], p.2, l', List.getElem?_eq_getElem hlt, h5, fun q hq => List.mem_flatMap.2 ⟨p, List.mem_of_getElem? hp, hq⟩⟩
 ·
  have h' : (pass1 lent t).run look = some ((t', S), l) := by cases t <;> first | exact h | exact absurd ⟨_, rfl⟩ hc
  exact ⟨.inr ⟨fun cs e => hc ⟨cs, e⟩, l, h'⟩, fun cs e => absurd ⟨cs, e⟩ hc⟩
theorem passT_ok (R : Rel cx g tmps look a w) {lent : Bool} {v : Value} {t t' : T} {S : List (Nat × Nat)} {l : List Nat} (hv : FrV w g look (NN cx w g look) v t) (h : (passT lent t).run look = some ((t', S), l)) :
 (valid look S ∧ okSrc look S) ∧ ∀ S', (∀ p ∈ S, p ∈ S') → FrV w g look (Nx (NN cx w g look) g S') v t' := by
 have htup : ∀ cs, t ≠ .tup cs := fun cs e => by
  subst e
  cases lent <;> simp only [passT, pass1, view1, bind_some, fail_some, false_and, exists_false] at h
 by_cases hc : ∃ cs, t = .agg cs
 ·
  obtain ⟨cs, rfl⟩ := hc
  obtain ⟨vs, rfl, h1, h2⟩ := hv
  have hcells := (passT_cells h htup).2 cs rfl
  simp only [passT, bind_some, pure_some, Prod.mk.injEq] at h
  obtain ⟨ps, _, _, h3, ⟨⟨rfl, rfl⟩, _⟩, _⟩ := h
  obtain ⟨h4, h5⟩ := mapR_some h3
  have each : ∀ (j : Nat) p, ps[j]? = some p → ∃ u, vs[j]? = some u ∧ valid look p.2 ∧ okSrc look p.2 ∧ ∀ S', (∀ q ∈ p.2, q ∈ S') → FrC w g look (Nx (NN cx w g look) g S') u p.1 := fun j p hp => by
   have hlt : j < cs.length := by have := (List.getElem?_eq_some_iff.1 hp).1; omega
   obtain ⟨y, l', h6, h7⟩ := h5 j _ (List.getElem?_eq_getElem hlt)
   rw [hp] at h6
   obtain rfl := Option.some.inj h6
   obtain ⟨u, h8, h9⟩ := h2 j _ (List.getElem?_eq_getElem hlt)
   obtain ⟨b1, b2, b3⟩ := pass1_ok R (t' := p.1) (S := p.2) h9 h7
   exact ⟨u, h8, b1, b2, b3⟩
  refine ⟨⟨fun q hq => ?_, fun q hq => ?_⟩, fun S' hS => ⟨vs, rfl, by simp [h1, h4], fun j c hj => ?_⟩⟩
  ·
   obtain ⟨p, hp, hqp⟩ := List.mem_flatMap.1 hq
   obtain ⟨j, hj, rfl⟩ := List.getElem_of_mem hp
   obtain ⟨_, _, b1, _⟩ := each j _ (List.getElem?_eq_getElem hj)
   exact b1 q hqp
  ·
   obtain ⟨p, hp, hqp⟩ := List.mem_flatMap.1 hq
   obtain ⟨j, hj, rfl⟩ := List.getElem_of_mem hp
   obtain ⟨_, _, _, b1, _⟩ := each j _ (List.getElem?_eq_getElem hj)
   exact b1 q hqp
  ·
   simp only [List.getElem?_map, Option.map_eq_some_iff] at hj
   obtain ⟨p, hp, rfl⟩ := hj
   obtain ⟨u, h8, _, _, h9⟩ := each j p hp
   exact ⟨u, h8, h9 S' fun q hq => hS q (List.mem_flatMap.2 ⟨p, List.mem_of_getElem? hp, hq⟩)⟩
 ·
  have h' : (pass1 lent t).run look = some ((t', S), l) := by cases t <;> first | exact h | exact absurd ⟨_, rfl⟩ hc
  have hf : FrC w g look (NN cx w g look) v t := by
   rw [frV_eq htup, frA_eq fun cs e => hc ⟨cs, e⟩] at hv; exact hv
  obtain ⟨b1, b2, b3⟩ := pass1_ok R hf h'
  refine ⟨⟨b1, b2⟩, fun S' hS => ?_⟩
  have := b3 S' hS
  rw [frV_eq (by rintro cs rfl; exact this), frA_eq (by rintro cs rfl; exact this)]
  exact this
theorem passAll_ok (R : Rel cx g tmps look a w) : ∀ {ls : List Bool} {ts : List T} {aas : List (T × List (Nat × Nat))} {l : List Nat} {vs : Nat → Value}, (passAll ls ts).run look = some (aas, l) → (∀ (i : Nat) t, ts[i]? = some t → FrV w g look (NN cx w g look) (vs i) t) →
 aas.length = ts.length ∧ ∀ (i : Nat) p, aas[i]? = some p → (valid look p.2 ∧ okSrc look p.2) ∧ ∀ S', (∀ q ∈ p.2, q ∈ S') → FrV w g look (Nx (NN cx w g look) g S') (vs i) p.1
 | ls, [], aas, l, vs, h, _ => by
  cases ls <;> (simp only [passAll, ret_some] at h; obtain ⟨rfl, _⟩ := h; exact ⟨rfl, fun i p hp => by simp at hp⟩)
 | ls, t :: r, aas, l, vs, h, hv => by
  have h' : (do let a ← passT (ls.headD false) t; let s ← passAll ls.tail r; pure (a :: s) : Rd (List (T × List (Nat × Nat)))).run look = some (aas, l) := by cases ls <;> exact h
  simp only [bind_some, pure_some] at h'
  obtain ⟨p, _, _, h1, ⟨s, _, _, h2, ⟨rfl, _⟩, _⟩, _⟩ := h'
  obtain ⟨h3, h4⟩ := passAll_ok R (vs := fun i => vs (i + 1)) h2 (fun i t ht => hv (i + 1) t ht)
  refine ⟨by simp [h3], fun i q hq => ?_⟩
  cases i with
  | zero =>
   simp only [List.getElem?_cons_zero, Option.some.injEq] at hq
   subst hq
   exact passT_ok R (t' := p.1) (S := p.2) (hv 0 t rfl) h1
  | succ i => exact h4 i q (by simpa using hq)
structure Reached (look : Nat → Ob) (done : List (Nat × Ob)) (vs : List (Nat × Nat)) : Prop where
 nd : (done.map (·.1)).Nodup
 each : ∀ p ∈ done, (look p.1).alive = true ∧ ∃ S l, (passOb (look p.1)).run look = some ((p.2, S), l) ∧ ∀ q ∈ S, q ∈ vs
 src : ∀ q ∈ vs, ∃ p ∈ done, ∃ S l, (passOb (look p.1)).run look = some ((p.2, S), l) ∧ q ∈ S
theorem reach_ok : ∀ (n : Nat) (todo : List Nat) (done : List (Nat × Ob)) (vs : List (Nat × Nat)) (r : List (Nat × Ob) × List (Nat × Nat)) (l : List Nat), Reached look done vs → (reach n todo done vs).run look = some (r, l) → Reached look r.1 r.2
 | n, [], done, vs, r, l, hR, h => by
  have h' : (Rd.ret (done, vs)).run look = some (r, l) := by cases n <;> exact h
  simp only [ret_some] at h'
  obtain ⟨rfl, _⟩ := h'
  exact hR
 | 0, o :: todo, done, vs, r, l, hR, h => by simp only [reach, fail_some] at h
 | n + 1, o :: todo, done, vs, r, l, hR, h => by
  simp only [reach] at h
  split at h
  · exact reach_ok n todo done vs r l hR h
  ·
   rename_i hno
   simp only [bind_some, obj_some, guard_some] at h
   obtain ⟨x, _, _, ⟨rfl, _⟩, ⟨_, _, _, ⟨ha, _⟩, ⟨y, _, l3, h1, h2, _⟩, _⟩, _⟩ := h
   refine reach_ok n _ _ _ r _ ⟨?_, ?_, ?_⟩ h2
   ·
    rw [List.map_append, List.nodup_append]
    refine ⟨hR.nd, by simp, fun p hp q hq => ?_⟩
    simp only [List.map_cons, List.map_nil, List.mem_singleton] at hq
    subst hq
    intro e
    subst e
    obtain ⟨z, hz, rfl⟩ := List.mem_map.1 hp
    exact hno (List.any_eq_true.2 ⟨z, hz, by simp⟩)
   ·
    intro p hp
    rcases List.mem_append.1 hp with hp | hp
    ·
     obtain ⟨b1, S, l, b2, b3⟩ := hR.each p hp
     exact ⟨b1, S, l, b2, fun q hq => List.mem_append_left _ (b3 q hq)⟩
    ·
     simp only [List.mem_singleton] at hp
     subst hp
     exact ⟨ha, y.2, _, h1, fun q hq => List.mem_append_right _ hq⟩
   ·
    intro q hq
    rcases List.mem_append.1 hq with hq | hq
    ·
     obtain ⟨p, hp, S, l, b1, b2⟩ := hR.src q hq
     exact ⟨p, List.mem_append_left _ hp, S, l, b1, b2⟩
    · exact ⟨(o, y.1), by simp, y.2, _, h1, hq⟩
end
end Go.Proofs.YtmjmoagmolgacaaGreatDoor.PM
namespace Go.Proofs.YtmjmoagmolgacaaGreatDoor.PM
open Go
section
variable {cx : Cx} {w : World} {g : Nat → Option Nat} {look : Nat → Ob} {tmps : List T} {a : Act}
theorem passOb_same {x y : Ob} {S : List (Nat × Nat)} {l : List Nat} (h : (passOb x).run look = some ((y, S), l)) : y.born = x.born ∧ y.alive = x.alive ∧ y.may = x.may ∧ y.row = x.row ∧ y.k = x.k ∧ y.ver = x.ver ∧ (x.row = true → y = x ∧ S = []) := by
 unfold passOb at h
 split at h
 ·
  rename_i hr
  simp only [ret_some, Prod.mk.injEq] at h
  obtain ⟨⟨rfl, rfl⟩, _⟩ := h
  exact ⟨rfl, rfl, rfl, rfl, rfl, rfl, fun _ => ⟨rfl, rfl⟩⟩
 ·
  rename_i hr
  simp only [bind_some, pure_some, Prod.mk.injEq] at h
  obtain ⟨ps, _, _, _, ⟨⟨rfl, rfl⟩, _⟩, _⟩ := h
  exact ⟨rfl, rfl, rfl, rfl, rfl, rfl, fun h => absurd h hr⟩
theorem passOb_cells (R : Rel cx g tmps look a w) {o : Nat} {y : Ob} {S : List (Nat × Nat)} {l : List Nat} (h : (passOb (look o)).run look = some ((y, S), l)) (ha : (look o).alive = true) (hr : (look o).row = false) :
 (valid look S ∧ okSrc look S) ∧ ∀ (i : Nat) z, y.xs[i]? = some z → ∃ x, (look o).xs[i]? = some x ∧ z.cells.length = x.cells.length ∧
  ∀ S', (∀ p ∈ S, p ∈ S') → ∀ (j : Nat) c', z.cells[j]? = some c' → ∃ c, x.cells[j]? = some c ∧ ∀ v, FrC w g look (NN cx w g look) v c → FrC w g look (Nx (NN cx w g look) g S') v c' := by
 unfold passOb at h
 rw [hr] at h
 simp only [Bool.false_eq_true, if_false, bind_some, pure_some, Prod.mk.injEq] at h
 obtain ⟨ps, _, _, h1, ⟨⟨rfl, rfl⟩, _⟩, _⟩ := h
 obtain ⟨h2, h3⟩ := mapR_some h1
 have hat : ∀ (i : Nat) p, ps[i]? = some p → ∃ x l', (look o).xs[i]? = some x ∧ (passT true x).run look = some (p, l') := fun i p hp => by
  have hlt : i < (look o).xs.length := by have := (List.getElem?_eq_some_iff.1 hp).1; omega
  obtain ⟨y, l', h4, h5⟩ := h3 i _ (List.getElem?_eq_getElem hlt)
  rw [hp] at h4
  obtain rfl := Option.some.inj h4
  exact ⟨_, l', List.getElem?_eq_getElem hlt, h5⟩
 have hbox : ∀ (i : Nat) x, (look o).xs[i]? = some x → ∃ vs : Array Value, ∀ (j : Nat) c, x.cells[j]? = some c → ∃ u, vs[j]? = some u ∧ FrC w g look (NN cx w g look) u c := fun i x hx => by
  obtain ⟨b, _, _, hc⟩ := root_cells R ha hx
  refine ⟨((List.range x.cells.length).map fun j => (w.cell? ⟨b, i * (look o).k + j, none⟩).getD undef).toArray, fun j c hj => ?_⟩
  obtain ⟨u, h5, h6⟩ := hc j c hj
  have hlt := (List.getElem?_eq_some_iff.1 hj).1
  exact ⟨u, by simp [hlt, h5], h6.fr.1⟩
 have hsrc : ∀ (i : Nat) p, ps[i]? = some p → valid look p.2 ∧ okSrc look p.2 := fun i p hp => by
  obtain ⟨x, l', h4, h5⟩ := hat i p hp
  obtain ⟨vs, hvs⟩ := hbox i x h4
  by_cases hc : ∃ cs, x = .agg cs
  ·
   obtain ⟨cs, rfl⟩ := hc
   simp only [passT, bind_some, pure_some] at h5
   obtain ⟨qs, _, _, h6, ⟨rfl, _⟩, _⟩ := h5
   obtain ⟨h7, h8⟩ := mapR_some h6
   have each : ∀ q ∈ qs, valid look q.2 ∧ okSrc look q.2 := fun q hq => by
    obtain ⟨j, hj, rfl⟩ := List.getElem_of_mem hq
    obtain ⟨y, l'', h9, h10⟩ := h8 j _ (List.getElem?_eq_getElem (by omega))
    rw [List.getElem?_eq_getElem hj] at h9
    obtain rfl := Option.some.inj h9
    obtain ⟨u, _, h11⟩ := hvs j _ (List.getElem?_eq_getElem (l := cs) (by omega))
    obtain ⟨b1, b2, _⟩ := pass1_ok R (t' := qs[j].1) (S := qs[j].2) h11 h10
    exact ⟨b1, b2⟩
   refine ⟨fun q hq => ?_, fun q hq => ?_⟩
   ·
    obtain ⟨z, hz, hqz⟩ := List.mem_flatMap.1 hq
    exact (each z hz).1 q hqz
   ·
    obtain ⟨z, hz, hqz⟩ := List.mem_flatMap.1 hq
    exact (each z hz).2 q hqz
  ·
   have h' : (pass1 true x).run look = some (p, l') := by cases x <;> first | exact h5 | exact absurd ⟨_, rfl⟩ hc
   have hx1 : x.cells = [x] := by cases x <;> first | rfl | exact absurd ⟨_, rfl⟩ hc
   obtain ⟨u, _, h11⟩ := hvs 0 x (by rw [hx1]; rfl)
   obtain ⟨b1, b2, _⟩ := pass1_ok R (t' := p.1) (S := p.2) h11 h'
   exact ⟨b1, b2⟩
 refine ⟨⟨fun q hq => ?_, fun q hq => ?_⟩, fun i z hz => ?_⟩
 ·
  obtain ⟨p, hp, hqp⟩ := List.mem_flatMap.1 hq
  obtain ⟨i, hi, rfl⟩ := List.getElem_of_mem hp
  exact (hsrc i _ (List.getElem?_eq_getElem hi)).1 q hqp
 ·
  obtain ⟨p, hp, hqp⟩ := List.mem_flatMap.1 hq
  obtain ⟨i, hi, rfl⟩ := List.getElem_of_mem hp
  exact (hsrc i _ (List.getElem?_eq_getElem hi)).2 q hqp
 ·
  have hz' : (ps.map (·.1))[i]? = some z := hz
  simp only [List.getElem?_map, Option.map_eq_some_iff] at hz'
  obtain ⟨p, hp, rfl⟩ := hz'
  obtain ⟨x, l', h4, h5⟩ := hat i p hp
  obtain ⟨vs, hvs⟩ := hbox i x h4
  have hps : ∀ q ∈ p.2, q ∈ ps.flatMap (·.2) := fun q hq => List.mem_flatMap.2 ⟨p, List.mem_of_getElem? hp, hq⟩
  refine ⟨x, h4, ?_⟩
  by_cases hc : ∃ cs, x = .agg cs
  ·
   obtain ⟨cs, rfl⟩ := hc
   obtain ⟨b1, b2⟩ := (passT_cells (t' := p.1) (S := p.2) h5 (fun _ h => by cases h)).2 cs rfl
   refine ⟨b1, fun S' hS j c' hj => ?_⟩
   obtain ⟨c, Sc, l'', b3, b4, b5⟩ := b2 j c' hj
   exact ⟨c, b3, fun v hv => (pass1_ok R hv b4).2.2 S' fun q hq => hS q (hps q (b5 q hq))⟩
  ·
   have h' : (pass1 true x).run look = some (p, l') := by cases x <;> first | exact h5 | exact absurd ⟨_, rfl⟩ hc
   have hx1 : x.cells = [x] := by cases x <;> first | rfl | exact absurd ⟨_, rfl⟩ hc
   have hp1 : p.1.cells = [p.1] := by
    obtain ⟨u, _, h11⟩ := hvs 0 x (by rw [hx1]; rfl)
    have := (pass1_ok R (t' := p.1) (S := p.2) h11 h').2.2 p.2 (fun q hq => hq)
    cases hpp : p.1 with
    | agg cs => rw [hpp] at this; exact this.elim
    | _ => rfl
   rw [hx1, hp1]
   refine ⟨rfl, fun S' hS j c' hj => ?_⟩
   cases j with
   | zero =>
    simp only [List.getElem?_cons_zero, Option.some.injEq] at hj
    subst hj
    exact ⟨x, rfl, fun v hv => (pass1_ok R (t' := p.1) (S := p.2) hv h').2.2 S' fun q hq => hS q (hps q hq)⟩
   | succ j => simp at hj
theorem ren_there {N : Nat → Prop} {L : List Nat} {objs : List Ob} (hlen : objs.length = L.length) (hob : ∀ (j o : Nat), L[j]? = some o → (lookOf objs j).born = (look o).born ∧ (lookOf objs j).alive = (look o).alive ∧ (lookOf objs j).k = (look o).k) :
 Ren w g look N w (fun j => (L[j]?).bind g) (lookOf objs) N (posIn L) noSrc := by
 refine ⟨fun o j hj hb => ?_, fun l l' hl hok => ?_⟩
 ·
  have h1 := posIn_some hj
  obtain ⟨b1, b2, b3⟩ := hob j o h1
  refine ⟨b1.trans hb, fun ha => ⟨b2.symm.trans ha, b3, by simp [h1], fun _ _ => rfl⟩⟩
 ·
  unfold noSrc at hl
  split at hl
  ·
   rename_i he
   obtain rfl := Option.some.inj hl
   have : l = [] := by simpa using he
   subst this
   refine ⟨okSrc_nil, fun _ => ⟨fun p hp => by simp at hp, fun b hb => ⟨.inl (srcA_nil.1 hb), rfl⟩⟩⟩
  · cases hl
theorem call_ent (R : Rel cx g tmps look a w) {args : List T} {aas : List (T × List (Nat × Nat))} {lv : List (Nat × Ob) × List (Nat × Nat)} {lent : List Bool} {l₁ l₂ : List Nat} {vs : Array Value} (hvs : vs.size = args.length) (hv : ∀ (i : Nat) t, args[i]? = some t → ∃ v, vs[i]? = some v ∧ FrV w g look (NN cx w g look) v t)
 (h1 : (passAll lent args).run look = some (aas, l₁)) (h2 : (reach 64 ((aas.map (·.1)).flatMap refs) [] []).run look = some (lv, l₂)) (hS : (aas.flatMap (·.2) ++ lv.2).all (fun p => !(lv.1.map (·.1)).contains p.1) = true) :
 Reached look lv.1 lv.2 ∧ (valid look (aas.flatMap (·.2) ++ lv.2) ∧ okSrc look (aas.flatMap (·.2) ++ lv.2)) ∧
 Ent w (fun j => ((lv.1.map (·.1))[j]?).bind g) (Nx (NN cx w g look) g (aas.flatMap (·.2) ++ lv.2)) (lv.1.map fun p => mapOb (posIn (lv.1.map (·.1))) noSrc { p.2 with ver := 0 }) (aas.map fun a => mapV (posIn (lv.1.map (·.1))) noSrc a.1) vs := by
 have hRe := reach_ok 64 _ [] [] lv _ ⟨by simp, fun p hp => by simp at hp, fun q hq => by simp at hq⟩ h2
 obtain ⟨hal, hap⟩ := passAll_ok R (vs := fun i => vs.getD i undef) h1 (fun i t ht => by
  obtain ⟨v, h3, h4⟩ := hv i t ht
  simp only [Array.getD_eq_getD_getElem?, h3]
  exact h4)
 generalize hSdef : aas.flatMap (·.2) ++ lv.2 = S at hS ⊢
 generalize hLdef : lv.1.map (·.1) = L at hS ⊢
 have hSv : valid look S ∧ okSrc look S := by
  have each : ∀ q ∈ S, (look q.1).alive = true ∧ (look q.1).ver = q.2 ∧ (look q.1).born = true ∧ q.2 ≤ (look q.1).ver := fun q hq => by
   rw [← hSdef] at hq
   rcases List.mem_append.1 hq with hq | hq
   ·
    obtain ⟨p, hp, hqp⟩ := List.mem_flatMap.1 hq
    obtain ⟨i, hi, rfl⟩ := List.getElem_of_mem hp
    obtain ⟨⟨b1, b2⟩, _⟩ := hap i _ (List.getElem?_eq_getElem hi)
    exact ⟨(b1 q hqp).1, (b1 q hqp).2, (b2 q hqp).1, (b2 q hqp).2⟩
   ·
    obtain ⟨p, hp, S', l, b1, b2⟩ := hRe.src q hq
    have ha := (hRe.each p hp).1
    cases hr : (look p.1).row with
    | true =>
     have := ((passOb_same b1).2.2.2.2.2.2 hr).2
     subst this
     simp at b2
    | false =>
     obtain ⟨⟨b3, b4⟩, _⟩ := passOb_cells R b1 ha hr
     exact ⟨(b3 q b2).1, (b3 q b2).2, (b4 q b2).1, (b4 q b2).2⟩
  exact ⟨fun q hq => ⟨(each q hq).1, (each q hq).2.1⟩, fun q hq => ⟨(each q hq).2.2.1, (each q hq).2.2.2⟩⟩
 refine ⟨hRe, hSv, ?_⟩
 have hnd : L.Nodup := by rw [← hLdef]; exact hRe.nd
 generalize hobjs : (lv.1.map fun p => mapOb (posIn L) noSrc { p.2 with ver := 0 }) = objs
 have hlen : objs.length = L.length := by rw [← hobjs, ← hLdef]; simp
 have hob : ∀ (j o : Nat), L[j]? = some o → ∃ x S' l, (passOb (look o)).run look = some ((x, S'), l) ∧ (∀ q ∈ S', q ∈ S) ∧ (look o).alive = true ∧ lookOf objs j = mapOb (posIn L) noSrc { x with ver := 0 } := fun j o hj => by
  rw [← hLdef] at hj
  simp only [List.getElem?_map, Option.map_eq_some_iff] at hj
  obtain ⟨p, hp, rfl⟩ := hj
  obtain ⟨b1, S', l, b2, b3⟩ := hRe.each p (List.mem_of_getElem? hp)
  refine ⟨p.2, S', l, b2, fun q hq => by rw [← hSdef]; exact List.mem_append_right _ (b3 q hq), b1, ?_⟩
  rw [← hobjs]
  simp [lookOf, hp]
 have hflags : ∀ (j o : Nat), L[j]? = some o → (lookOf objs j).born = (look o).born ∧ (lookOf objs j).alive = (look o).alive ∧ (lookOf objs j).may = (look o).may ∧ (lookOf objs j).row = (look o).row ∧ (lookOf objs j).k = (look o).k := fun j o hj => by
  obtain ⟨x, S', l, b1, _, _, b4⟩ := hob j o hj
  obtain ⟨c1, c2, c3, c4, c5, _⟩ := passOb_same b1
  rw [b4]
  unfold mapOb
  cases hr : x.row <;> simp [hr, ← c1, ← c2, ← c3, ← c4, ← c5]
 have hnone : ∀ j, L[j]? = none → lookOf objs j = .gone := fun j hj => by
  have : objs[j]? = none := List.getElem?_eq_none (by rw [hlen]; exact List.getElem?_eq_none_iff.1 hj)
  simp [lookOf, this]
 have hal' : ∀ j, (lookOf objs j).alive = true → ∃ o, L[j]? = some o ∧ (look o).alive = true := fun j hj => by
  cases hk : L[j]? with
  | none => rw [hnone j hk] at hj; cases hj
  | some o => exact ⟨o, rfl, (hflags j o hk).2.1.symm.trans hj⟩
 have hRen : Ren w g look (Nx (NN cx w g look) g S) w (fun j => (L[j]?).bind g) (lookOf objs) (Nx (NN cx w g look) g S) (posIn L) noSrc :=
  ren_there hlen fun j o hj => ⟨(hflags j o hj).1, (hflags j o hj).2.1, (hflags j o hj).2.2.2.2⟩
 have hNxb : ∀ b, Nx (NN cx w g look) g S b → b < w.heap.size := fun b hb => by
  rcases hb with hb | ⟨p, hp, hgb⟩
  · exact hb.1
  · exact (R.blk p.1 b (hSv.1 p hp).1 hgb).1
 have hnotS : ∀ p ∈ S, p.1 ∉ L := fun p hp hm => by
  have := List.all_eq_true.1 hS p hp
  simp [hm] at this
 refine ⟨by rw [hvs, List.length_map, hal], fun i t ht => ?_, fun j hj => ?_, fun j => ?_, fun j j' b h3 h4 h5 h6 => ?_, fun j b ha hgb => ?_, hNxb⟩
 ·
  simp only [List.getElem?_map, Option.map_eq_some_iff] at ht
  obtain ⟨p, hp, rfl⟩ := ht
  have hi : i < args.length := by have := (List.getElem?_eq_some_iff.1 hp).1; omega
  obtain ⟨v, h3, _⟩ := hv i _ (List.getElem?_eq_getElem hi)
  have := (hap i p hp).2 S (fun q hq => by rw [← hSdef]; exact List.mem_append_left _ (List.mem_flatMap.2 ⟨p, List.mem_of_getElem? hp, hq⟩))
  simp only [Array.getD_eq_getD_getElem?, h3, Option.getD_some] at this
  exact ⟨v, h3, this.ren hRen⟩
 ·
  have hk : L[j]? = some L[j] := List.getElem?_eq_getElem (by omega)
  rw [(hflags j _ hk).1]
  exact alive_born R (hob j _ hk).choose_spec.choose_spec.choose_spec.2.2.1
 ·
  intro ha
  obtain ⟨o, hk, hao⟩ := hal' j ha
  obtain ⟨x, S', l, b1, b2, _, b4⟩ := hob j o hk
  obtain ⟨f1, f2, f3, f4, f5⟩ := hflags j o hk
  have hr := (R.rt o hao).2
  have hg : (fun j => (L[j]?).bind g) j = g o := by simp [hk]
  refine ⟨f1.trans (alive_born R hao), ?_⟩
  rw [hg]
  cases hrow : (look o).row with
  | true =>
   have hxs : (lookOf objs j).xs = (look o).xs := by
    rw [b4]
    have := ((passOb_same b1).2.2.2.2.2.2 hrow).1
    subst this
    unfold mapOb
    simp [hrow]
   rw [hxs, f4, f5, hrow]
   rw [hrow] at hr
   cases hgo : g o with
   | none => rw [hgo] at hr; exact hr
   | some b =>
    rw [hgo] at hr
    obtain ⟨c, E', fr, c1, c2, c3⟩ := hr
    refine ⟨c, E', fr, c1, c2, fun i y hy => ⟨(c3 i y hy).1, fun q t ht => ?_⟩⟩
    obtain ⟨v, c4, c5⟩ := (c3 i y hy).2 q t ht
    exact ⟨v, c4, ShV.mono c5 fun b hb => ⟨.inl hb, rfl⟩⟩
  | false =>
   have hxr : x.row = false := (passOb_same b1).2.2.2.1.trans hrow
   have hxs : (lookOf objs j).xs = x.xs.map (mapA (posIn L) noSrc) := by
    rw [b4]
    unfold mapOb
    simp [hxr]
   rw [hxs, f4, f5, hrow]
   rw [hrow] at hr
   cases hgo : g o with
   | none => rw [hgo] at hr; cases hr.2
   | some b =>
    rw [hgo] at hr
    obtain ⟨c, E', fr, c1, c2, c3⟩ := hr
    refine ⟨c, E', fr, c1, c2, fun i y hy => ?_⟩
    simp only [List.getElem?_map, Option.map_eq_some_iff] at hy
    obtain ⟨z, hz, rfl⟩ := hy
    obtain ⟨_, hcells⟩ := passOb_cells R b1 hao hrow
    obtain ⟨x0, d1, d2, d3⟩ := hcells i z hz
    obtain ⟨e1, e2⟩ := mapA_cells (f := posIn L) (sg := noSrc) (t := z)
    refine ⟨(e1.trans d2).trans (c3 i x0 d1).1, fun q t ht => ?_⟩
    obtain ⟨t', e3, rfl⟩ := e2 q t ht
    obtain ⟨c0, d4, d5⟩ := d3 S b2 q t' e3
    obtain ⟨v, c4, c5⟩ := (c3 i x0 d1).2 q c0 d4
    exact ⟨v, c4, FrC.ren hRen (d5 v c5.1), c5.2⟩
 ·
  obtain ⟨o, k1, k2⟩ := hal' j h3.1
  obtain ⟨o', k3, k4⟩ := hal' j' h4.1
  have hgo : g o = some b := by simpa [k1] using h5
  have hgo' : g o' = some b := by simpa [k3] using h6
  have := R.inj o o' b ⟨k2, (hflags j o k1).2.2.1.symm.trans h3.2⟩ ⟨k4, (hflags j' o' k3).2.2.1.symm.trans h4.2⟩ hgo hgo'
  subst this
  exact nodup_at hnd k1 k3
 ·
  obtain ⟨o, k1, k2⟩ := hal' j ha
  have hgo : g o = some b := by simpa [k1] using hgb
  obtain ⟨h3, h4⟩ := R.blk o b k2 hgo
  refine ⟨h3, ?_⟩
  rw [(hflags j o k1).2.2.1]
  split
  ·
   rename_i hm
   rintro (hb | ⟨p, hp, hgp⟩)
   · exact hb.2.2 o ⟨k2, hm⟩ hgo
   ·
    by_cases hm' : (look p.1).may = true
    ·
     have := R.inj o p.1 b ⟨k2, hm⟩ ⟨(hSv.1 p hp).1, hm'⟩ hgo hgp
     exact hnotS p hp (this ▸ List.mem_of_getElem? k1)
    ·
     have := (R.blk p.1 b (hSv.1 p hp).1 hgp).2
     rw [if_neg hm'] at this
     exact this.2.2 o ⟨k2, hm⟩ hgo
  ·
   rename_i hm
   rw [if_neg hm] at h4
   exact .inl h4
end
end Go.Proofs.YtmjmoagmolgacaaGreatDoor.PM
namespace Go.Proofs.YtmjmoagmolgacaaGreatDoor.PM
open Go
theorem updL_at : ∀ (wr : List (Nat × Ob)) (look : Nat → Ob) (q : Nat) (x : Ob), (wr.map (·.1)).Nodup → (q, x) ∈ wr → updL look wr q = x
 | [], _, _, _, _, h => by simp at h
 | (o, y) :: r, look, q, x, hn, h => by
  rw [List.map_cons, List.nodup_cons] at hn
  rw [updL]
  rcases List.mem_cons.1 h with h | h
  ·
   obtain ⟨rfl, rfl⟩ := Prod.mk.inj h
   rw [updL_out r _ hn.1, up_same]
  · exact updL_at r _ q x hn.2 h
theorem verOf_eq {objs : List Ob} {j : Nat} : verOf objs j = (lookOf objs j).ver := by
 unfold verOf lookOf
 cases objs[j]? <;> rfl
theorem mapOb_same {f : Nat → Option Nat} {sg : List (Nat × Nat) → Option (List (Nat × Nat))} (x : Ob) : (mapOb f sg x).born = x.born ∧ (mapOb f sg x).alive = x.alive ∧ (mapOb f sg x).may = x.may ∧ (mapOb f sg x).row = x.row ∧ (mapOb f sg x).k = x.k := by
 unfold mapOb
 split <;> exact ⟨rfl, rfl, rfl, rfl, rfl⟩
section
variable {P : Program} {cx : Cx} {w w' : World} {g g' : Nat → Option Nat} {look : Nat → Ob} {tmps : List T} {a : Act}
theorem call_exi (R : Rel cx g tmps look a w) {lvs : List (Nat × Ob)} {S : List (Nat × Nat)} {objs objs' : List Ob} {base : Nat} {v : Value} {r : T} (hnd : (lvs.map (·.1)).Nodup) (hlal : ∀ p ∈ lvs, (look p.1).alive = true ∧ p.2.ver = (look p.1).ver)
 (hS : valid look S ∧ okSrc look S) (hSL : S.all (fun p => !(lvs.map (·.1)).contains p.1) = true)
 (hob : ∀ (j o : Nat), (lvs.map (·.1))[j]? = some o → (lookOf objs j).born = (look o).born ∧ (lookOf objs j).alive = (look o).alive ∧ (lookOf objs j).may = (look o).may ∧ (lookOf objs j).k = (look o).k) (hlen : objs.length = lvs.length)
 (hfresh : ∀ q, base ≤ q → q < base + room → (look q).born = false) (hm1 : lvs.length ≤ objs'.length) (hm2 : objs'.length < lvs.length + room) (hflat : S = [] ∨ ∀ x ∈ objs', x.row = true → flatL x.xs = true)
 (hmay : ∀ x ∈ objs', x.alive = true → x.may = true) (X : Exi w (fun j => ((lvs.map (·.1))[j]?).bind g) (Nx (NN cx w g look) g S) objs w' g' objs' v r) (dst : Option Tmp) :
 ∃ g₁, Rel cx g₁ (putT tmps dst (mapV (backN (lvs.map (·.1)) base objs'.length) (backS (lvs.map (·.1)) base (lvs.map (·.2)) objs' S) r))
  (updL look (objs'.zipIdx.map fun p => ((backN (lvs.map (·.1)) base objs'.length p.2).getD 0, { mapOb (backN (lvs.map (·.1)) base objs'.length) (backS (lvs.map (·.1)) base (lvs.map (·.2)) objs' S) p.1 with ver := if p.2 < (lvs.map (·.1)).length then verOf (lvs.map (·.2)) p.2 + 1 else p.1.ver }))) (a.put dst v) w' := by
 generalize hLdef : lvs.map (·.1) = L at *
 have hLl : L.length = lvs.length := by rw [← hLdef]; simp
 generalize hsg : backS L base (lvs.map (·.2)) objs' S = sg
 generalize hbk : backN L base objs'.length = bk
 let nob : Nat → Ob → Ob := fun i x => { mapOb bk sg x with ver := if i < L.length then verOf (lvs.map (·.2)) i + 1 else x.ver }
 have hnob : ∀ i x, (nob i x).born = x.born ∧ (nob i x).alive = x.alive ∧ (nob i x).may = x.may ∧ (nob i x).row = x.row ∧ (nob i x).k = x.k := fun i x => by
  show (mapOb bk sg x).born = _ ∧ (mapOb bk sg x).alive = _ ∧ (mapOb bk sg x).may = _ ∧ (mapOb bk sg x).row = _ ∧ (mapOb bk sg x).k = _
  exact mapOb_same x
 have hb1 : ∀ i, i < L.length → bk i = L[i]? := fun i hi => by rw [← hbk]; simp only [backN]; rw [if_pos hi]
 have hb2 : ∀ i, L.length ≤ i → i < objs'.length → bk i = some (base + (i - L.length)) := fun i h1 h2 => by rw [← hbk]; simp only [backN]; rw [if_neg (by omega), if_pos h2]
 have hb3 : ∀ i q, bk i = some q → i < objs'.length ∧ ((i < L.length ∧ L[i]? = some q) ∨ (L.length ≤ i ∧ q = base + (i - L.length))) := fun i q h => by
  rw [← hbk] at h
  simp only [backN] at h
  split at h
  · rename_i hi; exact ⟨by omega, .inl ⟨hi, h⟩⟩
  ·
   rename_i hi
   split at h
   · rename_i hi2; exact ⟨hi2, .inr ⟨by omega, (Option.some.inj h).symm⟩⟩
   · cases h
 have hLborn : ∀ (j o : Nat), L[j]? = some o → (look o).alive = true ∧ (look o).born = true := fun j o hj => by
  rw [← hLdef] at hj
  simp only [List.getElem?_map, Option.map_eq_some_iff] at hj
  obtain ⟨p, hp, rfl⟩ := hj
  have := (hlal p (List.mem_of_getElem? hp)).1
  exact ⟨this, alive_born R this⟩
 have hbkinj : ∀ i j q, bk i = some q → bk j = some q → i = j := fun i j q h1 h2 => by
  obtain ⟨a1, a2⟩ := hb3 i q h1
  obtain ⟨b1, b2⟩ := hb3 j q h2
  rcases a2 with ⟨a3, a4⟩ | ⟨a3, a4⟩
  ·
   rcases b2 with ⟨b3, b4⟩ | ⟨b3, b4⟩
   · exact nodup_at hnd a4 b4
   ·
    have := (hLborn i q a4).2
    rw [hfresh q (by omega) (by unfold room at *; omega)] at this
    cases this
  ·
   rcases b2 with ⟨b3, b4⟩ | ⟨b3, b4⟩
   ·
    have := (hLborn j q b4).2
    rw [hfresh q (by omega) (by unfold room at *; omega)] at this
    cases this
   · omega
 have hbksome : ∀ i, i < objs'.length → ∃ q, bk i = some q := fun i hi => by
  rcases Nat.lt_or_ge i L.length with h | h
  · exact ⟨L[i], by rw [hb1 i h]; simp [h]⟩
  · exact ⟨_, hb2 i h hi⟩
 generalize hwr : (objs'.zipIdx.map fun p => ((bk p.2).getD 0, nob p.2 p.1)) = wr
 have hwrn : (wr.map (·.1)).Nodup := by
  rw [← hwr, List.map_map]
  refine List.pairwise_iff_getElem.2 fun i j hi hj hij => ?_
  simp only [List.length_map, List.length_zipIdx] at hi hj
  simp only [List.getElem_map, List.getElem_zipIdx, Function.comp, Nat.zero_add]
  obtain ⟨q, hq⟩ := hbksome i hi
  obtain ⟨q', hq'⟩ := hbksome j hj
  rw [hq, hq']
  simp only [Option.getD_some]
  intro e
  subst e
  exact absurd (hbkinj i j q hq hq') (by omega)
 have hwrm : ∀ i x q, objs'[i]? = some x → bk i = some q → (q, nob i x) ∈ wr := fun i x q hx hq => by
  rw [← hwr]
  refine List.mem_map.2 ⟨(x, i), ?_, by simp [hq]⟩
  rw [List.mem_zipIdx_iff_getElem?]
  exact hx
 generalize hl1 : updL look wr = look₁
 have hin : ∀ i x q, objs'[i]? = some x → bk i = some q → look₁ q = nob i x := fun i x q hx hq => by
  rw [← hl1]; exact updL_at wr look q _ hwrn (hwrm i x q hx hq)
 have hout : ∀ q, (∀ i, bk i ≠ some q) → look₁ q = look q := fun q hq => by
  rw [← hl1]
  refine updL_out wr look fun hm => ?_
  rw [← hwr, List.map_map] at hm
  obtain ⟨⟨x, i⟩, hxi, he⟩ := List.mem_map.1 hm
  rw [List.mem_zipIdx_iff_getElem?] at hxi
  have hi : i < objs'.length := (List.getElem?_eq_some_iff.1 hxi).1
  obtain ⟨q', hq'⟩ := hbksome i hi
  simp only [Function.comp, hq', Option.getD_some] at he
  exact hq i (by rw [hq', he])
 let g₁ : Nat → Option Nat := fun q => if base ≤ q ∧ q < base + room then g' (L.length + (q - base)) else g q
 have hg1out : ∀ q, (look q).born = true → g₁ q = g q := fun q hq => by
  show (if base ≤ q ∧ q < base + room then g' (L.length + (q - base)) else g q) = g q
  split
  · rename_i h; rw [hfresh q h.1 h.2] at hq; cases hq
  · rfl
 have hlent := X.lent
 have hg1in : ∀ i x q, objs'[i]? = some x → bk i = some q → x.alive = true → g₁ q = g' i := fun i x q hx hq ha => by
  obtain ⟨h1, h2⟩ := hb3 i q hq
  rcases h2 with ⟨h3, h4⟩ | ⟨h3, h4⟩
  ·
   rw [hg1out q (hLborn i q h4).2]
   have := (hlent i (by omega)).2 (by rw [lookOf, hx]; exact ha)
   rw [this.2.2.1]
   simp [h4]
  ·
   show (if base ≤ q ∧ q < base + room then g' (L.length + (q - base)) else g q) = g' i
   rw [if_pos (by unfold room at *; omega)]
   congr 1
   omega
 have cls : ∀ q, (∃ i x, objs'[i]? = some x ∧ bk i = some q ∧ look₁ q = nob i x) ∨ ((∀ i, bk i ≠ some q) ∧ look₁ q = look q) := fun q => by
  by_cases h : ∃ i, bk i = some q
  ·
   obtain ⟨i, hi⟩ := h
   have h1 := (hb3 i q hi).1
   exact .inl ⟨i, objs'[i], List.getElem?_eq_getElem h1, hi, hin i _ q (List.getElem?_eq_getElem h1) hi⟩
  ·
   have h' : ∀ i, bk i ≠ some q := fun i hi => h ⟨i, hi⟩
   exact .inr ⟨h', hout q h'⟩
 have hlk : ∀ i x, objs'[i]? = some x → lookOf objs' i = x := fun i x hx => by simp [lookOf, hx]
 have hLb : ∀ b, (∃ o, Own (lookOf objs) o ∧ (fun j => (L[j]?).bind g) o = some b) → ∃ o, o ∈ L ∧ Own look o ∧ g o = some b := fun b ⟨j, hj, hgj⟩ => by
  cases hk : L[j]? with
  | none => simp only [hk, Option.bind_none] at hgj; cases hgj
  | some o =>
   simp only [hk, Option.bind_some] at hgj
   obtain ⟨_, h2, h3, _⟩ := hob j o hk
   exact ⟨o, List.mem_of_getElem? hk, ⟨h2.symm.trans hj.1, h3.symm.trans hj.2⟩, hgj⟩
 have hnotS : ∀ p ∈ S, p.1 ∉ L := fun p hp hm => by
  have := List.all_eq_true.1 hSL p hp
  simp [hm] at this
 have hSout : ∀ p ∈ S, (∀ i, bk i ≠ some p.1) := fun p hp i hi => by
  obtain ⟨_, h2⟩ := hb3 i p.1 hi
  rcases h2 with ⟨_, h4⟩ | ⟨h3, h4⟩
  · exact hnotS p hp (List.mem_of_getElem? h4)
  ·
   have := (hS.2 p hp).1
   rw [hfresh p.1 (by omega) (by have := (hb3 i p.1 hi).1; unfold room at *; omega)] at this
   cases this
 have hver : ∀ j o, L[j]? = some o → verOf (lvs.map (·.2)) j = (look o).ver := fun j o hj => by
  rw [← hLdef] at hj
  simp only [List.getElem?_map, Option.map_eq_some_iff] at hj
  obtain ⟨p, hp, rfl⟩ := hj
  rw [← (hlal p (List.mem_of_getElem? hp)).2]
  simp [verOf, hp]
 have hkeep : ∀ q b, (look q).alive = true → q ∉ L → g q = some b → w'.heap[b]? = w.heap[b]? := fun q b hq hnl hgq => by
  obtain ⟨h1, h2⟩ := R.blk q b hq hgq
  refine X.keep b h1 fun hx => ?_
  obtain ⟨o, h3, h4, h5⟩ := hLb b hx
  by_cases hm : (look q).may = true
  · exact hnl (R.inj q o b ⟨hq, hm⟩ h4 hgq h5 ▸ h3)
  ·
   rw [if_neg hm] at h2
   exact h2.2.2 o h4 h5
 have hnL : ∀ q, (∀ i, bk i ≠ some q) → q ∉ L := fun q hq hm => by
  obtain ⟨j, hj, rfl⟩ := List.getElem_of_mem hm
  exact hq j (by rw [hb1 j hj]; simp [hj])
 have C : Chg w g look w' g₁ look₁ := by
  refine ⟨X.hsz, fun b hlt hno => X.keep b hlt fun hx => ?_, X.os, X.tape, X.output, fun q hq => ?_, fun q b hq hgq => ?_⟩
  ·
   obtain ⟨o, _, h4, h5⟩ := hLb b hx
   exact hno o h4 h5
  ·
   rcases cls q with ⟨i, x, hx, hi, he⟩ | ⟨hno, he⟩
   ·
    obtain ⟨h1, h2⟩ := hb3 i q hi
    have hiL : i < L.length ∧ L[i]? = some q := by
     rcases h2 with h2 | ⟨h3, h4⟩
     · exact h2
     · rw [hfresh q (by omega) (by unfold room at *; omega)] at hq; cases hq
    obtain ⟨c1, c2⟩ := hlent i (by omega)
    rw [hlk i x hx] at c1 c2
    obtain ⟨n1, n2, n3, n4, n5⟩ := hnob i x
    have hv : (nob i x).ver = (look q).ver + 1 := by
     show (if i < L.length then verOf (lvs.map (·.2)) i + 1 else x.ver) = _
     rw [if_pos hiL.1, hver i q hiL.2]
    obtain ⟨e1, e2, e3, e4⟩ := hob i q hiL.2
    rw [he]
    refine ⟨n1.trans c1, by omega, fun ha => ?_⟩
    have ha' : x.alive = true := n2.symm.trans ha
    obtain ⟨d1, d2, d3, d4⟩ := c2 ha'
    refine ⟨e2.symm.trans d1, n5.trans (d2.trans e4), by rw [hg1out q hq], fun b hb => ⟨d4 b (by simp [hiL.2, hb]), fun hh => by omega⟩⟩
   ·
    rw [he, hg1out q hq]
    refine ⟨hq, Nat.le_refl _, fun ha => ⟨ha, rfl, rfl, fun b hb => ?_⟩⟩
    have := hkeep q b ha (hnL q hno) hb
    exact ⟨by simp [csz, this], fun _ => this⟩
  ·
   rcases cls q with ⟨i, x, hx, hi, he⟩ | ⟨hno, he⟩
   ·
    obtain ⟨n1, n2, n3, n4, n5⟩ := hnob i x
    unfold Own at hq
    rw [he, n2, n3] at hq
    rw [hg1in i x q hx hi hq.1] at hgq
    have := (X.blk i b (by rw [hlk i x hx]; exact hq.1) hgq).2
    rw [hlk i x hx, if_pos hq.2] at this
    rcases this with h | h
    · exact .inr h
    ·
     obtain ⟨o, _, h4, h5⟩ := hLb b h
     exact .inl ⟨o, h4, h5⟩
   ·
    unfold Own at hq
    rw [he] at hq
    rw [hg1out q (alive_born R hq.1)] at hgq
    exact .inl ⟨q, hq, hgq⟩
 have E := R.ext C
 have hown1 : ∀ q b, Own look₁ q → g₁ q = some b → (∃ i x, objs'[i]? = some x ∧ bk i = some q ∧ Own (lookOf objs') i ∧ g' i = some b) ∨ ((∀ i, bk i ≠ some q) ∧ Own look q ∧ g q = some b) := fun q b hq hgq => by
  rcases cls q with ⟨i, x, hx, hi, he⟩ | ⟨hno, he⟩
  ·
   obtain ⟨n1, n2, n3, n4, n5⟩ := hnob i x
   unfold Own at hq
   rw [he, n2, n3] at hq
   rw [hg1in i x q hx hi hq.1] at hgq
   exact .inl ⟨i, x, hx, hi, by unfold Own; rw [hlk i x hx]; exact hq, hgq⟩
  ·
   unfold Own at hq
   rw [he] at hq
   rw [hg1out q (alive_born R hq.1)] at hgq
   exact .inr ⟨hno, hq, hgq⟩
 have hN2 : ∀ b, NN (cxOf w (fun j => (L[j]?).bind g) (Nx (NN cx w g look) g S) objs) w' g' (lookOf objs') b → NN cx w' g₁ look₁ b ∨ ∃ p ∈ S, g p.1 = some b := fun b hb => by
  by_cases hs : ∃ p ∈ S, g p.1 = some b
  · exact .inr hs
  ·
   left
   obtain ⟨h1, h2, h3⟩ := hb
   have h2' : NN cx w g look b ∨ w.heap.size ≤ b ∨ ∃ o, o ∈ L ∧ Own look o ∧ g o = some b := by
    rcases h2 with (h2 | h2) | h2 | h2
    · exact .inl h2
    · exact absurd h2 hs
    · exact .inr (.inl h2)
    · exact .inr (.inr (hLb b h2))
   refine ⟨h1, ?_, fun q hq hgq => ?_⟩
   ·
    rcases h2' with h2 | h2 | ⟨o, _, h4, h5⟩
    · exact h2.2.1
    · exact .inr (.inl (Nat.le_trans R.hsz h2))
    ·
     have := (R.blk o b h4.1 h5).2
     rw [if_pos h4.2] at this
     exact .inr this
   ·
    rcases hown1 q b hq hgq with ⟨i, x, hx, hi, ho, hgi⟩ | ⟨hno, ho, hgo⟩
    · exact h3 i ho hgi
    ·
     rcases h2' with h2 | h2 | ⟨o, hoL, h4, h5⟩
     · exact h2.2.2 q ho hgo
     ·
      have := (R.blk q b ho.1 hgo).1
      omega
     · exact hnL q hno (R.inj q o b ho h4 hgo h5 ▸ hoL)
 have hRen : Ren w' g' (lookOf objs') (NN (cxOf w (fun j => (L[j]?).bind g) (Nx (NN cx w g look) g S) objs) w' g' (lookOf objs')) w' g₁ look₁ (NN cx w' g₁ look₁) bk sg := by
  refine ⟨fun i q hi hb => ?_, fun l l' hl hok => ?_⟩
  ·
   obtain ⟨h1, _⟩ := hb3 i q hi
   have hx : objs'[i]? = some objs'[i] := List.getElem?_eq_getElem h1
   obtain ⟨n1, n2, n3, n4, n5⟩ := hnob i objs'[i]
   rw [hin i _ q hx hi]
   rw [hlk i _ hx] at hb ⊢
   refine ⟨n1.trans hb, fun ha => ?_⟩
   have ha' := n2.symm.trans ha
   exact ⟨ha', n5, hg1in i _ q hx hi ha', fun _ _ => rfl⟩
  ·
   rw [← hsg] at hl
   unfold backS at hl
   simp only [Option.map_eq_some_iff] at hl
   obtain ⟨ms, hms, rfl⟩ := hl
   rw [hbk] at hms
   have key : ∀ (l : List (Nat × Nat)) (ms : List (Nat × Nat)), (l.mapM fun p => if verOf objs' p.1 = p.2 then (bk p.1).map fun o => (o, if p.1 < L.length then verOf (lvs.map (·.2)) p.1 + 1 else p.2) else none) = some ms →
    (∀ p ∈ l, verOf objs' p.1 = p.2 ∧ ∃ o, bk p.1 = some o ∧ (o, if p.1 < L.length then verOf (lvs.map (·.2)) p.1 + 1 else p.2) ∈ ms) ∧ ∀ m ∈ ms, ∃ p ∈ l, verOf objs' p.1 = p.2 ∧ bk p.1 = some m.1 ∧ m.2 = if p.1 < L.length then verOf (lvs.map (·.2)) p.1 + 1 else p.2 := by
    intro l
    induction l with
    | nil => intro ms h; simp at h; subst h; exact ⟨fun p hp => by simp at hp, fun m hm => by simp at hm⟩
    | cons p r ih =>
     intro ms h
     rw [List.mapM_cons] at h
     simp only [Option.bind_eq_bind, Option.bind_eq_some_iff, Option.pure_def, Option.some.injEq] at h
     obtain ⟨m, hm, ms', hms', rfl⟩ := h
     obtain ⟨h1, h2⟩ := ih ms' hms'
     split at hm
     ·
      rename_i hv
      simp only [Option.map_eq_some_iff] at hm
      obtain ⟨o, ho, rfl⟩ := hm
      refine ⟨fun q hq => ?_, fun m hm => ?_⟩
      ·
       rcases List.mem_cons.1 hq with rfl | hq
       · exact ⟨hv, o, ho, by simp⟩
       ·
        obtain ⟨b1, o', b2, b3⟩ := h1 q hq
        exact ⟨b1, o', b2, List.mem_cons_of_mem _ b3⟩
      ·
       rcases List.mem_cons.1 hm with rfl | hm
       · exact ⟨p, by simp, hv, ho, rfl⟩
       ·
        obtain ⟨q, hq, b⟩ := h2 m hm
        exact ⟨q, List.mem_cons_of_mem _ hq, b⟩
     · cases hm
   obtain ⟨k1, k2⟩ := key l ms hms
   refine ⟨fun m hm => ?_, fun hvl => ⟨fun p hp => ?_, fun b hb => ⟨?_, rfl⟩⟩⟩
   ·
    rcases List.mem_append.1 hm with hm | hm
    ·
     obtain ⟨p, hp, hv, hbp, hm2⟩ := k2 m hm
     obtain ⟨h1, _⟩ := hb3 p.1 m.1 hbp
     have hx : objs'[p.1]? = some objs'[p.1] := List.getElem?_eq_getElem h1
     rw [hin p.1 _ m.1 hx hbp, hm2]
     have hbn := (hok p hp).1
     rw [hlk p.1 _ hx] at hbn
     refine ⟨(hnob p.1 _).1.trans hbn, ?_⟩
     show _ ≤ if p.1 < L.length then verOf (lvs.map (·.2)) p.1 + 1 else objs'[p.1].ver
     split
     · exact Nat.le_refl _
     · rw [← hv, verOf_eq, hlk p.1 _ hx]; exact Nat.le_refl _
    ·
     rw [hout m.1 (hSout m hm)]
     exact hS.2 m hm
   ·
    obtain ⟨hv, o, hbo, hmem⟩ := k1 p hp
    obtain ⟨h1, _⟩ := hb3 p.1 o hbo
    have hx : objs'[p.1]? = some objs'[p.1] := List.getElem?_eq_getElem h1
    have := (hvl _ (List.mem_append_left _ hmem)).1
    rw [hin p.1 _ o hx hbo, (hnob p.1 _).2.1] at this
    rw [verOf_eq] at hv
    exact ⟨by rw [hlk p.1 _ hx]; exact this, hv⟩
   ·
    rcases hb with hb | ⟨p, hp, hgb⟩
    ·
     rcases hN2 b hb with h | ⟨p, hp, hgp⟩
     · exact .inl h
     · exact .inr ⟨p, List.mem_append_right _ hp, (hg1out p.1 (hS.2 p hp).1).trans hgp⟩
    ·
     obtain ⟨hv, o, hbo, hmem⟩ := k1 p hp
     obtain ⟨h1, _⟩ := hb3 p.1 o hbo
     have hx : objs'[p.1]? = some objs'[p.1] := List.getElem?_eq_getElem h1
     have hal := (hvl _ (List.mem_append_left _ hmem)).1
     rw [hin p.1 _ o hx hbo, (hnob p.1 _).2.1] at hal
     exact .inr ⟨_, List.mem_append_left _ hmem, (hg1in p.1 _ o hx hbo hal).trans hgb⟩
 refine ⟨g₁, ?_⟩
 refine R.step C dst (FrV.ren hRen X.val) (fun q ha => ?_) (fun q q' b h1 h2 h3 h4 => ?_) (fun q b ha hgq => ?_)
 ·
  rcases cls q with ⟨i, x, hx, hi, he⟩ | ⟨hno, he⟩
  ·
   have hxa : x.alive = true := by rw [he, (hnob i x).2.1] at ha; exact ha
   refine RootV.ren hRen (X.rt i) (nob i x) ?_ he (hg1in i x q hx hi hxa) (fun _ _ => rfl) (fun hr i' y hy j t ht v hv => ?_)
   ·
    rw [hlk i x hx]
    show nob i x = mapOb bk sg { x with ver := (nob i x).ver }
    show ({ mapOb bk sg x with ver := (nob i x).ver } : Ob) = mapOb bk sg { x with ver := (nob i x).ver }
    generalize (nob i x).ver = vv
    unfold mapOb
    by_cases hrr : x.row = true
    · simp [hrr]
    · simp [hrr]
   ·
    rcases hflat with rfl | hflat
    · exact hv.mono fun b hb => ⟨(hN2 b hb).resolve_right fun ⟨p, hp, _⟩ => by simp at hp, rfl⟩
    ·
     rw [hlk i x hx] at hr hy
     obtain ⟨u, rfl⟩ := flat_sh (hflat x (List.mem_of_getElem? hx) hr) hy ht
     obtain ⟨e1, e2⟩ := hv.sc_inv
     rw [e1]
     exact .sc e2
  ·
   rw [he] at ha
   exact RootV.mono E (R.rt q) he (hg1out q (alive_born R ha)) (fun b hb => hkeep q b ha (hnL q hno) hb)
 ·
  rcases hown1 q b h1 h3 with ⟨i, x, hx, hi, ho, hgi⟩ | ⟨hno, ho, hgo⟩
  ·
   rcases hown1 q' b h2 h4 with ⟨i', x', hx', hi', ho', hgi'⟩ | ⟨hno', ho', hgo'⟩
   ·
    have := X.inj i i' b ho ho' hgi hgi'
    subst this
    exact Option.some.inj (hi.symm.trans hi')
   ·
    exfalso
    have := (X.blk i b ho.1 hgi).2
    rw [if_pos ho.2] at this
    rcases this with h | h
    ·
     have := (R.blk q' b ho'.1 hgo').1
     omega
    ·
     obtain ⟨o, hoL, h4, h5⟩ := hLb b h
     exact hnL q' hno' (R.inj q' o b ho' h4 hgo' h5 ▸ hoL)
  ·
   rcases hown1 q' b h2 h4 with ⟨i', x', hx', hi', ho', hgi'⟩ | ⟨hno', ho', hgo'⟩
   ·
    exfalso
    have := (X.blk i' b ho'.1 hgi').2
    rw [if_pos ho'.2] at this
    rcases this with h | h
    ·
     have := (R.blk q b ho.1 hgo).1
     omega
    ·
     obtain ⟨o, hoL, h4, h5⟩ := hLb b h
     exact hnL q hno (R.inj q o b ho h4 hgo h5 ▸ hoL)
   · exact R.inj q q' b ho ho' hgo hgo'
 ·
  rcases cls q with ⟨i, x, hx, hi, he⟩ | ⟨hno, he⟩
  ·
   obtain ⟨n1, n2, n3, n4, n5⟩ := hnob i x
   have hxa : x.alive = true := by rw [he, n2] at ha; exact ha
   rw [hg1in i x q hx hi hxa] at hgq
   obtain ⟨h1, h2⟩ := X.blk i b (by rw [hlk i x hx]; exact hxa) hgq
   rw [hlk i x hx] at h2
   rw [he, n3]
   refine ⟨h1, fun hm => ?_, fun hm => ?_⟩
   ·
    rw [if_pos hm] at h2
    rcases h2 with h | h
    · exact .inl (Nat.le_trans R.hsz h)
    ·
     obtain ⟨o, _, h4, h5⟩ := hLb b h
     have := (R.blk o b h4.1 h5).2
     rw [if_pos h4.2] at this
     exact this
   ·
    rw [hmay x (List.mem_of_getElem? hx) hxa] at hm
    cases hm
  ·
   rw [he] at ha
   rw [hg1out q (alive_born R ha)] at hgq
   rw [he]
   obtain ⟨h1, h2⟩ := R.blk q b ha hgq
   refine ⟨Nat.lt_of_lt_of_le h1 X.hsz, fun hm => by rw [if_pos hm] at h2; exact h2, fun hm => ?_⟩
   rw [hm] at h2
   exact (E.n b h2).1
end
end Go.Proofs.YtmjmoagmolgacaaGreatDoor.PM
namespace Go.Proofs.YtmjmoagmolgacaaGreatDoor.PM
open Go
section
variable {P : Program} {E : Env} {cx : Cx} {w w' : World} {g g' : Nat → Option Nat} {look : Nat → Ob} {tmps : List T} {a : Act}
theorem callFunc_run {f : FuncId} (h : FnOk P f) (args : Array Value) (w : World) : (callFunc f args).run P w = .ok (.enter f args) w := by
 obtain ⟨fn, h1, h2, h3⟩ := h
 simp only [callFunc, Sem.run_bind, run_program, Result.andThen_ok, h1, h2, h3, Bool.false_eq_true, if_false, Sem.run_pure]
theorem env_ok (hC : CallsOk P E) (hG : GlobCx P cx) : EnvOk P E cx := by
 intro g tmps look a w R base o e l hb hcall h K Q hK
 obtain ⟨dst, op, type, pos, after, gd⟩ := o
 cases op <;> simp [isCall] at hcall
 rename_i c
 obtain ⟨callee, args, ats⟩ := c
 cases callee <;> simp at hcall
 rename_i f
 simp only [opR] at h
 split at h
 ·
  rename_i gf caps hf
  have hfv := eval_ok R f
  rw [hf] at hfv
  obtain ⟨vs, hfe, hvsz, hvc⟩ := hfv
  have hargs : (args.map a.eval ++ vs).size = (args.toList.map (evalT tmps) ++ caps).length := by simp [hvsz]
  have hav : ∀ (i : Nat) t, (args.toList.map (evalT tmps) ++ caps)[i]? = some t → ∃ v, (args.map a.eval ++ vs)[i]? = some v ∧ FrV w g look (NN cx w g look) v t := fun i t ht => by
   by_cases hi : i < args.size
   ·
    rw [List.getElem?_append_left (by simpa using hi)] at ht
    simp only [List.getElem?_map, Option.map_eq_some_iff] at ht
    obtain ⟨x, hx, rfl⟩ := ht
    refine ⟨a.eval x, ?_, eval_ok R x⟩
    rw [Array.getElem?_append_left (by simpa using hi)]
    simp at hx
    simp [hx]
   ·
    rw [List.getElem?_append_right (by simpa using hi)] at ht
    simp only [List.length_map, Array.length_toList] at ht
    obtain ⟨u, o', i', j', h1, rfl, h3⟩ := hvc _ t ht
    refine ⟨u, ?_, h3⟩
    rw [Array.getElem?_append_right (by simpa using hi)]
    simpa using h1
  simp only [callR, bind_some, opt_some, guard_some, pure_some] at h
  obtain ⟨aas, _, _, h1, ⟨lv, _, _, h2, ⟨_, _, _, ⟨h3, _⟩, ⟨ro, _, _, ⟨h4, _⟩, ⟨_, _, _, ⟨h5, _⟩, ⟨rfl, _⟩, _⟩, _⟩, _⟩, _⟩, _⟩ := h
  obtain ⟨hRe, hSv, hEnt⟩ := call_ent R hargs hav h1 h2 h3
  obtain ⟨hfn, hok⟩ := hC _ _ _ _ _ h4
  have hcalls := hok w _ _ _ hEnt fun b hb => let ⟨x1, x2⟩ := hG.now R b hb; ⟨.inl x1, x2⟩
  simp only [Bool.and_eq_true, decide_eq_true_eq, Bool.or_eq_true] at h5
  obtain ⟨⟨⟨hm1, hm2⟩, hflat⟩, hmay⟩ := h5
  unfold Oper.wp
  have hrun : (execOp a.eval { dst := dst, op := .call { callee := .value f, args := args, argTypes := ats }, type := type, pos := pos, after := after, guard := gd }).run P w = .ok (.enter gf (args.map a.eval ++ vs)) w := by
   simp only [execOp, resolve, hfe, Deferred.ofValue, invoke, Sem.run_bind, Sem.run_pure, Result.andThen_ok]
   rw [callFunc_run hfn]
   simp
  rw [hrun, Oper.upon_enter]
  refine hcalls.mono fun en w' ⟨v, g', he, X⟩ => ?_
  subst he
  have hLl : (lv.1.map (·.1)).length = lv.1.length := by simp
  have hob : ∀ (j o : Nat), (lv.1.map (·.1))[j]? = some o → (lookOf (lv.1.map fun p => mapOb (posIn (lv.1.map (·.1))) noSrc { p.2 with ver := 0 }) j).born = (look o).born ∧ (lookOf (lv.1.map fun p => mapOb (posIn (lv.1.map (·.1))) noSrc { p.2 with ver := 0 }) j).alive = (look o).alive ∧
   (lookOf (lv.1.map fun p => mapOb (posIn (lv.1.map (·.1))) noSrc { p.2 with ver := 0 }) j).may = (look o).may ∧ (lookOf (lv.1.map fun p => mapOb (posIn (lv.1.map (·.1))) noSrc { p.2 with ver := 0 }) j).k = (look o).k := fun j o hj => by
   simp only [List.getElem?_map, Option.map_eq_some_iff] at hj
   obtain ⟨p, hp, rfl⟩ := hj
   obtain ⟨_, S, l, b2, _⟩ := hRe.each p (List.mem_of_getElem? hp)
   obtain ⟨c1, c2, c3, c4, c5, c6, _⟩ := passOb_same b2
   obtain ⟨n1, n2, n3, n4, n5⟩ := mapOb_same (f := posIn (lv.1.map (·.1))) (sg := noSrc) { p.2 with ver := 0 }
   have : lookOf (lv.1.map fun p => mapOb (posIn (lv.1.map (·.1))) noSrc { p.2 with ver := 0 }) j = mapOb (posIn (lv.1.map (·.1))) noSrc { p.2 with ver := 0 } := by simp [lookOf, hp]
   rw [this, n1, n2, n3, n5]
   exact ⟨c1, c2, c3, c5⟩
  obtain ⟨g₁, R₁⟩ := call_exi R (lvs := lv.1) (S := aas.flatMap (·.2) ++ lv.2) (base := base) hRe.nd (fun p hp => by
   obtain ⟨b1, S, l, b2, _⟩ := hRe.each p hp
   exact ⟨b1, (passOb_same b2).2.2.2.2.2.1⟩) hSv h3 hob (by simp) hb (by rw [← hLl]; exact hm1) (by rw [← hLl]; exact hm2)
   (by
    rcases hflat with h | h
    · exact .inl (by simpa using h)
    ·
     refine .inr fun x hx hr => ?_
     have := List.all_eq_true.1 h x hx
     simpa [hr] using this)
   (fun x hx ha => by
    have := List.all_eq_true.1 hmay x hx
    simpa [ha] using this) X dst
  exact hK _ _ _ R₁
 · simp only [fail_some] at h
end
end Go.Proofs.YtmjmoagmolgacaaGreatDoor.PM
namespace Go.Proofs.YtmjmoagmolgacaaGreatDoor.PM
open Go
section
variable {P : Program} {cx : Cx} {w w' : World} {g g' : Nat → Option Nat} {look : Nat → Ob} {tmps : List T} {a : Act}
theorem phantoms : ∀ (news : List (Nat × Ob)) (g : Nat → Option Nat) (look : Nat → Ob), Rel cx g tmps look a w → (∀ p ∈ news, (look p.1).born = false ∧ ∃ k, p.2 = Ob.mkRow k []) → (news.map (·.1)).Nodup →
 ∃ g₂, Rel cx g₂ tmps (updL look news) a w ∧ Ext w g look (NN cx w g look) w g₂ (updL look news) (NN cx w g₂ (updL look news)) ∧ (∀ p ∈ news, g₂ p.1 = none ∧ updL look news p.1 = p.2) ∧ ∀ q, q ∉ news.map (·.1) → g₂ q = g q
 | [], g, look, R, _, _ => ⟨g, R, Ext.refl _ _ _ _, fun p hp => by simp at hp, fun _ _ => rfl⟩
 | (n, x) :: r, g, look, R, h, hn => by
  rw [List.map_cons, List.nodup_cons] at hn
  obtain ⟨hb, k, hx⟩ := h (n, x) (by simp)
  simp only at hb hx
  subst hx
  have R1 := phantom_new R hb k none none
  have E1 : Ext w g look (NN cx w g look) w (up g n none) (up look n (Ob.mkRow k [])) (NN cx w (up g n none) (up look n (Ob.mkRow k []))) := phantom_ext hb k
  obtain ⟨g₂, R2, E2, h1, h2⟩ := phantoms r (up g n none) (up look n (Ob.mkRow k [])) R1 (fun p hp => by
   obtain ⟨c1, c2⟩ := h p (List.mem_cons_of_mem _ hp)
   have : p.1 ≠ n := fun e => hn.1 (e ▸ List.mem_map.2 ⟨p, hp, rfl⟩)
   rw [up_ne _ _ this]
   exact ⟨c1, c2⟩) hn.2
  refine ⟨g₂, R2, E1.trans E2, fun p hp => ?_, fun q hq => ?_⟩
  ·
   rcases List.mem_cons.1 hp with rfl | hp
   ·
    refine ⟨(h2 n hn.1).trans (up_same _ _ _), ?_⟩
    show updL (up look n _) r n = _
    rw [updL_out r _ hn.1, up_same]
   · exact h1 p hp
  ·
   simp only [List.map_cons, List.mem_cons, not_or] at hq
   exact (h2 q hq.2).trans (up_ne _ _ hq.1)
def Out (look : Nat → Ob) (add : List (Nat × Ob)) (t t' : T) : Prop :=
 (t = .nil ∧ ∃ n k, (n, Ob.mkRow k []) ∈ add ∧ t' = .win n 0 0) ∨ (∃ l, (view1 t).run look = some (t', l)) ∨ (t' = t ∧ cellT t = true)
structure Outs (look : Nat → Ob) (nx nx' : Nat) (news : List (Nat × Ob)) : Prop where
 le : nx ≤ nx'
 add : ∀ p ∈ news, nx ≤ p.1 ∧ p.1 < nx' ∧ ∃ k, p.2 = Ob.mkRow k []
 nd : (news.map (·.1)).Nodup
theorem Outs.append {nx nx₁ nx₂ : Nat} {add₁ add₂ : List (Nat × Ob)} (h : Outs look nx nx₁ add₁) (k : Outs look nx₁ nx₂ add₂) : Outs look nx nx₂ (add₁ ++ add₂) := by
 refine ⟨Nat.le_trans h.le k.le, fun p hp => ?_, ?_⟩
 ·
  rcases List.mem_append.1 hp with hp | hp
  · obtain ⟨b1, b2, b3⟩ := h.add p hp; have := k.le; exact ⟨b1, by omega, b3⟩
  · obtain ⟨b1, b2, b3⟩ := k.add p hp; have := h.le; exact ⟨by omega, b2, b3⟩
 ·
  rw [List.map_append, List.nodup_append]
  refine ⟨h.nd, k.nd, fun p hp q hq => ?_⟩
  obtain ⟨p', hp', rfl⟩ := List.mem_map.1 hp
  obtain ⟨q', hq', rfl⟩ := List.mem_map.1 hq
  have := (h.add p' hp').2.1
  have := (k.add q' hq').1
  omega
theorem Outs.nil {nx : Nat} : Outs look nx nx [] := ⟨Nat.le_refl _, fun p hp => by simp at hp, by simp⟩
theorem Out.mono {add add' : List (Nat × Ob)} (ha : ∀ p ∈ add, p ∈ add') {t t' : T} (h : Out look add t t') : Out look add' t t' := by
 rcases h with ⟨b1, n, k, b2, b3⟩ | h
 · exact .inl ⟨b1, n, k, ha _ b2, b3⟩
 · exact .inr h
theorem outCell_ok {own : Bool} {m : Nat} {k : Option Nat} {t : T} {nx : Nat} {p : T × Nat × List (Nat × Ob)} (h : outCell own m look k t nx = some p) : Outs look nx p.2.1 p.2.2 ∧ Out look p.2.2 t p.1 ∧ cellT t = true := by
 unfold outCell at h
 split at h
 ·
  split at h
  ·
   obtain rfl := Option.some.inj h
   refine ⟨⟨Nat.le_succ _, fun p hp => ?_, by simp⟩, .inl ⟨rfl, nx, _, List.mem_singleton.2 rfl, rfl⟩, rfl⟩
   simp only [List.mem_singleton] at hp
   subst hp
   exact ⟨Nat.le_refl _, Nat.lt_succ_self _, _, rfl⟩
  ·
   obtain rfl := Option.some.inj h
   exact ⟨Outs.nil, .inr (.inl ⟨[], by simp [view1, Rd.run]⟩), rfl⟩
 ·
  split at h
  ·
   obtain rfl := Option.some.inj h
   exact ⟨Outs.nil, .inr (.inr ⟨rfl, rfl⟩), rfl⟩
  ·
   split at h
   ·
    rename_i o off len _ hc
    obtain rfl := Option.some.inj h
    refine ⟨Outs.nil, .inr (.inl ⟨[o], ?_⟩), rfl⟩
    simp only [view1, obj, Rd.run_bind, Rd.run, guardR, hc, if_true]
    rfl
   · cases h
 ·
  split at h
  ·
   obtain rfl := Option.some.inj h
   exact ⟨Outs.nil, .inr (.inr ⟨rfl, rfl⟩), rfl⟩
  · cases h
 ·
  obtain rfl := Option.some.inj h
  exact ⟨Outs.nil, .inr (.inr ⟨rfl, rfl⟩), rfl⟩
 ·
  obtain rfl := Option.some.inj h
  exact ⟨Outs.nil, .inr (.inr ⟨rfl, rfl⟩), rfl⟩
 ·
  obtain rfl := Option.some.inj h
  exact ⟨Outs.nil, .inr (.inr ⟨rfl, rfl⟩), rfl⟩
 · cases h
theorem outCells_ok {own : Bool} {m : Nat} : ∀ {ks : List (Option Nat)} {ts : List T} {nx : Nat} {p : List T × Nat × List (Nat × Ob)}, outCells own m look ks ts nx = some p →
 Outs look nx p.2.1 p.2.2 ∧ p.1.length = ts.length ∧ ∀ (i : Nat) t', p.1[i]? = some t' → ∃ t, ts[i]? = some t ∧ Out look p.2.2 t t'
 | [], [], nx, p, h => by
  simp only [outCells, Option.some.injEq] at h
  subst h
  exact ⟨Outs.nil, rfl, fun i t ht => by simp at ht⟩
 | [], t :: ts, nx, p, h => by simp [outCells] at h
 | k :: ks, [], nx, p, h => by simp [outCells] at h
 | k :: ks, t :: ts, nx, p, h => by
  simp only [outCells] at h
  split at h
  · cases h
  ·
   rename_i p1 h1
   split at h
   · cases h
   ·
    rename_i p2 h2
    obtain rfl := Option.some.inj h
    obtain ⟨a1, a2, _⟩ := outCell_ok h1
    obtain ⟨b1, b2, b3⟩ := outCells_ok h2
    refine ⟨a1.append b1, by simp [b2], fun i t' ht => ?_⟩
    cases i with
    | zero =>
     simp only [List.getElem?_cons_zero, Option.some.injEq] at ht
     subst ht
     exact ⟨t, rfl, a2.mono fun q hq => List.mem_append_left _ hq⟩
    | succ i =>
     obtain ⟨t0, c1, c2⟩ := b3 i t' (by simpa using ht)
     exact ⟨t0, by simpa using c1, c2.mono fun q hq => List.mem_append_right _ hq⟩
def OutV (look : Nat → Ob) (add : List (Nat × Ob)) (t t' : T) : Prop :=
 (∃ cs cs', t = .agg cs ∧ t' = .agg cs' ∧ cs'.length = cs.length ∧ ∀ (i : Nat) c', cs'[i]? = some c' → ∃ c, cs[i]? = some c ∧ Out look add c c') ∨ (Out look add t t' ∧ cellT t = true)
theorem outOne_ok {own : Bool} {m : Nat} {ty : TypeId} {t : T} {nx : Nat} {p : T × Nat × List (Nat × Ob)} (h : outOne P own m look ty t nx = some p) : Outs look nx p.2.1 p.2.2 ∧ OutV look p.2.2 t p.1 := by
 unfold outOne at h
 split at h
 · cases h
 ·
  split at h
  ·
   simp only [Option.map_eq_some_iff] at h
   obtain ⟨q, hq, rfl⟩ := h
   obtain ⟨a1, a2, a3⟩ := outCells_ok hq
   exact ⟨a1, .inl ⟨_, _, rfl, rfl, a2, a3⟩⟩
  ·
   split at h
   ·
    obtain ⟨a1, a2, a3⟩ := outCell_ok h
    exact ⟨a1, .inr ⟨a2, a3⟩⟩
   · cases h
theorem OutV.mono {add add' : List (Nat × Ob)} (ha : ∀ p ∈ add, p ∈ add') {t t' : T} (h : OutV look add t t') : OutV look add' t t' := by
 rcases h with ⟨cs, cs', h1, h2, h3, h4⟩ | ⟨h, h'⟩
 · exact .inl ⟨cs, cs', h1, h2, h3, fun i c' hc => let ⟨c, b1, b2⟩ := h4 i c' hc; ⟨c, b1, b2.mono ha⟩⟩
 · exact .inr ⟨h.mono ha, h'⟩
theorem outMany_ok {own : Bool} {m : Nat} : ∀ {tys : List TypeId} {ts : List T} {nx : Nat} {p : List T × Nat × List (Nat × Ob)}, outMany P own m look tys ts nx = some p →
 Outs look nx p.2.1 p.2.2 ∧ p.1.length = ts.length ∧ ∀ (i : Nat) t', p.1[i]? = some t' → ∃ t, ts[i]? = some t ∧ OutV look p.2.2 t t'
 | [], [], nx, p, h => by
  simp only [outMany, Option.some.injEq] at h
  subst h
  exact ⟨Outs.nil, rfl, fun i t ht => by simp at ht⟩
 | [], t :: ts, nx, p, h => by simp [outMany] at h
 | k :: ks, [], nx, p, h => by simp [outMany] at h
 | k :: ks, t :: ts, nx, p, h => by
  simp only [outMany] at h
  split at h
  · cases h
  ·
   rename_i p1 h1
   split at h
   · cases h
   ·
    rename_i p2 h2
    obtain rfl := Option.some.inj h
    obtain ⟨a1, a2⟩ := outOne_ok h1
    obtain ⟨b1, b2, b3⟩ := outMany_ok h2
    refine ⟨a1.append b1, by simp [b2], fun i t' ht => ?_⟩
    cases i with
    | zero =>
     simp only [List.getElem?_cons_zero, Option.some.injEq] at ht
     subst ht
     exact ⟨t, rfl, a2.mono fun q hq => List.mem_append_left _ hq⟩
    | succ i =>
     obtain ⟨t0, c1, c2⟩ := b3 i t' (by simpa using ht)
     exact ⟨t0, by simpa using c1, c2.mono fun q hq => List.mem_append_right _ hq⟩
theorem Out.fr (R : Rel cx g tmps look a w) {add : List (Nat × Ob)} {g₂ : Nat → Option Nat} (E : Ext w g look (NN cx w g look) w g₂ (updL look add) (NN cx w g₂ (updL look add))) (hadd : ∀ p ∈ add, updL look add p.1 = p.2) {v : Value} {t t' : T} (hv : FrC w g look (NN cx w g look) v t) (h : Out look add t t') :
 FrC w g₂ (updL look add) (NN cx w g₂ (updL look add)) v t' := by
 rcases h with ⟨rfl, n, k, hn, rfl⟩ | ⟨l, h⟩ | ⟨rfl, _⟩
 ·
  obtain ⟨ad, rfl⟩ := hv
  have := hadd _ hn
  simp only at this
  refine ⟨by rw [this], ⟨_, _, rfl, Nat.le_refl _, .inl rfl⟩, fun _ => ⟨_, _, rfl, Nat.le_refl _, .inl rfl⟩⟩
 · exact FrC.mono E (view1_ok R hv h).1
 · exact FrC.mono E hv
theorem OutV.fr (R : Rel cx g tmps look a w) {add : List (Nat × Ob)} {g₂ : Nat → Option Nat} (E : Ext w g look (NN cx w g look) w g₂ (updL look add) (NN cx w g₂ (updL look add))) (hadd : ∀ p ∈ add, updL look add p.1 = p.2) {v : Value} {t t' : T} (hv : FrA w g look (NN cx w g look) v t) (h : OutV look add t t') :
 FrA w g₂ (updL look add) (NN cx w g₂ (updL look add)) v t' := by
 rcases h with ⟨cs, cs', rfl, rfl, h1, h2⟩ | ⟨h, hc⟩
 ·
  obtain ⟨vs, rfl, h3, h4⟩ := hv
  refine ⟨vs, rfl, by omega, fun i c' hc => ?_⟩
  obtain ⟨c, h5, h6⟩ := h2 i c' hc
  obtain ⟨u, h7, h8⟩ := h4 i c h5
  exact ⟨u, h7, h6.fr R E hadd h8⟩
 ·
  have hf : FrC w g look (NN cx w g look) v t := by rw [frA_eq (by rintro cs rfl; cases hc)] at hv; exact hv
  have := h.fr R E hadd hf
  rw [frA_eq (by rintro cs rfl; exact this)]
  exact this
end
end Go.Proofs.YtmjmoagmolgacaaGreatDoor.PM
namespace Go.Proofs.YtmjmoagmolgacaaGreatDoor.PM
open Go
section
variable {P : Program} {cx : Cx} {w w' : World} {g g' : Nat → Option Nat} {look : Nat → Ob} {tmps : List T} {a : Act}
theorem names_ok (R : Rel cx g tmps look a w) {K : List Nat} (hnd : K.Nodup) {sg : List (Nat × Nat) → Option (List (Nat × Nat))} (hsg : srcN K look (fun _ => 0) = sg) {look' : Nat → Ob} {g' : Nat → Option Nat}
 (hat : ∀ (j o : Nat), K[j]? = some o → look' j = { mapOb (posIn K) sg (look o) with ver := 0 } ∧ g' j = g o) (hout : ∀ j, K[j]? = none → look' j = .gone) :
 Ren w g look (NN cx w g look) w g' look' (NN cx w g' look') (posIn K) sg ∧ (∀ j, RootV w g' look' (NN cx w g' look') j) ∧ (∀ o o' b, Own look' o → Own look' o' → g' o = some b → g' o' = some b → o = o') ∧
 ∀ o b, (look' o).alive = true → g' o = some b → b < w.heap.size ∧ if (look' o).may then cx.w0.heap.size ≤ b ∨ cx.Lb b else NN cx w g' look' b := by
 have hmo : ∀ o, (mapOb (posIn K) sg (look o)).alive = (look o).alive ∧ (mapOb (posIn K) sg (look o)).born = (look o).born ∧ (mapOb (posIn K) sg (look o)).may = (look o).may ∧ (mapOb (posIn K) sg (look o)).k = (look o).k ∧ (mapOb (posIn K) sg (look o)).ver = (look o).ver := fun o => by
  unfold mapOb; split <;> exact ⟨rfl, rfl, rfl, rfl, rfl⟩
 have halive : ∀ j, (look' j).alive = true → ∃ o, K[j]? = some o ∧ (look o).alive = true := fun j hj => by
  cases hk : K[j]? with
  | none => rw [hout j hk] at hj; cases hj
  | some o => rw [(hat j o hk).1] at hj; exact ⟨o, rfl, (hmo o).1.symm.trans hj⟩
 have hown : ∀ j, Own look' j → ∃ o, K[j]? = some o ∧ Own look o ∧ g' j = g o := fun j hj => by
  obtain ⟨o, h1, h2⟩ := halive j hj.1
  refine ⟨o, h1, ⟨h2, ?_⟩, (hat j o h1).2⟩
  have := hj.2
  rw [(hat j o h1).1] at this
  exact (hmo o).2.2.1.symm.trans this
 have hNN : ∀ b, NN cx w g look b → NN cx w g' look' b := fun b ⟨h1, h2, h3⟩ => ⟨h1, h2, fun j hj hg => by
  obtain ⟨o, _, h5, h6⟩ := hown j hj
  exact h3 o h5 (h6.symm.trans hg)⟩
 have E : Ren w g look (NN cx w g look) w g' look' (NN cx w g' look') (posIn K) sg := by
  refine ⟨fun o j hj hb => ?_, fun l l' hl hok => ?_⟩
  ·
   obtain ⟨h1, h2⟩ := hat j o (posIn_some hj)
   rw [h1, h2]
   refine ⟨(hmo o).2.1.trans hb, fun ha => ⟨(hmo o).1.symm.trans ha, (hmo o).2.2.2.1, rfl, fun _ _ => rfl⟩⟩
  ·
   rw [← hsg] at hl
   unfold srcN at hl
   split at hl
   ·
    rename_i hvb
    obtain rfl := Option.some.inj hl
    have hval : valid look l := fun p hp => by
     have := List.all_eq_true.1 hvb p hp
     simpa using this
    refine ⟨fun p hp => ?_, fun _ => ⟨hval, fun b hb => ⟨?_, rfl⟩⟩⟩
    ·
     obtain ⟨q, hq, hqp⟩ := List.mem_filterMap.1 hp
     simp only [Option.map_eq_some_iff] at hqp
     obtain ⟨j, hj, rfl⟩ := hqp
     rw [(hat j q.1 (posIn_some hj)).1]
     exact ⟨(hmo q.1).2.1.trans (hok q hq).1, Nat.zero_le _⟩
    ·
     rcases hb with hb | ⟨p, hp, hgb⟩
     · exact .inl (hNN b hb)
     ·
      cases hpos : posIn K p.1 with
      | some j => exact .inr ⟨(j, 0), List.mem_filterMap.2 ⟨p, hp, by simp [hpos]⟩, (hat j p.1 (posIn_some hpos)).2.trans hgb⟩
      | none =>
       left
       obtain ⟨h1, h2⟩ := R.blk p.1 b (hval p hp).1 hgb
       by_cases hm : (look p.1).may = true
       ·
        rw [if_pos hm] at h2
        refine ⟨h1, .inr h2, fun j hj hgj => ?_⟩
        obtain ⟨o, h5, h6, h7⟩ := hown j hj
        have := R.inj o p.1 b h6 ⟨(hval p hp).1, hm⟩ (h7.symm.trans hgj) hgb
        subst this
        exact posIn_none hpos (List.mem_of_getElem? h5)
       ·
        rw [if_neg hm] at h2
        exact hNN b h2
   · cases hl
 refine ⟨E, fun j => ?_, fun j j' b h1 h2 h3 h4 => ?_, fun j b ha hgb => ?_⟩
 ·
  cases hk : K[j]? with
  | none => intro ha; rw [hout j hk] at ha; cases ha
  | some o =>
   obtain ⟨h1, h2⟩ := hat j o hk
   refine RootV.ren E (R.rt o) { mapOb (posIn K) sg (look o) with ver := 0 } ?_ h1 h2 (fun _ _ => rfl) (fun _ _ _ _ _ _ _ v h => h.mono fun b hb => ⟨hNN b hb, rfl⟩)
   unfold mapOb
   cases (look o).row <;> rfl
 ·
  obtain ⟨o, a1, a2, a3⟩ := hown j h1
  obtain ⟨o', b1, b2, b3⟩ := hown j' h2
  have := R.inj o o' b a2 b2 (a3.symm.trans h3) (b3.symm.trans h4)
  subst this
  exact nodup_at hnd a1 b1
 ·
  obtain ⟨o, h1, h2⟩ := halive j ha
  obtain ⟨h3, h4⟩ := hat j o h1
  obtain ⟨h5, h6⟩ := R.blk o b h2 (h4.symm.trans hgb)
  refine ⟨h5, ?_⟩
  have hmay : (look' j).may = (look o).may := by rw [h3]; exact (hmo o).2.2.1
  rw [hmay]
  split
  · rename_i hm; rw [if_pos hm] at h6; exact h6
  · rename_i hm; rw [if_neg hm] at h6; exact hNN b h6
theorem results_run (R : Rel cx g tmps look a w) {s : St} (hs : s.tmps = tmps) : ∀ {rs : List ResultVar} {ts : List T} {l : List Nat}, (mapR (fun r => match r with
 | .tmp t => Rd.ret ((s.tmps[t]?).getD .dead)
 | .cell a t => loadR P t ((s.tmps[a]?).getD .dead)) rs).run look = some (ts, l) →
 ∃ vs : List Value, (rs.mapM fun
  | .tmp t => pure (a.tmps.getD t undef)
  | .cell c t => do loadVar t (← asAddr (a.tmps.getD c undef)) : Sem (List Value)).run P w = .ok vs w ∧ vs.length = ts.length ∧ ∀ (i : Nat) t, ts[i]? = some t → ∃ v, vs[i]? = some v ∧ FrV w g look (NN cx w g look) v t
 | [], ts, l, h => by
  simp only [mapR, ret_some] at h
  obtain ⟨rfl, _⟩ := h
  exact ⟨[], rfl, rfl, fun i t ht => by simp at ht⟩
 | r :: rs, ts, l, h => by
  simp only [mapR, bind_some, pure_some] at h
  obtain ⟨t, _, _, h1, ⟨ts', _, _, h2, ⟨rfl, _⟩, _⟩, _⟩ := h
  obtain ⟨vs, h3, h4, h5⟩ := results_run R hs h2
  have htmp : ∀ x, FrV w g look (NN cx w g look) (a.tmps.getD x undef) ((s.tmps[x]?).getD .dead) := fun x => by
   have := eval_ok R (.tmp x)
   simp only [evalT, Act.eval] at this
   rw [hs]
   exact this
  have hone : ∃ v, ((match r with
   | .tmp t => pure (a.tmps.getD t undef)
   | .cell c t => do loadVar t (← asAddr (a.tmps.getD c undef)) : Sem Value).run P w) = .ok v w ∧ FrV w g look (NN cx w g look) v t := by
   cases r with
   | tmp x =>
    simp only [ret_some] at h1
    obtain ⟨rfl, _⟩ := h1
    exact ⟨_, rfl, htmp x⟩
   | cell c ty =>
    simp only at h1
    obtain ⟨v, h6, h7⟩ := load_ok (P := P) R (htmp c) h1
    refine ⟨v, ?_, h7⟩
    have hp : ∃ ad, a.tmps.getD c undef = .pointer (some ad) := by
     have := htmp c
     cases hx : (s.tmps[c]?).getD .dead with
     | ptr o i j => rw [hx] at this; obtain ⟨_, ⟨b, off, hh⟩, _⟩ := this; exact ⟨_, hh⟩
     | rp x j src => rw [hx] at this; obtain ⟨⟨b, off, hh⟩, _⟩ := this; exact ⟨_, hh⟩
     | _ => rw [hx] at h1; simp only [loadR, fail_some] at h1
    obtain ⟨ad, hh⟩ := hp
    show ((do loadVar ty (← asAddr (a.tmps.getD c undef)) : Sem Value).run P w) = .ok v w
    rw [hh] at h6 ⊢
    simp only [Instr.loadAt, Instr.sureAddr, Sem.run_bind, Sem.run_pure, Result.andThen_ok] at h6
    simp only [asAddr, Sem.run_bind, Sem.run_pure, Result.andThen_ok]
    exact h6
  obtain ⟨v, h6, h7⟩ := hone
  refine ⟨v :: vs, ?_, by simp [h4], fun i t' ht => ?_⟩
  ·
   rw [List.mapM_cons, Sem.run_bind, h6, Result.andThen_ok, Sem.run_bind, h3, Result.andThen_ok]
   rfl
  ·
   cases i with
   | zero => simp only [List.getElem?_cons_zero, Option.some.injEq] at ht; subst ht; exact ⟨v, rfl, h7⟩
   | succ i => simpa using h5 i t' (by simpa using ht)
theorem results_ok (R : Rel cx g tmps look a w) {s : St} (hs : s.tmps = tmps) {fn : Func} {r : T} {l : List Nat} (h : (resR P fn s).run look = some (r, l)) :
 ∃ v, (results fn a.tmps).run P w = .ok v w ∧ ((FrV w g look (NN cx w g look) v r) ∨ ∃ (vs : Array Value) (ts : List T), v = .tuple vs ∧ r = .tup ts ∧ vs.size = ts.length ∧ ∀ (i : Nat) t, ts[i]? = some t → ∃ u, vs[i]? = some u ∧ FrV w g look (NN cx w g look) u t) := by
 simp only [resR, bind_some] at h
 obtain ⟨ts, _, _, h1, h2, _⟩ := h
 obtain ⟨vs, h3, h4, h5⟩ := results_run R hs h1
 have hrun : (results fn a.tmps).run P w = .ok (if h : vs.toArray.size = 1 then vs.toArray[0] else .tuple vs.toArray) w := by
  unfold results
  rw [Sem.run_bind, Array.mapM_eq_mapM_toList, Sem.run_map]
  exact (congrArg (fun r : Result (List Value) => Result.andThen (Result.andThen r fun a w' => Result.ok a.toArray w') fun a w' => Sem.run P (pure (if h : a.size = 1 then a[0] else Value.tuple a)) w') h3).trans rfl
 refine ⟨_, hrun, ?_⟩
 split at h2
 ·
  rename_i t
  simp only [pure_some] at h2
  obtain ⟨rfl, _⟩ := h2
  obtain ⟨v, h6, h7⟩ := h5 0 r rfl
  left
  have h1 : vs.toArray.size = 1 := by simpa using h4
  rw [dif_pos h1]
  have : vs.toArray[0] = v := by
   have : vs = [v] := by
    match vs, h4, h6 with
    | [x], _, h6 => simp at h6; rw [h6]
   subst this
   rfl
  rw [this]
  exact h7
 ·
  rename_i hne
  simp only [pure_some] at h2
  obtain ⟨rfl, _⟩ := h2
  right
  have h1 : ¬ vs.toArray.size = 1 := fun hh => by
   have : ts.length = 1 := by rw [← h4]; simpa using hh
   match ts, this with
   | [t], _ => exact hne t rfl
  rw [dif_neg h1]
  refine ⟨_, _, rfl, rfl, by simpa using h4, fun i t ht => ?_⟩
  obtain ⟨v, h6, h7⟩ := h5 i t ht
  exact ⟨v, by simpa using h6, h7⟩
end
end Go.Proofs.YtmjmoagmolgacaaGreatDoor.PM
namespace Go.Proofs.YtmjmoagmolgacaaGreatDoor.PM
open Go
section
variable {P : Program} {cx : Cx} {w w' : World} {g g' : Nat → Option Nat} {look : Nat → Ob} {tmps : List T} {a : Act}
theorem OutV.notup {add : List (Nat × Ob)} {t t' : T} (h : OutV look add t t') : (∀ ts, t ≠ .tup ts) ∧ ∀ ts, t' ≠ .tup ts := by
 rcases h with ⟨cs, cs', rfl, rfl, _⟩ | ⟨h, hc⟩
 · exact ⟨fun _ h => (by cases h), fun _ h => (by cases h)⟩
 ·
  refine ⟨fun ts e => by subst e; (cases hc), fun ts e => ?_⟩
  subst e
  rcases h with ⟨_, n, k, _, h⟩ | ⟨l, h⟩ | ⟨h, _⟩
  · cases h
  ·
   cases t <;> simp only [view1, bind_some, ret_some, pure_some, fail_some] at h
   · cases h.1
   · cases h.1
   · obtain ⟨_, _, _, _, ⟨h, _⟩, _⟩ := h; cases h
   · obtain ⟨_, _, _, _, ⟨_, _, _, _, ⟨h, _⟩, _⟩, _⟩ := h; cases h
  · subst h; cases hc
theorem give_ok {s : St} {w0 : World} {g0 : Nat → Option Nat} {N : Nat → Prop} {objs objs' : List Ob} (hcx : cx = cxOf w0 g0 N objs) (R : RelS cx g s a w) (hm : s.m = objs.length) {fn : Func} {own : Bool} {r : T} (h : giveR P fn own objs.length s = some (r, objs')) :
 ∃ v, (results fn a.tmps).run P w = .ok v w ∧ ∃ g', Exi w0 g0 N objs w g' objs' v r := by
 subst hcx
 obtain ⟨R, hws, _⟩ := R
 unfold giveR at h
 split at h
 · cases h
 ·
  rename_i p hres
  split at h
  · cases h
  ·
   rename_i q hq
   simp only [Option.some.injEq, Prod.mk.injEq] at h
   obtain ⟨h1, h2⟩ := h
   obtain ⟨v, hv1, hv2⟩ := results_ok (P := P) R rfl (l := p.2) hres
   refine ⟨v, hv1, ?_⟩
   have hout : Outs (lookIn s.store) s.nx q.2.1 q.2.2 ∧ ((OutV (lookIn s.store) q.2.2 p.1 q.1) ∨ ∃ rs rs', p.1 = .tup rs ∧ q.1 = .tup rs' ∧ rs'.length = rs.length ∧ ∀ (i : Nat) t', rs'[i]? = some t' → ∃ t, rs[i]? = some t ∧ OutV (lookIn s.store) q.2.2 t t') := by
    unfold outAll at hq
    split at hq
    ·
     obtain ⟨b1, b2⟩ := outOne_ok hq
     exact ⟨b1, .inl b2⟩
    ·
     split at hq
     ·
      rename_i rs hp
      simp only [Option.map_eq_some_iff] at hq
      obtain ⟨q', hq', rfl⟩ := hq
      obtain ⟨b1, b2, b3⟩ := outMany_ok hq'
      exact ⟨b1, .inr ⟨rs, q'.1, hp, rfl, b2, b3⟩⟩
     · cases hq
   obtain ⟨hO, hO2⟩ := hout
   obtain ⟨g₂, R₂, E, hadd, hg2⟩ := phantoms q.2.2 g (lookIn s.store) R (fun x hx => ⟨hws x.1 (hO.add x hx).1, (hO.add x hx).2.2⟩) hO.nd
   have hval : FrV w g₂ (updL (lookIn s.store) q.2.2) (NN (cxOf w0 g0 N objs) w g₂ (updL (lookIn s.store) q.2.2)) v q.1 := by
    have haddv : ∀ x ∈ q.2.2, updL (lookIn s.store) q.2.2 x.1 = x.2 := fun x hx => (hadd x hx).2
    rcases hO2 with hO2 | ⟨rs, rs', e1, e2, e3, e4⟩
    ·
     obtain ⟨n1, n2⟩ := hO2.notup
     rcases hv2 with hv2 | ⟨vs, ts, _, h4, _⟩
     ·
      rw [frV_eq n1] at hv2
      rw [frV_eq n2]
      exact hO2.fr R E haddv hv2
     · exact absurd h4 (n1 ts)
    ·
     have hcomp : ∃ vs : Array Value, v = .tuple vs ∧ vs.size = rs.length ∧ ∀ (i : Nat) t, rs[i]? = some t → (∀ ts, t ≠ .tup ts) → ∃ u, vs[i]? = some u ∧ FrA w g (lookIn s.store) (NN (cxOf w0 g0 N objs) w g (lookIn s.store)) u t := by
      rcases hv2 with hv2 | ⟨vs, ts, h3, h4, h5, h6⟩
      ·
       rw [e1] at hv2
       obtain ⟨vs, h3, h4, h5⟩ := hv2
       exact ⟨vs, h3, h4, fun i t ht _ => h5 i t ht⟩
      ·
       rw [e1] at h4
       obtain rfl := T.tup.inj h4
       refine ⟨vs, h3, h5, fun i t ht hn => ?_⟩
       obtain ⟨u, h7, h8⟩ := h6 i t ht
       rw [frV_eq hn] at h8
       exact ⟨u, h7, h8⟩
     obtain ⟨vs, h3, h4, h5⟩ := hcomp
     rw [e2]
     refine ⟨vs, h3, by omega, fun i t' ht' => ?_⟩
     obtain ⟨t, h6, h7⟩ := e4 i t' ht'
     obtain ⟨u, h8, h9⟩ := h5 i t h6 h7.notup.1
     exact ⟨u, h8, h7.fr R E haddv h9⟩
   have hlk : lookIn (putAll s.store q.2.2) = updL (lookIn s.store) q.2.2 := lookIn_putAll _ _
   rw [hlk] at h1 h2
   generalize updL (lookIn s.store) q.2.2 = look₂ at *
   generalize hK : List.range objs.length ++ (reachN look₂ 64 (List.range objs.length ++ refs q.1) []).filter (fun o => !decide (o < objs.length)) = K at h1 h2
   have hnd : K.Nodup := by
    rw [← hK, List.nodup_append]
    refine ⟨List.nodup_range, (reachN_nodup _ _ _ _ (by simp)).filter _, fun a ha b hb => ?_⟩
    have h1 : a < objs.length := by simpa using ha
    have h2 := (List.mem_filter.1 hb).2
    intro e
    subst e
    simp [h1] at h2
   have hKm : ∀ j, j < objs.length → K[j]? = some j := fun j hj => by
    rw [← hK, List.getElem?_append_left (by simpa using hj)]
    simp [hj]
   generalize hsg : srcN K look₂ (fun _ => 0) = sg at h1 h2
   have hat : ∀ (j o : Nat), K[j]? = some o → lookOf objs' j = { mapOb (posIn K) sg (look₂ o) with ver := 0 } ∧ (fun j => (K[j]?).bind g₂) j = g₂ o := fun j o hj => by
    rw [← h2]
    simp [lookOf, hj]
   have hgone : ∀ j, K[j]? = none → lookOf objs' j = .gone := fun j hj => by
    rw [← h2]
    simp [lookOf, hj]
   obtain ⟨hRen, hrt, hinj, hblk⟩ := names_ok R₂ hnd hsg (look' := lookOf objs') (g' := fun j => (K[j]?).bind g₂) hat hgone
   refine ⟨fun j => (K[j]?).bind g₂, ?_, hrt, hinj, hblk, R₂.keep, R₂.hsz, R₂.os, R₂.tape, R₂.output, fun j hj => ?_⟩
   ·
    rw [← h1]
    exact hval.ren hRen
   ·
    obtain ⟨b1, b2⟩ := hat j j (hKm j hj)
    obtain ⟨c1, c2⟩ := R₂.lent j hj
    obtain ⟨n1, n2, n3, n4, n5⟩ := mapOb_same (f := posIn K) (sg := sg) (look₂ j)
    rw [b1]
    refine ⟨n1.trans c1, fun ha => ?_⟩
    obtain ⟨d1, d2, d3, d4⟩ := c2 (n2.symm.trans ha)
    exact ⟨d1, n5.trans d2, b2.trans d3, d4⟩
theorem start_ok {w : World} {g : Nat → Option Nat} {N : Nat → Prop} {objs : List Ob} {args : List T} {vs : Array Value} (H : Ent w g N objs args vs) (n : Nat) :
 RelS (cxOf w g N objs) g ⟨args ++ List.replicate (n - args.length) undT, objs.zipIdx.map fun p => (p.2, p.1), objs.length, objs.length⟩ { tmps := vs ++ Array.replicate (n - vs.size) undef, defers := [] } w := by
 have hlk : lookIn (objs.zipIdx.map fun p => (p.2, p.1)) = lookOf objs := by
  funext j
  have := lookIn_zip0 (fun x : Ob => x) objs j
  simpa [lookOf] using this
 have hNN : ∀ b, N b → NN (cxOf w g N objs) w g (lookOf objs) b := fun b hb => ⟨H.n b hb, .inl hb, fun o ho hg => by
  have := (H.blk o b ho.1 hg).2
  rw [if_pos ho.2] at this
  exact this hb⟩
 have E : Ext w g (lookOf objs) N w g (lookOf objs) (NN (cxOf w g N objs) w g (lookOf objs)) :=
  ⟨fun b hb => ⟨hNN b hb, rfl⟩, fun o hb => ⟨hb, Nat.le_refl _, fun ha => ⟨ha, rfl, rfl, fun _ _ => ⟨rfl, fun _ => rfl⟩⟩⟩⟩
 refine ⟨?_, fun q hq => ?_, rfl⟩
 ·
  show Rel (cxOf w g N objs) g (args ++ List.replicate (n - args.length) undT) (lookIn (objs.zipIdx.map fun p => (p.2, p.1))) _ w
  rw [hlk]
  refine ⟨by simp [H.size], rfl, fun t x hx => ?_, fun o => RootV.mono E (H.rt o) rfl rfl (fun _ _ => rfl), H.inj, fun o b ha hg => ?_, fun _ _ _ => rfl, Nat.le_refl _, rfl, rfl, rfl, H.n, fun b hb => ?_, fun j hj => ⟨H.born j hj, fun ha => ⟨ha, rfl, rfl, fun _ _ => rfl⟩⟩⟩
  ·
   by_cases ht : t < args.length
   ·
    rw [List.getElem?_append_left ht] at hx
    obtain ⟨v, h1, h2⟩ := H.args t x hx
    have : (vs ++ Array.replicate (n - vs.size) undef).getD t undef = v := by
     simp only [Array.getD_eq_getD_getElem?]
     rw [Array.getElem?_append_left (by rw [H.size]; exact ht), h1]
     rfl
    simp only
    rw [this]
    exact h2.mono E
   ·
    rw [List.getElem?_append_right (by omega)] at hx
    simp only [List.getElem?_replicate] at hx
    split at hx
    ·
     obtain rfl := Option.some.inj hx
     rename_i hlt
     have : (vs ++ Array.replicate (n - vs.size) undef).getD t undef = undef := by
      simp only [Array.getD_eq_getD_getElem?]
      rw [Array.getElem?_append_right (by rw [H.size]; omega)]
      simp only [Array.getElem?_replicate]
      split <;> rfl
     simp only
     rw [this]
     exact ⟨#[], rfl, rfl, fun i c hc => by simp at hc⟩
    · cases hx
  ·
   obtain ⟨h1, h2⟩ := H.blk o b ha hg
   refine ⟨h1, ?_⟩
   split
   ·
    rename_i hm
    exact .inr ⟨o, ⟨ha, hm⟩, hg⟩
   ·
    rename_i hm
    rw [if_neg hm] at h2
    exact hNN b h2
  ·
   obtain ⟨o, ho, hg⟩ := hb
   exact (H.blk o b ho.1 hg).1
 ·
  show (lookIn (objs.zipIdx.map fun p => (p.2, p.1)) q).born = false
  rw [hlk]
  have : objs[q]? = none := List.getElem?_eq_none hq
  simp [lookOf, this, Ob.gone]
end
def PrimOk (P : Program) (prim : FuncId → Option (List T → List Ob → Option (T × List Ob))) : Prop :=
 ∀ f D, prim f = some D → ∀ args objs r objs', D args objs = some (r, objs') → FnOk P f ∧ CallOk P f args objs r objs'
theorem callF_ok {P : Program} {C : Cert} {prim : FuncId → Option (List T → List Ob → Option (T × List Ob))} (hm : P.follows .mixedOrders = true) (hn : P.funcs.all (fun fn => fn.name != "runtime.NumGoroutine") = true) (hp : PrimOk P prim) :
 ∀ n, CallsOk P ⟨callF P C prim n, fun f => (C f).lent⟩ := by
 intro n
 induction n with
 | zero => intro f args objs r objs' h; simp only [callF] at h; cases h
 | succ n ih =>
  intro f args objs r objs' h
  simp only [callF] at h
  split at h
  ·
   rename_i d hd
   exact hp f d hd args objs r objs' h
  ·
   split at h
   · cases h
   ·
    rename_i fn hf
    split at h
    · cases h
    ·
     rename_i c hc
     split at h
     case isFalse => cases h
     rename_i hoc
     have hname : (fn.name == "runtime.NumGoroutine") = false := by
      have := Array.all_eq_true_iff_forall_mem.1 hn fn (Array.mem_of_getElem? hf)
      simpa using this
     refine ⟨⟨fn, hf, hname, by simp [hc]⟩, fun w g N vs H G => ?_⟩
     refine calls_of_wp hf hc ?_
     have S := start_ok H fn.ntmps
     have hdoes := exec_does (P := P) (E := ⟨callF P C prim n, fun f => (C f).lent⟩) (cx := cxOf w g N objs) (cert := C f) (n := n) (env_ok ih ⟨G, fun b hb => fun ⟨o, ho, hg⟩ => by
      have := (H.blk o b ho.1 hg).2
      rw [if_pos ho.2] at this
      exact this hb⟩) hm c hoc
     have fin : ∀ (ex : Ex) (s : St), (ex = .normal ∨ ex = .ret) → exec P ⟨callF P C prim n, fun f => (C f).lent⟩ (C f) n c ⟨args ++ List.replicate (fn.ntmps - args.length) undT, objs.zipIdx.map fun p => (p.2, p.1), objs.length, objs.length⟩ = some (ex, s) → giveR P fn (C f).own objs.length s = some (r, objs') →
      c.wp P (bodyPost P fn fun e w' => ∃ v g', e = .returned v ∧ Exi w g N objs w' g' objs' v r) { tmps := vs ++ Array.replicate (fn.ntmps - vs.size) undef, defers := [] } w := by
      intro ex s hex h1 h2
      refine hdoes _ s ex g _ w S h1 _ (fun g' a' w' R' => ?_)
      have hR' := R'
      obtain ⟨v, h3, g'', h4⟩ := give_ok rfl R' R'.2.2.symm h2
      have : bodyPost P fn (fun e w' => ∃ v g', e = .returned v ∧ Exi w g N objs w' g' objs' v r) .ret a' w' := ⟨hR'.1.dfr, v, h3, v, g'', rfl, h4⟩
      rcases hex with rfl | rfl
      · exact this
      · exact this
     split at h
     ·
      rename_i s hs
      exact fin .normal s (.inl rfl) hs h
     ·
      rename_i s hs
      exact fin .ret s (.inr rfl) hs h
     · cases h
end Go.Proofs.YtmjmoagmolgacaaGreatDoor.PM
namespace Go.Proofs.YtmjmoagmolgacaaGreatDoor.PM
open Go
def Env.le (E E' : Env) : Prop := E.lent = E'.lent ∧ ∀ f args objs r, E.call f args objs = some r → E'.call f args objs = some r
section
variable {P : Program} {E E' : Env} {α β : Type} {look : Nat → Ob}
theorem callR_mono (h : E.le E') {f : FuncId} {args : List T} {base : Nat} {e : Eff} {l : List Nat} (hr : (callR E f args base).run look = some (e, l)) : (callR E' f args base).run look = some (e, l) := by
 obtain ⟨h1, h2⟩ := h
 simp only [callR, bind_some, opt_some] at hr ⊢
 rw [← h1]
 obtain ⟨aas, a1, a2, a3, ⟨lv, b1, b2, b3, ⟨u, c1, c2, c3, ⟨ro, d1, d2, ⟨d3, d4⟩, d5, d6⟩, c4⟩, b4⟩, a4⟩ := hr
 exact ⟨aas, a1, a2, a3, ⟨lv, b1, b2, b3, ⟨u, c1, c2, c3, ⟨ro, d1, d2, ⟨h2 _ _ _ _ d3, d4⟩, d5, d6⟩, c4⟩, b4⟩, a4⟩
theorem opR_mono (h : E.le E') {tmps : List T} {base : Nat} {o : Oper} {e : Eff} {l : List Nat} (hr : (opR P E tmps base o).run look = some (e, l)) : (opR P E' tmps base o).run look = some (e, l) := by
 obtain ⟨dst, op, type, pos, after, gd⟩ := o
 cases op with
 | call c =>
  obtain ⟨callee, args, ats⟩ := c
  cases callee with
  | value f =>
   simp only [opR] at hr ⊢
   split at hr
   ·
    rename_i g caps hf
    exact callR_mono h hr
   · simp only [fail_some] at hr
  | builtin b => cases b <;> exact hr
  | invoke r m => exact hr
 | makeFunc fn first caps => cases fn <;> exact hr
 | _ => exact hr
theorem stepR_mono (h : E.le E') {ops : Array Oper} {nx i : Nat} {o : Oper} {s : St} {r : St × Log} (hr : stepR P E ops nx i o s = some r) : stepR P E' ops nx i o s = some r := by
 unfold stepR at hr ⊢
 split at hr
 · cases hr
 · exact hr
 ·
  split at hr
  · cases hr
  ·
   rename_i e l he
   rw [opR_mono h he]
   exact hr
theorem runOps_mono (h : E.le E') {ops : Array Oper} {nx : Nat} : ∀ {l : List Oper} {i : Nat} {s : St} {r : St × List Log}, runOps P E ops nx i l s = some r → runOps P E' ops nx i l s = some r
 | [], i, s, r, hr => hr
 | o :: l, i, s, r, hr => by
  simp only [runOps] at hr ⊢
  split at hr
  · cases hr
  ·
   rename_i s1 l1 h1
   rw [stepR_mono h h1]
   simp only
   split at hr
   · cases hr
   ·
    rename_i s2 l2 h2
    rw [runOps_mono h h2]
    exact hr
theorem regionR_mono (h : E.le E') {ps : List (List Nat)} {ops : Array Oper} {draw : Bool} {s s' : St} (hr : regionR P E ps ops draw s = some s') : regionR P E' ps ops draw s = some s' := by
 unfold regionR at hr ⊢
 split at hr
 · cases hr
 ·
  rename_i s1 l1 h1
  rw [runOps_mono h h1]
  exact hr
theorem iter_mono {b b' : St → Option (Ex × St)} (hb : ∀ s r, b s = some r → b' s = some r) : ∀ {n n' : Nat} {s : St} {r : Ex × St}, n ≤ n' → iter b n s = some r → iter b' n' s = some r
 | 0, _, s, r, _, h => by simp only [iter] at h; cases h
 | n + 1, 0, s, r, hn, h => by omega
 | n + 1, n' + 1, s, r, hn, h => by
  simp only [iter] at h ⊢
  cases hbs : b s with
  | none => rw [hbs] at h; cases h
  | some p =>
   rw [hb s p hbs]
   rw [hbs] at h
   obtain ⟨ex, s1⟩ := p
   cases ex with
   | normal => exact iter_mono hb (by omega) h
   | exit id => exact h
   | ret => exact h
theorem exec_mono (h : E.le E') {cert : FCert} {n n' : Nat} (hn : n ≤ n') : ∀ {c : Code} {s : St} {r : Ex × St}, exec P E cert n c s = some r → exec P E' cert n' c s = some r := by
 intro c
 induction c with
 | skip => intro s r hr; exact hr
 | region id ops draw =>
  intro s r hr
  simp only [exec, Option.map_eq_some_iff] at hr ⊢
  obtain ⟨s', h1, h2⟩ := hr
  exact ⟨s', regionR_mono h h1, h2⟩
 | seq x y ihx ihy =>
  intro s r hr
  simp only [exec] at hr ⊢
  cases hx : exec P E cert n x s with
  | none => rw [hx] at hr; cases hr
  | some p =>
   rw [ihx hx]
   rw [hx] at hr
   obtain ⟨ex, s1⟩ := p
   cases ex with
   | normal => exact ihy hr
   | exit id => exact hr
   | ret => exact hr
 | cond c x y ihx ihy =>
  intro s r hr
  simp only [exec] at hr ⊢
  split at hr
  ·
   rename_i t ht
   cases t with
   | true => simp only [if_true] at hr ⊢; exact ihx hr
   | false => simp only [Bool.false_eq_true, if_false] at hr ⊢; exact ihy hr
  · cases hr
 | block id b ih =>
  intro s r hr
  simp only [exec] at hr ⊢
  cases hb : exec P E cert n b s with
  | none => rw [hb] at hr; cases hr
  | some p =>
   rw [ih hb]
   rw [hb] at hr
   exact hr
 | loop b ih =>
  intro s r hr
  simp only [exec] at hr ⊢
  exact iter_mono (fun s r => ih) hn hr
 | exit id => intro s r hr; exact hr
 | ret => intro s r hr; exact hr
 | _ => intro s r hr; simp only [exec] at hr; cases hr
end
section
variable {P : Program} {C : Cert} {prim : FuncId → Option (List T → List Ob → Option (T × List Ob))}
theorem callF_mono : ∀ {n n' : Nat}, n ≤ n' → (⟨callF P C prim n, fun f => (C f).lent⟩ : Env).le ⟨callF P C prim n', fun f => (C f).lent⟩
 | 0, _, _ => ⟨rfl, fun f args objs r h => by simp only [callF] at h; cases h⟩
 | n + 1, 0, h => by omega
 | n + 1, n' + 1, hn => by
  have ih := callF_mono (n := n) (n' := n') (by omega)
  refine ⟨rfl, fun f args objs r h => ?_⟩
  simp only [callF] at h ⊢
  split at h
  · exact h
  ·
   split at h
   · cases h
   ·
    split at h
    · cases h
    ·
     rename_i c hc
     split at h
     case isFalse => cases h
     rename_i hoc
     rw [if_pos hoc]
     split at h
     · rename_i s hs; rw [exec_mono ih (by omega) hs]; exact h
     · rename_i s hs; rw [exec_mono ih (by omega) hs]; exact h
     · cases h
open Classical in
noncomputable def callT (P : Program) (C : Cert) (prim : FuncId → Option (List T → List Ob → Option (T × List Ob))) (f : FuncId) (args : List T) (objs : List Ob) : Option (T × List Ob) :=
 if h : ∃ r n, callF P C prim n f args objs = some r then some (Classical.choose h) else none
theorem callT_some {f : FuncId} {args : List T} {objs : List Ob} {r : T × List Ob} : callT P C prim f args objs = some r ↔ ∃ n, callF P C prim n f args objs = some r := by
 unfold callT
 constructor
 ·
  intro h
  split at h
  ·
   rename_i hx
   obtain ⟨n, hn⟩ := Classical.choose_spec hx
   exact ⟨n, by rw [hn]; exact h⟩
  · cases h
 ·
  rintro ⟨n, hn⟩
  have hx : ∃ r n, callF P C prim n f args objs = some r := ⟨r, n, hn⟩
  rw [dif_pos hx]
  obtain ⟨n', hn'⟩ := Classical.choose_spec hx
  rcases Nat.le_total n n' with h | h
  ·
   have := (callF_mono (P := P) (C := C) (prim := prim) h).2 _ _ _ _ hn
   simp only at this
   rw [hn'] at this
   exact this
  ·
   have := (callF_mono (P := P) (C := C) (prim := prim) h).2 _ _ _ _ hn'
   simp only at this
   rw [hn] at this
   rw [this]
noncomputable abbrev envT (P : Program) (C : Cert) (prim : FuncId → Option (List T → List Ob → Option (T × List Ob))) : Env := ⟨callT P C prim, fun f => (C f).lent⟩
theorem env_le (n : Nat) : (⟨callF P C prim n, fun f => (C f).lent⟩ : Env).le (envT P C prim) := ⟨rfl, fun _ _ _ r h => callT_some.2 ⟨n, h⟩⟩
theorem up_to {n n' : Nat} (h : n ≤ n') : (⟨callF P C prim n, fun f => (C f).lent⟩ : Env).le ⟨callF P C prim n', fun f => (C f).lent⟩ := callF_mono h
theorem opR_fin {look : Nat → Ob} {tmps : List T} {base : Nat} {o : Oper} {e : Eff} {l : List Nat} (hr : (opR P (envT P C prim) tmps base o).run look = some (e, l)) : ∃ n, (opR P ⟨callF P C prim n, fun f => (C f).lent⟩ tmps base o).run look = some (e, l) := by
 obtain ⟨dst, op, type, pos, after, gd⟩ := o
 cases op with
 | call c =>
  obtain ⟨callee, args, ats⟩ := c
  cases callee with
  | value f =>
   simp only [opR] at hr ⊢
   split at hr
   ·
    rename_i g caps hf
    simp only [callR, bind_some, opt_some] at hr
    obtain ⟨aas, a1, a2, a3, ⟨lv, b1, b2, b3, ⟨u, c1, c2, c3, ⟨ro, d1, d2, ⟨d3, d4⟩, d5, d6⟩, c4⟩, b4⟩, a4⟩ := hr
    obtain ⟨n, hn⟩ := callT_some.1 d3
    refine ⟨n, ?_⟩
    simp only [callR, bind_some, opt_some]
    exact ⟨aas, a1, a2, a3, ⟨lv, b1, b2, b3, ⟨u, c1, c2, c3, ⟨ro, d1, d2, ⟨hn, d4⟩, d5, d6⟩, c4⟩, b4⟩, a4⟩
   · simp only [fail_some] at hr
  | builtin b => exact ⟨0, by cases b <;> exact hr⟩
  | invoke r m => exact ⟨0, hr⟩
 | makeFunc fn first caps => exact ⟨0, by cases fn <;> exact hr⟩
 | _ => exact ⟨0, hr⟩
theorem runOps_fin {ops : Array Oper} {nx : Nat} : ∀ {l : List Oper} {i : Nat} {s : St} {r : St × List Log}, runOps P (envT P C prim) ops nx i l s = some r → ∃ n, runOps P ⟨callF P C prim n, fun f => (C f).lent⟩ ops nx i l s = some r
 | [], i, s, r, hr => ⟨0, hr⟩
 | o :: l, i, s, r, hr => by
  simp only [runOps] at hr
  split at hr
  · cases hr
  ·
   rename_i s1 l1 h1
   have hstep : ∃ n, stepR P ⟨callF P C prim n, fun f => (C f).lent⟩ ops nx i o s = some (s1, l1) := by
    unfold stepR at h1 ⊢
    split at h1
    · cases h1
    · exact ⟨0, h1⟩
    ·
     split at h1
     · cases h1
     ·
      rename_i e l2 he
      obtain ⟨n, hn⟩ := opR_fin he
      exact ⟨n, by rw [hn]; exact h1⟩
   obtain ⟨n, hn⟩ := hstep
   split at hr
   · cases hr
   ·
    rename_i s2 l2 h2
    obtain ⟨n', hn'⟩ := runOps_fin h2
    refine ⟨max n n', ?_⟩
    simp only [runOps]
    rw [stepR_mono (up_to (Nat.le_max_left n n')) hn]
    simp only
    rw [runOps_mono (up_to (Nat.le_max_right n n')) hn']
    exact hr
open Classical in
noncomputable def execT (P : Program) (C : Cert) (prim : FuncId → Option (List T → List Ob → Option (T × List Ob))) (cert : FCert) (c : Code) (s : St) : Option (Ex × St) :=
 if h : ∃ r n, exec P ⟨callF P C prim n, fun f => (C f).lent⟩ cert n c s = some r then some (Classical.choose h) else none
variable {cert : FCert}
theorem execT_some {c : Code} {s : St} {r : Ex × St} : execT P C prim cert c s = some r ↔ ∃ n, exec P ⟨callF P C prim n, fun f => (C f).lent⟩ cert n c s = some r := by
 unfold execT
 constructor
 ·
  intro h
  split at h
  ·
   rename_i hx
   obtain ⟨n, hn⟩ := Classical.choose_spec hx
   exact ⟨n, by rw [hn]; exact h⟩
  · cases h
 ·
  rintro ⟨n, hn⟩
  have hx : ∃ r n, exec P ⟨callF P C prim n, fun f => (C f).lent⟩ cert n c s = some r := ⟨r, n, hn⟩
  rw [dif_pos hx]
  obtain ⟨n', hn'⟩ := Classical.choose_spec hx
  rcases Nat.le_total n n' with h | h
  ·
   have := exec_mono (up_to h) h hn
   rw [hn'] at this
   exact this
  ·
   have := exec_mono (up_to h) h hn'
   rw [hn] at this
   rw [this]
theorem option_ext {α : Type} {x y : Option α} (h : ∀ r, x = some r ↔ y = some r) : x = y := by
 cases y with
 | none =>
  cases x with
  | none => rfl
  | some a => exact absurd ((h a).1 rfl) (by simp)
 | some b => exact (h b).2 rfl
def thenT (r : Option (Ex × St)) (f : St → Option (Ex × St)) : Option (Ex × St) := match r with
 | some (.normal, s) => f s
 | r => r
def blockT (id : Nat) (r : Option (Ex × St)) : Option (Ex × St) := match r with
 | some (.exit j, s) => some (if j = id then .normal else .exit j, s)
 | r => r
theorem execT_skip {s : St} : execT P C prim cert .skip s = some (.normal, s) := execT_some.2 ⟨0, rfl⟩
theorem execT_exit {id : Nat} {s : St} : execT P C prim cert (.exit id) s = some (.exit id, s) := execT_some.2 ⟨0, rfl⟩
theorem execT_ret {s : St} : execT P C prim cert .ret s = some (.ret, s) := execT_some.2 ⟨0, rfl⟩
theorem execT_region {id : Nat} {ops : Array Oper} {draw : Bool} {s : St} :
 execT P C prim cert (.region id ops draw) s = (regionR P (envT P C prim) (cert.predsOf id) ops draw (match findK cert.keep id with | some k => normR k s | none => s)).map fun s' => (.normal, s') := by
 refine option_ext fun r => ?_
 rw [execT_some]
 simp only [exec, Option.map_eq_some_iff]
 constructor
 ·
  rintro ⟨n, s', h1, h2⟩
  exact ⟨s', regionR_mono (env_le n) h1, h2⟩
 ·
  rintro ⟨s', h1, h2⟩
  have : ∃ n, regionR P ⟨callF P C prim n, fun f => (C f).lent⟩ (cert.predsOf id) ops draw (match findK cert.keep id with | some k => normR k s | none => s) = some s' := by
   unfold regionR at h1 ⊢
   split at h1
   · cases h1
   ·
    rename_i s1 l1 hr
    obtain ⟨n, hn⟩ := runOps_fin hr
    exact ⟨n, by rw [hn]; exact h1⟩
  obtain ⟨n, hn⟩ := this
  exact ⟨n, s', hn, h2⟩
theorem execT_seq {x y : Code} {s : St} : execT P C prim cert (.seq x y) s = thenT (execT P C prim cert x s) (execT P C prim cert y) := by
 refine option_ext fun r => ?_
 rw [execT_some]
 constructor
 ·
  rintro ⟨n, h⟩
  simp only [exec] at h
  cases hx : exec P ⟨callF P C prim n, fun f => (C f).lent⟩ cert n x s with
  | none => rw [hx] at h; cases h
  | some p =>
   rw [hx] at h
   rw [execT_some.2 ⟨n, hx⟩]
   obtain ⟨ex, s1⟩ := p
   cases ex with
   | normal => exact execT_some.2 ⟨n, h⟩
   | exit id => exact h
   | ret => exact h
 ·
  intro h
  cases hx : execT P C prim cert x s with
  | none => rw [hx] at h; cases h
  | some p =>
   rw [hx] at h
   obtain ⟨n, hn⟩ := execT_some.1 hx
   obtain ⟨ex, s1⟩ := p
   cases ex with
   | normal =>
    obtain ⟨n', hn'⟩ := execT_some.1 h
    refine ⟨max n n', ?_⟩
    simp only [exec]
    rw [exec_mono (up_to (Nat.le_max_left n n')) (Nat.le_max_left n n') hn]
    exact exec_mono (up_to (Nat.le_max_right n n')) (Nat.le_max_right n n') hn'
   | exit id => exact ⟨n, by simp only [exec]; rw [hn]; exact h⟩
   | ret => exact ⟨n, by simp only [exec]; rw [hn]; exact h⟩
theorem execT_cond {c : Operand} {x y : Code} {s : St} {t : Bool} (h : evalT s.tmps c = .sc (.bool t)) : execT P C prim cert (.cond c x y) s = if t then execT P C prim cert x s else execT P C prim cert y s := by
 refine option_ext fun r => ?_
 rw [execT_some]
 simp only [exec, h]
 cases t
 · simp only [Bool.false_eq_true, if_false]; exact execT_some.symm
 · simp only [if_true]; exact execT_some.symm
theorem execT_block {id : Nat} {b : Code} {s : St} : execT P C prim cert (.block id b) s = blockT id (execT P C prim cert b s) := by
 refine option_ext fun r => ?_
 rw [execT_some]
 constructor
 ·
  rintro ⟨n, h⟩
  simp only [exec] at h
  cases hx : exec P ⟨callF P C prim n, fun f => (C f).lent⟩ cert n b s with
  | none => rw [hx] at h; cases h
  | some p => rw [hx] at h; rw [execT_some.2 ⟨n, hx⟩]; exact h
 ·
  intro h
  cases hx : execT P C prim cert b s with
  | none => rw [hx] at h; cases h
  | some p =>
   rw [hx] at h
   obtain ⟨n, hn⟩ := execT_some.1 hx
   exact ⟨n, by simp only [exec]; rw [hn]; exact h⟩
theorem execT_loop {b : Code} {s : St} : execT P C prim cert (.loop b) s = thenT (execT P C prim cert b s) (execT P C prim cert (.loop b)) := by
 refine option_ext fun r => ?_
 rw [execT_some]
 constructor
 ·
  rintro ⟨n, h⟩
  simp only [exec] at h
  cases n with
  | zero => simp only [iter] at h; cases h
  | succ n =>
   simp only [iter] at h
   cases hx : exec P ⟨callF P C prim (n + 1), fun f => (C f).lent⟩ cert (n + 1) b s with
   | none => rw [hx] at h; cases h
   | some p =>
    rw [hx] at h
    rw [execT_some.2 ⟨n + 1, hx⟩]
    obtain ⟨ex, s1⟩ := p
    cases ex with
    | normal => exact execT_some.2 ⟨n + 1, iter_mono (fun _ _ h => h) (Nat.le_succ n) h⟩
    | exit id => exact h
    | ret => exact h
 ·
  intro h
  cases hx : execT P C prim cert b s with
  | none => rw [hx] at h; cases h
  | some p =>
   rw [hx] at h
   obtain ⟨n, hn⟩ := execT_some.1 hx
   obtain ⟨ex, s1⟩ := p
   cases ex with
   | normal =>
    obtain ⟨n', hn'⟩ := execT_some.1 h
    simp only [exec] at hn'
    refine ⟨max n n' + 1, ?_⟩
    simp only [exec, iter]
    rw [exec_mono (up_to (n := n) (n' := max n n' + 1) (by omega)) (by omega) hn]
    exact iter_mono (fun _ _ h => exec_mono (up_to (n := n') (n' := max n n' + 1) (by omega)) (by omega) h) (by omega) hn'
   | exit id => exact ⟨n + 1, by simp only [exec, iter]; rw [exec_mono (up_to (Nat.le_succ n)) (Nat.le_succ n) hn]; exact h⟩
   | ret => exact ⟨n + 1, by simp only [exec, iter]; rw [exec_mono (up_to (Nat.le_succ n)) (Nat.le_succ n) hn]; exact h⟩
def giveT (P : Program) (fn : Func) (own : Bool) (m : Nat) (r : Option (Ex × St)) : Option (T × List Ob) := match r with
 | some (.normal, s) => giveR P fn own m s
 | some (.ret, s) => giveR P fn own m s
 | _ => none
theorem callT_eq {f : FuncId} {fn : Func} {c : Code} {args : List T} {objs : List Ob} (hp : prim f = none) (hf : P.funcs[f]? = some fn) (hc : fn.body = some c) (ho : okCode (C f) c = true) :
 callT P C prim f args objs = giveT P fn (C f).own objs.length (execT P C prim (C f) c ⟨args ++ List.replicate (fn.ntmps - args.length) undT, objs.zipIdx.map fun p => (p.2, p.1), objs.length, objs.length⟩) := by
 refine option_ext fun r => ?_
 rw [callT_some]
 constructor
 ·
  rintro ⟨n, h⟩
  cases n with
  | zero => simp only [callF] at h; cases h
  | succ n =>
   simp only [callF, hp, hf, hc, ho, if_true] at h
   split at h
   · rename_i s hs; rw [execT_some.2 ⟨n, hs⟩]; exact h
   · rename_i s hs; rw [execT_some.2 ⟨n, hs⟩]; exact h
   · cases h
 ·
  intro h
  cases hx : execT P C prim (C f) c ⟨args ++ List.replicate (fn.ntmps - args.length) undT, objs.zipIdx.map fun p => (p.2, p.1), objs.length, objs.length⟩ with
  | none => rw [hx] at h; cases h
  | some p =>
   rw [hx] at h
   obtain ⟨n, hn⟩ := execT_some.1 hx
   refine ⟨n + 1, ?_⟩
   simp only [callF, hp, hf, hc, ho, if_true]
   obtain ⟨ex, s1⟩ := p
   cases ex with
   | normal => rw [hn]; exact h
   | exit id => cases h
   | ret => rw [hn]; exact h
end
end Go.Proofs.YtmjmoagmolgacaaGreatDoor.PM
namespace Go.Proofs.YtmjmoagmolgacaaGreatDoor.PM
open Go
variable {P : Program} {C : Cert} {prim : FuncId → Option (List T → List Ob → Option (T × List Ob))} {cert : FCert}
def condT (t : T) (a b : Option (Ex × St)) : Option (Ex × St) := match t with
  | .sc (.bool v) => if v then a else b
  | _ => none
@[congr] theorem condT_congr {t t' : T} {a b : Option (Ex × St)} (h : t = t') : condT t a b = condT t' a b := by rw [h]
@[congr] theorem thenT_congr {r r' : Option (Ex × St)} {f : St → Option (Ex × St)} (h : r = r') : thenT r f = thenT r' f := by rw [h]
theorem execT_cond' {c : Operand} {x y : Code} {s : St} : execT P C prim cert (.cond c x y) s = condT (evalT s.tmps c) (execT P C prim cert x s) (execT P C prim cert y s) := by
  cases he : evalT s.tmps c with
  | sc v =>
    cases v with
    | bool t => rw [execT_cond he]; rfl
    | _ => exact option_ext fun r => by rw [execT_some]; simp [exec, he, condT]
  | _ => exact option_ext fun r => by rw [execT_some]; simp [exec, he, condT]
theorem normR_mk {keep : List (Nat × Bool)} {tmps : List T} {store : List (Nat × Ob)} {nx m : Nat} : normB keep ⟨tmps, store, nx, m⟩ =
    (let look := lookIn store
     let ts := pickTmps keep look 0 tmps
     let K := List.range m ++ (reachN look 64 (List.range m ++ ts.flatMap refs) []).filter fun o => !decide (o < m)
     let sg := srcN K look fun _ => 0
     { tmps := ts.map (mapV (posIn K) sg)
       store := K.zipIdx.map fun p => (p.2, { mapOb (posIn K) sg (look p.1) with ver := 0 })
       nx := K.length
       m := m }) := rfl
theorem normR_def {keep : List (Nat × Nat)} {tmps : List T} {store : List (Nat × Ob)} {nx m : Nat} : normR keep ⟨tmps, store, nx, m⟩ = normB (keep.map fun p => (p.1, p.2 == 1)) (freshR keep ⟨tmps, store, nx, m⟩) := rfl
end Go.Proofs.YtmjmoagmolgacaaGreatDoor.PM
namespace Go.Proofs.YtmjmoagmolgacaaGreatDoor.PM
open Go
section
variable {t : TypeId} {k : IntKind} {a b : Int} {x y : ByteArray} {p q : Bool}
abbrev opB (op : BinOp) (t : TypeId) (v w : Value) : Option T := (pureOf (binOp op t v w)).bind scP
abbrev opU (op : UnOp) (v : Value) : Option T := (pureOf (Op.unary op v)).bind scP
theorem ev_add : opB .add t (.int k a) (.int k b) = some (.sc (.int k (k.wrap (a + b)))) := by simp [opB, binOp, Op.intArith, pureOf, scP, plainB]; rfl
theorem ev_sub : opB .sub t (.int k a) (.int k b) = some (.sc (.int k (k.wrap (a - b)))) := by simp [opB, binOp, Op.intArith, pureOf, scP, plainB]; rfl
theorem ev_mul : opB .mul t (.int k a) (.int k b) = some (.sc (.int k (k.wrap (a * b)))) := by simp [opB, binOp, Op.intArith, pureOf, scP, plainB]; rfl
theorem ev_quo (h : b ≠ 0) : opB .quo t (.int k a) (.int k b) = some (.sc (.int k (k.wrap (a.tdiv b)))) := by simp [opB, binOp, Op.intDiv, pureOf, scP, plainB, h]; rfl
theorem ev_rem (h : b ≠ 0) : opB .rem t (.int k a) (.int k b) = some (.sc (.int k (a.tmod b))) := by simp [opB, binOp, Op.intDiv, pureOf, scP, plainB, h]; rfl
theorem ev_eql : opB .eql t (.int k a) (.int k b) = some (.sc (.bool (decide (a = b)))) := by
 have : (a == b) = decide (a = b) := rfl
 simp [opB, binOp, Op.intCmp, pureOf, scP, plainB, this]; rfl
theorem ev_neq : opB .neq t (.int k a) (.int k b) = some (.sc (.bool (!decide (a = b)))) := by
 have : (a != b) = !decide (a = b) := rfl
 simp [opB, binOp, Op.intCmp, pureOf, scP, plainB, this]; rfl
theorem ev_lss : opB .lss t (.int k a) (.int k b) = some (.sc (.bool (decide (a < b)))) := by simp [opB, binOp, Op.intCmp, pureOf, scP, plainB]; rfl
theorem ev_leq : opB .leq t (.int k a) (.int k b) = some (.sc (.bool (decide (a ≤ b)))) := by simp [opB, binOp, Op.intCmp, pureOf, scP, plainB]; rfl
theorem ev_gtr : opB .gtr t (.int k a) (.int k b) = some (.sc (.bool (decide (b < a)))) := by simp [opB, binOp, Op.intCmp, pureOf, scP, plainB]; rfl
theorem ev_geq : opB .geq t (.int k a) (.int k b) = some (.sc (.bool (decide (b ≤ a)))) := by simp [opB, binOp, Op.intCmp, pureOf, scP, plainB]; rfl
def strLt (x y : ByteArray) : Bool := Op.bytesLess x.toList y.toList
theorem ev_sadd (h : x.size + y.size ≤ 9223372036854775807) : opB .add t (.string x) (.string y) = some (.sc (.string (x ++ y))) := by
 have h' : ¬ ((9223372036854775807 : Int) < (x.size : Int) + (y.size : Int)) := by omega
 simp [opB, binOp, Op.stringOp, pureOf, scP, plainB, h']; rfl
theorem ev_seql : opB .eql t (.string x) (.string y) = some (.sc (.bool (strEq x y))) := by simp [opB, binOp, Op.stringOp, pureOf, scP, plainB]; rfl
theorem ev_sneq : opB .neq t (.string x) (.string y) = some (.sc (.bool (!strEq x y))) := by simp [opB, binOp, Op.stringOp, pureOf, scP, plainB]; rfl
theorem ev_slss : opB .lss t (.string x) (.string y) = some (.sc (.bool (strLt x y))) := by simp [opB, binOp, Op.stringOp, pureOf, scP, plainB]; rfl
theorem ev_sleq : opB .leq t (.string x) (.string y) = some (.sc (.bool (strLt x y || strEq x y))) := by simp [opB, binOp, Op.stringOp, pureOf, scP, plainB]; rfl
theorem ev_sgtr : opB .gtr t (.string x) (.string y) = some (.sc (.bool (!(strLt x y || strEq x y)))) := by simp [opB, binOp, Op.stringOp, pureOf, scP, plainB]; rfl
theorem ev_sgeq : opB .geq t (.string x) (.string y) = some (.sc (.bool (!strLt x y))) := by simp [opB, binOp, Op.stringOp, pureOf, scP, plainB]; rfl
theorem ev_not : opU .not (.bool p) = some (.sc (.bool (!p))) := by simp [opU, Op.unary, pureOf, scP, plainB]; rfl
theorem ev_neg : opU .neg (.int k a) = some (.sc (.int k (k.wrap (0 - a)))) := by simp [opU, Op.unary, Op.intArith, pureOf, scP, plainB]; rfl
end
theorem wrap_i64 {n : Int} (h1 : -9223372036854775808 ≤ n) (h2 : n ≤ 9223372036854775807) : IntKind.i64.wrap n = n := IntWalk.i64_in n ⟨h1, h2⟩
end Go.Proofs.YtmjmoagmolgacaaGreatDoor.PM
namespace Go.Proofs.YtmjmoagmolgacaaGreatDoor.PM
open Go
variable {P : Program} {C : Cert} {prim : FuncId → Option (List T → List Ob → Option (T × List Ob))} {cert : FCert} {α β : Type}
abbrev RS := Option (Ex × St)
noncomputable def execK (P : Program) (C : Cert) (prim : FuncId → Option (List T → List Ob → Option (T × List Ob))) (cert : FCert) (c : Code) (s : St) (k : RS → β) : β := k (execT P C prim cert c s)
noncomputable def seqK (P : Program) (C : Cert) (prim : FuncId → Option (List T → List Ob → Option (T × List Ob))) (cert : FCert) (c : Code) (k : RS → β) : RS → β
 | some (.normal, s) => execK P C prim cert c s k
 | r => k r
def blockK (i : Nat) (k : RS → β) (r : RS) : β := k (blockT i r)
def giveK (P : Program) (fn : Func) (own : Bool) (m : Nat) (r : RS) : Option (T × List Ob) := giveT P fn own m r
def regionK (P : Program) (E : Env) (ps : List (List Nat)) (ops : Array Oper) (draw : Bool) (s : St) (k : RS → β) : β := k ((regionR P E ps ops draw s).map fun s' => (.normal, s'))
def clearK (keep : Option (List (Nat × Nat))) (s : St) : St := match keep with | some k => normR k s | none => s
theorem clearK_none {s : St} : clearK none s = s := rfl
theorem clearK_some {l : List (Nat × Nat)} {s : St} : clearK (some l) s = normR l s := rfl
variable {k : RS → β} {s : St}
theorem execK_skip : execK P C prim cert .skip s k = k (some (.normal, s)) := by rw [execK, execT_skip]
theorem execK_exit {i : Nat} : execK P C prim cert (.exit i) s k = k (some (.exit i, s)) := by rw [execK, execT_exit]
theorem execK_ret : execK P C prim cert .ret s k = k (some (.ret, s)) := by rw [execK, execT_ret]
theorem execK_region {id : Nat} {ops : Array Oper} {draw : Bool} :
 execK P C prim cert (.region id ops draw) s k = regionK P (envT P C prim) (cert.predsOf id) ops draw (clearK (findK cert.keep id) s) k := by
 rw [execK, execT_region]; rfl
theorem execK_seq {x y : Code} : execK P C prim cert (.seq x y) s k = execK P C prim cert x s (seqK P C prim cert y k) := by
 rw [execK, execT_seq, execK]
 cases execT P C prim cert x s with
 | none => rfl
 | some p => obtain ⟨ex, s1⟩ := p; cases ex <;> rfl
theorem execK_block {i : Nat} {b : Code} : execK P C prim cert (.block i b) s k = execK P C prim cert b s (blockK i k) := by rw [execK, execT_block]; rfl
def condK (t : T) (a b z : β) : β := match t with
 | .sc (.bool v) => if v then a else b
 | _ => z
theorem condK_bool {v : Bool} {a b z : β} : condK (.sc (.bool v)) a b z = if v then a else b := rfl
@[congr] theorem condK_congr {t t' : T} {a b z : β} (h : t = t') : condK t a b z = condK t' a b z := by rw [h]
theorem execK_cond {c : Operand} {x y : Code} : execK P C prim cert (.cond c x y) s k = condK (evalT s.tmps c) (execK P C prim cert x s k) (execK P C prim cert y s k) (k none) := by
 rw [execK, execT_cond']
 generalize evalT s.tmps c = t
 cases t with
 | sc v => cases v with
  | bool w => cases w <;> rfl
  | _ => rfl
 | _ => rfl
theorem seqK_normal {c : Code} : seqK P C prim cert c k (some (.normal, s)) = execK P C prim cert c s k := rfl
theorem seqK_ret {c : Code} : seqK P C prim cert c k (some (.ret, s)) = k (some (.ret, s)) := rfl
theorem seqK_exit {c : Code} {i : Nat} : seqK P C prim cert c k (some (.exit i, s)) = k (some (.exit i, s)) := rfl
theorem blockK_normal {i : Nat} : blockK i k (some (.normal, s)) = k (some (.normal, s)) := rfl
theorem blockK_ret {i : Nat} : blockK i k (some (.ret, s)) = k (some (.ret, s)) := rfl
theorem blockK_exit {i j : Nat} : blockK i k (some (.exit j, s)) = k (some (if j = i then .normal else .exit j, s)) := rfl
theorem giveK_normal {fn : Func} {own : Bool} {m : Nat} : giveK P fn own m (some (.normal, s)) = giveR P fn own m s := rfl
theorem giveK_ret {fn : Func} {own : Bool} {m : Nat} : giveK P fn own m (some (.ret, s)) = giveR P fn own m s := rfl
theorem regionK_eq {E : Env} {ps : List (List Nat)} {ops : Array Oper} {draw : Bool} {s' : St} (h : regionR P E ps ops draw s = some s') : regionK P E ps ops draw s k = k (some (.normal, s')) := by rw [regionK, h]; rfl
theorem callK_eq {f : FuncId} {fn : Func} {c : Code} {args : List T} {objs : List Ob} (hp : prim f = none) (hf : P.funcs[f]? = some fn) (hc : fn.body = some c) (ho : okCode (C f) c = true) :
 callT P C prim f args objs = execK P C prim (C f) c ⟨args ++ List.replicate (fn.ntmps - args.length) undT, objs.zipIdx.map fun p => (p.2, p.1), objs.length, objs.length⟩ (giveK P fn (C f).own objs.length) := callT_eq hp hf hc ho
end Go.Proofs.YtmjmoagmolgacaaGreatDoor.PM
namespace Go.Proofs.YtmjmoagmolgacaaGreatDoor.PM
open Go
theorem ite_some {α : Type} {c : Prop} [Decidable c] {a b : Option α} {r : α} (h : (if c then a else b) = some r) : (c ∧ a = some r) ∨ (¬ c ∧ b = some r) := by
 by_cases hc : c
 · rw [if_pos hc] at h; exact .inl ⟨hc, h⟩
 · rw [if_neg hc] at h; exact .inr ⟨hc, h⟩
theorem ite_l {α : Type} {c : Prop} [Decidable c] {a : Option α} {r : α} (h : (if c then a else none) = some r) : c ∧ a = some r := by
 rcases ite_some h with h | ⟨_, h⟩
 · exact h
 · cases h
noncomputable def nextK {β : Type} (P : Program) (C : Cert) (prim : FuncId → Option (List T → List Ob → Option (T × List Ob))) (cert : FCert) (b : Code) (k : RS → β) : RS → β
 | some (.normal, s) => execK P C prim cert (.loop b) s k
 | r => k r
variable {P : Program} {C : Cert} {prim : FuncId → Option (List T → List Ob → Option (T × List Ob))} {cert : FCert} {α β ρ : Type} {k : RS → β}
theorem nextK_normal {b : Code} {s : St} : nextK P C prim cert b k (some (.normal, s)) = execK P C prim cert (.loop b) s k := rfl
theorem nextK_ret {b : Code} {s : St} : nextK P C prim cert b k (some (.ret, s)) = k (some (.ret, s)) := rfl
theorem nextK_exit {b : Code} {s : St} {i : Nat} : nextK P C prim cert b k (some (.exit i, s)) = k (some (.exit i, s)) := rfl
theorem execK_next {b : Code} {s : St} : execK P C prim cert (.loop b) s k = execK P C prim cert b s (nextK P C prim cert b k) := by
 rw [execK, execT_loop, execK]
 cases execT P C prim cert b s with
 | none => rfl
 | some p => obtain ⟨ex, s1⟩ := p; cases ex <;> rfl
def at' {α : Type} [Inhabited α] (l : List α) (i : Int) : α := l.getD i.toNat default
theorem at_map {α : Type} [Inhabited α] (e : α → T) (l : List α) (i : Int) (h0 : 0 ≤ i) (h1 : i < (l.length : Int)) : l[i.toNat]? = some (at' l i) := by
 unfold at'
 have : i.toNat < l.length := by omega
 rw [List.getD_eq_getElem?_getD, List.getElem?_eq_getElem this]; rfl
def andI (k : IntKind) (x y : Int) : Int := k.wrap (BitVec.ofInt k.bits x &&& BitVec.ofInt k.bits y).toNat
def orI (k : IntKind) (x y : Int) : Int := k.wrap (BitVec.ofInt k.bits x ||| BitVec.ofInt k.bits y).toNat
def xorI (k : IntKind) (x y : Int) : Int := k.wrap (BitVec.ofInt k.bits x ^^^ BitVec.ofInt k.bits y).toNat
def andNotI (k : IntKind) (x y : Int) : Int := k.wrap (BitVec.ofInt k.bits x &&& ~~~ BitVec.ofInt k.bits y).toNat
def shlI (k : IntKind) (x y : Int) : Int := k.wrap (x * 2 ^ (min y.toNat k.bits))
def shrI (k : IntKind) (x y : Int) : Int := x.fdiv (2 ^ (min y.toNat k.bits))
section
variable {t : TypeId} {k k' : IntKind} {a b : Int}
theorem ev_and : opB .and t (.int k a) (.int k b) = some (.sc (.int k (andI k a b))) := by simp [opB, binOp, Op.intBits, pureOf, scP, plainB, andI]; rfl
theorem ev_or : opB .or t (.int k a) (.int k b) = some (.sc (.int k (orI k a b))) := by simp [opB, binOp, Op.intBits, pureOf, scP, plainB, orI]; rfl
theorem ev_xor : opB .xor t (.int k a) (.int k b) = some (.sc (.int k (xorI k a b))) := by simp [opB, binOp, Op.intBits, pureOf, scP, plainB, xorI]; rfl
theorem ev_andNot : opB .andNot t (.int k a) (.int k b) = some (.sc (.int k (andNotI k a b))) := by simp [opB, binOp, Op.intBits, pureOf, scP, plainB, andNotI]; rfl
theorem ev_shl (h : 0 ≤ b) : opB .shl t (.int k a) (.int k' b) = some (.sc (.int k (shlI k a b))) := by
 have : ¬ b < 0 := by omega
 simp [opB, binOp, Op.shift, pureOf, scP, plainB, shlI, this]; rfl
theorem ev_shr (h : 0 ≤ b) : opB .shr t (.int k a) (.int k' b) = some (.sc (.int k (shrI k a b))) := by
 have : ¬ b < 0 := by omega
 simp [opB, binOp, Op.shift, pureOf, scP, plainB, shrI, this]; rfl
end
def bytesL (s : ByteArray) : List Int := s.data.toList.map fun b => (b.toNat : Int)
def byteAt (s : ByteArray) (i : Int) : Int := ((s[i.toNat]?).map fun b => (b.toNat : Int)).getD 0
theorem byteAt_eq (s : ByteArray) (i : Int) (h0 : 0 ≤ i) (h1 : i < (s.size : Int)) : (s[i.toNat]?).map (fun b => T.sc (.int .u8 (b.toNat : Int))) = some (.sc (.int .u8 (byteAt s i))) := by
 unfold byteAt
 have : i.toNat < s.size := by omega
 rw [getElem?_pos s i.toNat this]; rfl
theorem get_nat {α : Type} [Inhabited α] (l : List α) (i : Nat) (h : i < l.length) : l[i] = at' l (i : Int) := by
 unfold at'
 rw [Int.toNat_natCast, List.getD_eq_getElem?_getD, List.getElem?_eq_getElem h]; rfl
theorem ev_conv (k : IntKind) (n : Int) : Option.map T.sc (pureOf (Conv.intToInt k n)) = some (.sc (.int k (k.wrap n))) := rfl
theorem wid_nil (k : Nat) : wid k [] = true := rfl
theorem wid_cons (k : Nat) (a : T) (l : List T) : wid k (a :: l) = (a.width == k && wid k l) := by simp [wid]
theorem wid_append (k : Nat) (a b : List T) : wid k (a ++ b) = (wid k a && wid k b) := by simp [wid]
def minI (a b : Int) : Int := if b < a then b else a
theorem ev_min {ts : Array TypeId} {ty : TypeId} {k k' : IntKind} {a b : Int} : (pureOf (Builtin.min_ ts ty #[.int k a, .int k' b])).bind scP = some (.sc (.int k (minI a b))) := by
 have : Builtin.min_ ts ty #[.int k a, .int k' b] = pure (.int k (if b < a then b else a)) := by simp [Builtin.min_, Builtin.min2]
 rw [this]; rfl
def maxI (a b : Int) : Int := if a < b then b else a
def notI (k : IntKind) : Int := if k.signed then -1 else k.max
theorem ev_unxor {k : IntKind} {a : Int} : opU .xor (.int k a) = some (.sc (.int k (xorI k (notI k) a))) := by simp [opU, Op.unary, Op.intBits, pureOf, scP, plainB, xorI, notI]; rfl
theorem bsize_mk (a : Array UInt8) : (⟨a⟩ : ByteArray).size = a.size := rfl
def strOf (l : List Int) : ByteArray := ⟨(l.map fun b => UInt8.ofNat b.toNat).toArray⟩
def byte1 : T → Option UInt8
 | .sc (.int .u8 b) => some (UInt8.ofNat b.toNat)
 | _ => none
theorem bytesOf_cons (t : T) (r : List T) : bytesOf (t :: r) = (byte1 t).bind fun c => (bytesOf r).map (c :: ·) := by
 cases t with
 | sc v => cases v with
  | int k n => cases k <;> simp [bytesOf, byte1]
  | _ => simp [bytesOf, byte1]
 | _ => simp [bytesOf, byte1]
theorem bytesOf_append (a b : List T) : bytesOf (a ++ b) = (bytesOf a).bind fun x => (bytesOf b).map (x ++ ·) := by
 induction a with
 | nil => cases h : bytesOf b <;> simp [bytesOf, h]
 | cons t r ih =>
  rw [List.cons_append, bytesOf_cons, bytesOf_cons, ih]
  cases byte1 t <;> cases bytesOf r <;> cases bytesOf b <;> simp
def eStr (x : ByteArray) : T := .sc (.string x)
def eBool (x : Bool) : T := .sc (.bool x)
def e_i64 (x : Int) : T := .sc (.int .i64 x)
def e_u8 (x : Int) : T := .sc (.int .u8 x)
theorem bytesOf_map (l : List Int) : bytesOf (l.map e_u8) = some (l.map fun b => UInt8.ofNat b.toNat) := by
 induction l with
 | nil => rfl
 | cons a r ih => simp [bytesOf, e_u8, ih]
theorem wStr (l : List ByteArray) : wid 1 (l.map eStr) = true := by simp [wid, eStr, T.width, T.cells]
theorem w_i64 (l : List Int) : wid 1 (l.map e_i64) = true := by simp [wid, e_i64, T.width, T.cells]
theorem w_u8 (l : List Int) : wid 1 (l.map e_u8) = true := by simp [wid, e_u8, T.width, T.cells]
end Go.Proofs.YtmjmoagmolgacaaGreatDoor.PM
namespace Go.Proofs.YtmjmoagmolgacaaGreatDoor.PM
open Go Go.RowKit
abbrev lowA (W : World) (b : Nat) : Prop := b < W.heap.size
def TellsL (W : World) (cs : List Value) (us : List T) : Prop := cs.length = us.length ∧ ∀ (j : Nat) u, us[j]? = some u → ∃ v, cs[j]? = some v ∧ ShV W (lowA W) v u
def Opens {α : Type} (P : Program) (t : TypeId) (e : α → T) (ok : α → Prop) : Prop :=
 ∀ (H : Type) (enc : TypeId × Value → H) (W : World) (base : Nat) (spare : Nat → Bool) (held : Bool) (fuel : Nat) (cs : List Value) (y : DataW H × List MemPlace),
  DataW.trod enc P W base spare held fuel t cs = some y → ∃ x, TellsL W cs (e x).cells ∧ ok x
def okI (k : IntKind) (x : Int) : Prop := (Lit.int k x).wf = true
def okB (_ : Bool) : Prop := True
def okS (s : ByteArray) : Prop := s.size ≤ maxLen
def okL {α : Type} (ok : α → Prop) (l : List α) : Prop := l.length ≤ maxLen ∧ ∀ x ∈ l, ok x
theorem TellsL.one {W : World} {v : Value} {u : T} (h : ShV W (lowA W) v u) : TellsL W [v] [u] := ⟨rfl, fun j t ht => by
 cases j with
 | zero => simp at ht; subst ht; exact ⟨v, rfl, h⟩
 | succ j => simp at ht⟩
theorem TellsL.step {W : World} {cs : List Value} {us vs : List T} {o k : Nat} (hk : us.length = k) (h1 : TellsL W ((cs.drop o).take k) us) (h2 : TellsL W (cs.drop (o + k)) vs) : TellsL W (cs.drop o) (us ++ vs) := by
 have hc : cs.drop o = (cs.drop o).take k ++ cs.drop (o + k) := by rw [← List.drop_drop, List.take_append_drop]
 have hl : ((cs.drop o).take k).length = k := by rw [h1.1, hk]
 rw [hc]
 refine ⟨by simp only [List.length_append, h1.1, h2.1], fun j u hu => ?_⟩
 by_cases hj : j < k
 ·
  rw [List.getElem?_append_left (by omega)] at hu
  rw [List.getElem?_append_left (by omega)]
  exact h1.2 j u hu
 ·
  rw [List.getElem?_append_right (by omega)] at hu
  rw [List.getElem?_append_right (by omega), hl]
  rw [hk] at hu
  exact h2.2 _ u hu
theorem TellsL.fin {W : World} {cs : List Value} {n : Nat} (h : cs.length = n) : TellsL W (cs.drop n) [] := ⟨by simp [h], fun j u hu => by simp at hu⟩
theorem TellsL.cast {W : World} {cs : List Value} {us vs : List T} {o k o' k' : Nat} (h : TellsL W ((cs.drop o).take k) us) (ho : o = o') (hk : k = k') (hu : us = vs) : TellsL W ((cs.drop o').take k') vs := by
 subst ho; subst hk; subst hu; exact h
theorem TellsL.top {W : World} {cs : List Value} {us vs : List T} (hu : us = vs) (h : TellsL W (cs.drop 0) us) : TellsL W cs vs := by
 subst hu; exact h
theorem prim_none {P : Program} : PrimOk P (fun _ => none) := fun f D h => by cases h
theorem Opens.int {P : Program} {t : TypeId} {k : IntKind} {e : Int → T} (ht : P.underlying t = some (.int k)) (he : ∀ x, e x = .sc (.int k x)) : Opens P t e (okI k) := by
 intro H enc W base spare held fuel cs y h
 obtain ⟨n, rfl, _, hw⟩ := DataW.trod_int ht h
 exact ⟨n, by rw [he]; exact .one (.sc rfl), hw⟩
theorem Opens.bool {P : Program} {t : TypeId} {e : Bool → T} (ht : P.underlying t = some .bool) (he : ∀ x, e x = .sc (.bool x)) : Opens P t e okB := by
 intro H enc W base spare held fuel cs y h
 obtain ⟨n, rfl, _⟩ := DataW.trod_bool ht h
 exact ⟨n, by rw [he]; exact .one (.sc rfl), trivial⟩
theorem Opens.string {P : Program} {t : TypeId} {e : ByteArray → T} (ht : P.underlying t = some .string) (he : ∀ x, e x = .sc (.string x)) : Opens P t e okS := by
 intro H enc W base spare held fuel cs y h
 obtain ⟨n, rfl, _, hw⟩ := DataW.trod_string ht h
 exact ⟨n, by rw [he]; exact .one (.sc rfl), hw⟩
theorem list_of_index {α : Type} {p : Nat → α → Prop} (n : Nat) (h : ∀ i, i < n → ∃ x, p i x) : ∃ xs : List α, xs.length = n ∧ ∀ i x, xs[i]? = some x → p i x := by
 induction n with
 | zero => exact ⟨[], rfl, fun i x hx => by simp at hx⟩
 | succ n ih =>
  obtain ⟨xs, hl, hx⟩ := ih (fun i hi => h i (by omega))
  obtain ⟨y, hy⟩ := h n (by omega)
  refine ⟨xs ++ [y], by simp [hl], fun i x he => ?_⟩
  by_cases hi : i < xs.length
  ·
   rw [List.getElem?_append_left hi] at he
   exact hx i x he
  ·
   rw [List.getElem?_append_right (by omega)] at he
   by_cases e : i = xs.length
   ·
    subst e
    simp at he
    subst he
    rw [hl]
    exact hy
   ·
    rw [List.getElem?_eq_none (by simp; omega)] at he
    cases he
theorem cell_lt {W : World} {a : Addr} {v : Value} (h : W.cell? a = some v) : a.block < W.heap.size := by
 unfold World.cell? at h
 split at h
 ·
  rename_i hb
  exact (Array.getElem?_eq_some_iff.1 hb).1
 · cases h
theorem Opens.slice {α : Type} {P : Program} {t el : TypeId} {e : α → T} {ok : α → Prop} {k : Nat} (ht : P.underlying t = some (.slice el)) (hd : Opens P el e ok) (hs : P.cellsOf el = k) (hk : 0 < k) (hw : ∀ x, (e x).width = k) :
 Opens P t (fun l => .sl (l.map e) []) (okL ok) := by
 intro H enc W base spare held fuel cs y h
 rcases Deep.open_slice ht h with ⟨rfl, _⟩ | ⟨a, len, cap, m, n, D, Pl, rfl, hb, hl, hm, hme, _, hel⟩
 · exact ⟨[], .one .empty, Nat.zero_le _, fun x hx => by simp at hx⟩
 ·
  have hlm : len ≤ m := by rw [hme]; split <;> omega
  have hx : ∀ i, i < len → ∃ x, ok x ∧ ∃ cs', W.cells? base (a.add (i * k)) k = some cs' ∧ TellsL W cs' (e x).cells := by
   intro i hi
   obtain ⟨cs', h1, h2⟩ := hel i (by omega)
   obtain ⟨x, hk, ho⟩ := hd H enc W base spare held n cs' _ h2
   rw [hs] at h1
   exact ⟨x, ho, cs', h1, hk⟩
  obtain ⟨xs, rfl, hxs⟩ := list_of_index len hx
  have hcell : ∀ (i : Nat) x, xs[i]? = some x → ∀ (j : Nat) u, (e x).cells[j]? = some u → ∃ v, W.cell? (a.add (i * k + j)) = some v ∧ ShV W (lowA W) v u := by
   intro i x hi j u hu
   obtain ⟨_, cs', h1, h2⟩ := hxs i x hi
   obtain ⟨v, h3, h4⟩ := h2.2 j u hu
   refine ⟨v, ?_, h4⟩
   unfold World.cells? at h1
   split at h1
   ·
    have hj : j < k := by
     have := (List.getElem?_eq_some_iff.1 hu).1
     have hw' := hw x
     unfold T.width at hw'
     omega
    have := mapM_some_get h1 j j (by rw [List.getElem?_range hj])
    rw [Addr.add_add] at this
    rw [this]
    exact h3
   · cases h1
  refine ⟨xs, ?_, Nat.le_trans hl hm, fun x hx' => ?_⟩
  ·
   refine .one ?_
   cases xs with
   | nil => exact .empty
   | cons x0 xr =>
    have h00 : ∃ u0, (e x0).cells[0]? = some u0 := by
     have := hw x0
     unfold T.width at this
     exact ⟨_, List.getElem?_eq_getElem (by omega)⟩
    obtain ⟨u0, hu0⟩ := h00
    obtain ⟨v0, hv0, _⟩ := hcell 0 x0 rfl 0 u0 hu0
    have hsp : a.spot = none := by simpa [Addr.add] using World.cell?_spot hv0
    have hlt : a.block < W.heap.size := by simpa [Addr.add] using cell_lt hv0
    obtain ⟨b, off, spot⟩ := a
    simp only at hsp hlt
    subst hsp
    generalize hxe : x0 :: xr = xs at hcell hl ⊢
    have hlen : xs.length = (xs.map e).length := by simp
    rw [hlen]
    refine .sl (k := k) (cs := fun i j => (W.cell? ⟨b, off + i * k + j, none⟩).getD .nilIface) hlt (by simpa using hl) (fun i x hi => ?_) (fun i x hi j u hu => ?_) (fun i x hi j u hu => ?_)
    ·
     simp only [List.getElem?_map, Option.map_eq_some_iff] at hi
     obtain ⟨x', _, rfl⟩ := hi
     exact hw x'
    ·
     simp only [List.getElem?_map, Option.map_eq_some_iff] at hi
     obtain ⟨x', hi, rfl⟩ := hi
     obtain ⟨v, h1, _⟩ := hcell i x' hi j u hu
     have : (Addr.mk b off none).add (i * k + j) = ⟨b, off + i * k + j, none⟩ := by simp [Addr.add, Nat.add_assoc]
     rw [this] at h1
     rw [h1]; rfl
    ·
     simp only [List.getElem?_map, Option.map_eq_some_iff] at hi
     obtain ⟨x', hi, rfl⟩ := hi
     obtain ⟨v, h1, h2⟩ := hcell i x' hi j u hu
     have : (Addr.mk b off none).add (i * k + j) = ⟨b, off + i * k + j, none⟩ := by simp [Addr.add, Nat.add_assoc]
     rw [this] at h1
     rw [h1]; exact h2
  ·
   obtain ⟨i, hi, rfl⟩ := List.getElem_of_mem hx'
   exact (hxs i _ (List.getElem?_eq_getElem hi)).1
theorem trod_fields {H : Type} {enc : TypeId × Value → H} {P : Program} {W : World} {base : Nat} {spare : Nat → Bool} {held : Bool} {fuel : Nat} {t : TypeId} {cs : List Value} {y : DataW H × List MemPlace} {fs : Array Field}
 (ht : P.underlying t = some (.struct fs)) (h : DataW.trod enc P W base spare held fuel t cs = some y) :
 cs.length = P.cellsOf t ∧ ∃ n, ∀ (i : Nat) (f : Field), fs[i]? = some f → ∃ z, DataW.trod enc P W base spare held n f.type ((cs.drop f.offset).take (P.cellsOf f.type)) = some z := by
 obtain ⟨xs, n, _, _, hl, hsz, hf⟩ := DataW.trod_struct ht h
 refine ⟨hl, n, fun i f hi => ?_⟩
 have h1 := hf i f hi
 have h2 : i < xs.length := by
  rw [hsz]
  exact (Array.getElem?_eq_some_iff.1 hi).1
 rw [List.getElem?_eq_getElem h2] at h1
 exact ⟨_, h1⟩
section
variable {w : World} {g : Nat → Option Nat} {look : Nat → Ob} {N : Nat → Prop}
theorem frC_of_sh {v : Value} {u : T} (h : ShV w N v u) : FrC w g look N v u := by
 cases h with
 | sc h => exact ⟨rfl, h⟩
 | empty => exact ⟨⟨_, _, rfl, Nat.zero_le _, .inl rfl⟩, fun p hp => by simp at hp, fun _ => .empty⟩
 | @sl b off cap k xs cs hA hl hw hc hv => exact ⟨⟨_, _, rfl, hl, .inr ⟨b, off, rfl⟩⟩, fun p hp => by simp at hp, fun _ => (ShV.sl hA hl hw hc hv).mono fun b hb => ⟨.inl hb, rfl⟩⟩
theorem frV_agg {cs : Array Value} {us : List T} (h : TellsL w cs.toList us) (hN : N = lowA w) : FrV w g look N (.agg cs) (.agg us) := by
 subst hN
 refine ⟨cs, rfl, by rw [← h.1]; simp, fun i c hc => ?_⟩
 obtain ⟨v, h1, h2⟩ := h.2 i c hc
 exact ⟨v, by simpa using h1, frC_of_sh h2⟩
end
def Args (W : World) (vs : Array Value) (ts : List T) : Prop := vs.size = ts.length ∧ ∀ (i : Nat) t, ts[i]? = some t → ∃ v, vs[i]? = some v ∧ FrV W (fun _ => none) (lookOf []) (lowA W) v t
theorem Args.nil {W : World} : Args W #[] [] := ⟨rfl, fun i t h => by simp at h⟩
theorem Args.cons {W : World} {v : Value} {vs : List Value} {t : T} {ts : List T} (h1 : FrV W (fun _ => none) (lookOf []) (lowA W) v t) (ih : Args W vs.toArray ts) : Args W (v :: vs).toArray (t :: ts) := by
 refine ⟨by simpa using ih.1, fun i t ht => ?_⟩
 cases i with
 | zero => simp at ht; subst ht; exact ⟨_, by simp, h1⟩
 | succ i =>
  obtain ⟨v, h2, h3⟩ := ih.2 i t (by simpa using ht)
  exact ⟨v, by simpa using h2, h3⟩
theorem isGlob_mem {P : Program} {b : Nat} (h : isGlob P b = true) : ∃ x, P.globals[b]? = some x ∧ (x.name == "strconv.ErrSyntax" || x.name == "strconv.ErrRange") = true := by
 unfold isGlob at h
 split at h
 · rename_i x hx; exact ⟨x, hx, h⟩
 · cases h
theorem law_calls {P : Program} {C : Cert} {prim : FuncId → Option (List T → List Ob → Option (T × List Ob))} (hm : P.follows .mixedOrders = true) (hn : P.funcs.all (fun fn => fn.name != "runtime.NumGoroutine") = true) (hp : PrimOk P prim)
 {f : FuncId} {ts : List T} {W : World} {vs : Array Value} (hv : Args W vs ts) (hg : GlobOk P W (lowA W)) (h : callT P C prim f ts [] = some (.sc (.bool true), [])) :
 Calls P f vs W fun e W' => e = .returned (.bool true) ∧ Below W.heap.size W W' := by
 obtain ⟨n, hn'⟩ := callT_some.1 h
 have hc := (callF_ok hm hn hp n f ts [] _ _ hn').2
 have hE : Ent W (fun _ => none) (lowA W) [] ts vs := ⟨hv.1, hv.2, fun j hj => by simp at hj, fun o => fun ha => by simp [lookOf, Ob.gone] at ha, fun o o' b h => by have := h.1; simp [lookOf, Ob.gone] at this, fun o b ha => by simp [lookOf, Ob.gone] at ha, fun b hb => hb⟩
 refine (hc W _ _ vs hE hg).mono ?_
 rintro e W' ⟨v, g', rfl, X⟩
 obtain ⟨rfl, _⟩ := frV_sc X.val
 exact ⟨rfl, X.os, X.tape, X.output, X.hsz, fun b hb => X.keep b hb fun ⟨o, ho, _⟩ => by have := ho.1; simp [lookOf, Ob.gone] at this⟩
end Go.Proofs.YtmjmoagmolgacaaGreatDoor.PM
namespace Go.Proofs.YtmjmoagmolgacaaGreatDoor.PM
open Go
def Ev {α : Type} (g : Nat → Option α) (r : α) : Prop := ∃ K, ∀ k, K ≤ k → g k = some r
theorem Ev.ret {α : Type} (r : α) : Ev (fun _ => some r) r := ⟨0, fun _ _ => rfl⟩
theorem Ev.ret' {α : Type} {r r' : α} (h : r' = r) : Ev (fun _ => some r') r := by rw [h]; exact Ev.ret r
theorem Ev.pos {α : Type} {c : Prop} [Decidable c] {g f : Nat → Option α} {r : α} (h : c) (e : Ev g r) : Ev (fun k => if c then g k else f k) r := by
 obtain ⟨K, e⟩ := e
 exact ⟨K, fun k hk => by simp only [if_pos h]; exact e k hk⟩
theorem Ev.neg {α : Type} {c : Prop} [Decidable c] {g f : Nat → Option α} {r : α} (h : ¬ c) (e : Ev f r) : Ev (fun k => if c then g k else f k) r := by
 obtain ⟨K, e⟩ := e
 exact ⟨K, fun k hk => by simp only [if_neg h]; exact e k hk⟩
theorem Ev.ite {α : Type} {c : Prop} [Decidable c] {g f : Nat → Option α} {r : α} (h1 : c → Ev g r) (h2 : ¬ c → Ev f r) : Ev (fun k => if c then g k else f k) r := by
 by_cases h : c
 · exact Ev.pos h (h1 h)
 · exact Ev.neg h (h2 h)
theorem Ev.bind {α β : Type} {x : Nat → Option α} {f : Nat → α → Option β} {a : α} {r : β} (h : Ev x a) (k : Ev (fun n => f n a) r) : Ev (fun n => (x n).bind (f n)) r := by
 obtain ⟨K, h⟩ := h
 obtain ⟨L, k⟩ := k
 exact ⟨max K L, fun n hn => by show (x n).bind (f n) = _; rw [h n (by omega)]; exact k n (by omega)⟩
theorem Ev.step {α : Type} {g f : Nat → Option α} {r : α} (h : ∀ k, g (k + 1) = f k) (e : Ev f r) : Ev g r := by
 obtain ⟨K, e⟩ := e
 refine ⟨K + 1, fun k hk => ?_⟩
 obtain ⟨k, rfl⟩ : ∃ q, k = q + 1 := ⟨k - 1, by omega⟩
 rw [h]; exact e k (by omega)
theorem Ev.eq {α : Type} {g : Nat → Option α} {r r' : α} (e : Ev g r') (h : r' = r) : Ev g r := by rw [← h]; exact e
theorem Ev.val {α : Type} {g : Nat → Option α} {r : α} (e : Ev g r) : ∃ k, g k = some r := ⟨_, e.choose_spec _ (Nat.le_refl _)⟩
theorem Ev.plus {α : Type} {g : Nat → Option α} {r : α} (m : Nat) (h : ∀ k, g (k + m) = some r) : Ev g r := ⟨m, fun k hk => by have := h (k - m); rwa [show k - m + m = k by omega] at this⟩
def allFrom (p : Nat → Bool) (i n : Nat) : Bool := (List.range' i (n - i)).all p
theorem allFrom_end (p : Nat → Bool) {i n : Nat} (h : n ≤ i) : allFrom p i n = true := by
 unfold allFrom
 rw [Nat.sub_eq_zero_of_le h]
 rfl
theorem allFrom_step (p : Nat → Bool) {i n : Nat} (h : i < n) : allFrom p i n = (p i && allFrom p (i + 1) n) := by
 unfold allFrom
 obtain ⟨d, hd⟩ : ∃ d, n - i = d + 1 := ⟨n - i - 1, by omega⟩
 rw [hd, show n - (i + 1) = d from by omega, List.range'_succ, List.all_cons]
theorem allFrom_iff (p : Nat → Bool) (i n : Nat) : allFrom p i n = true ↔ ∀ j, i ≤ j → j < n → p j = true := by
 unfold allFrom
 rw [List.all_eq_true]
 constructor
 ·
  intro h j h1 h2
  exact h j (List.mem_range'_1.2 ⟨h1, by omega⟩)
 ·
  intro h j hj
  have := List.mem_range'_1.1 hj
  exact h j (by omega) (by omega)
theorem at_nat {α : Type} [Inhabited α] (xs : List α) (i : Nat) (h : i < xs.length) : at' xs (i : Int) = xs[i] := (get_nat xs i h).symm
def anyFrom {α : Type} (p : α → Bool) (l : List α) (i : Nat) : Bool := (l.drop i).any p
theorem anyFrom_end {α : Type} (p : α → Bool) {l : List α} {i : Nat} (h : l.length ≤ i) : anyFrom p l i = false := by
 unfold anyFrom
 rw [List.drop_eq_nil_of_le h]
 rfl
theorem anyFrom_step {α : Type} (p : α → Bool) {l : List α} {i : Nat} (h : i < l.length) : anyFrom p l i = (p l[i] || anyFrom p l (i + 1)) := by
 unfold anyFrom
 rw [List.drop_eq_getElem_cons h, List.any_cons]
theorem fillL_step {α : Type} (z : α) (l : List α) (i : Nat) (h : i < l.length) : (l.take i ++ List.replicate (l.length - i) z).set i l[i] = l.take (i + 1) ++ List.replicate (l.length - (i + 1)) z := by
 have e : l.length - i = (l.length - (i + 1)) + 1 := by omega
 rw [e, List.replicate_succ, List.set_append_right _ _ (by rw [List.length_take]; omega), List.length_take, Nat.min_eq_left (by omega), Nat.sub_self, List.set_cons_zero, List.take_succ_eq_append_getElem h, List.append_assoc]
 rfl
theorem fill_length {α : Type} (z : α) (l : List α) (i : Nat) (h : i ≤ l.length) : (l.take i ++ List.replicate (l.length - i) z).length = l.length := by
 rw [List.length_append, List.length_take, List.length_replicate]
 omega
theorem fill_end {α : Type} (z : α) (l : List α) (i : Nat) (h : l.length ≤ i) : l.take i ++ List.replicate (l.length - i) z = l := by
 rw [List.take_of_length_le h, Nat.sub_eq_zero_of_le h, List.replicate_zero, List.append_nil]
theorem strEq_iff (a b : ByteArray) : strEq a b = true ↔ a = b := by
 unfold strEq
 rw [beq_iff_eq, ByteArray.toList_eq, ByteArray.toList_eq]
 exact ⟨fun h => ByteArray.ext (Array.toList_inj.1 h), fun h => by rw [h]⟩
theorem strEq_self (a : ByteArray) : strEq a a = true := (strEq_iff a a).2 rfl
end Go.Proofs.YtmjmoagmolgacaaGreatDoor.PM
namespace Go.Proofs.YtmjmoagmolgacaaGreatDoor.PM
open Go
def RowC (w : World) (k b : Nat) (c : Array Value) : Prop := ∃ E fr, w.heap[b]? = some (.cells c E fr) ∧ ∀ i, (i < c.size ∨ 2 ≤ k ∨ softOk = false) → w.frozen? ⟨b, i, none⟩ = false
theorem RowC.cell {w : World} {k b : Nat} {c : Array Value} (h : RowC w k b c) (q : Nat) : w.cell? ⟨b, q, none⟩ = c[q]? := by
 obtain ⟨E, fr, h, _⟩ := h
 simp [World.cell?, h]
theorem RowC.lt {w : World} {k b : Nat} {c : Array Value} (h : RowC w k b c) : b < w.heap.size := by
 obtain ⟨E, fr, h, _⟩ := h
 exact (Array.getElem?_eq_some_iff.1 h).1
theorem RowC.set {w : World} {k b : Nat} {c : Array Value} (h : RowC w k b c) (o : Nat) (vs : List Value) :
 ∃ c', RowC (w.setCells b o vs) k b c' ∧ c'.size = c.size ∧ (∀ q, q < o ∨ o + vs.length ≤ q → c'[q]? = c[q]?) ∧ ∀ q, q < vs.length → o + q < c.size → c'[o + q]? = vs[q]? := by
 obtain ⟨E, fr, h1, h2⟩ := h
 obtain ⟨c', h3, h4, h5, h6⟩ := heap_setCells_at b vs o w c h1
 exact ⟨c', ⟨E, fr, h3, fun i hi => by rw [World.frozen?_setCells]; exact h2 i (by rcases hi with hi | hi | hi; exact .inl (by omega); exact .inr (.inl (by omega)); exact .inr (.inr hi))⟩, h4, h5, h6⟩
theorem RowC.drew {w : World} {k b : Nat} {c : Array Value} (h : RowC w k b c) : RowC w.drew k b c := h
theorem callT_prim {P : Program} {C : Cert} {prim : FuncId → Option (List T → List Ob → Option (T × List Ob))} {f : FuncId} {d : List T → List Ob → Option (T × List Ob)} {args : List T} {objs : List Ob} {r : T × List Ob} (hp : prim f = some d) (h : d args objs = some r) : callT P C prim f args objs = some r :=
 callT_some.2 ⟨1, by simp only [callF, hp]; exact h⟩
structure Aside0 (p : Prop) : Prop where
 out : p
theorem run_clear_cells {P : Program} (w : World) (t e ty : TypeId) (z : Value) (ht : P.underlying t = some (.slice e)) (hv : ∀ w, (zeroValue e).run P w = .ok z w) (g o n c : Nat) (hn : 0 < n)
 (hc : ∀ q, q < (Builtin.zeroCells z.cells n).toList.length → (w.cell? ⟨g, o + q, none⟩).isSome = true) (hf : ∀ q, q < (Builtin.zeroCells z.cells n).toList.length → w.frozen? ⟨g, o + q, none⟩ = false) (h1 : ∀ v ∈ (Builtin.zeroCells z.cells n).toList, v.oneCell' = true) :
 (Builtin.clear_ #[t] ty #[.slice (some ⟨g, o, none⟩) n c]).run P w = .ok (.tuple #[]) (w.setCells g o (Builtin.zeroCells z.cells n).toList) := by
 have hst := run_storeCells_cells (P := P) g o (Builtin.zeroCells z.cells n).toList 0 w (fun q hq => by simpa using hc q hq) (fun q hq => by simpa using hf q hq) h1
 simp only [Nat.add_zero] at hst
 obtain ⟨m, rfl⟩ : ∃ m, n = m + 1 := ⟨n - 1, by omega⟩
 simp [Builtin.clear_, run_underlying ht, hv, hst]
def Ob.dead (x : Ob) : Ob := ⟨true, false, true, true, 0, x.k, x.xs⟩
theorem exi_row {w w' : World} {g : Nat → Option Nat} {N : Nat → Prop} {args : List T} {vs : Array Value} {x : Ob} {rest : List Ob} (H : Ent w g N (x :: rest) args vs) (hxa : x.alive = true) (hxm : x.may = true) (hrow : ∀ y ∈ rest, y.row = true) {b b' : Nat} (hb : g 0 = some b)
 {k cap : Nat} {ys : List T} {c' : Array Value} (hnew : b' = b ∨ w.heap.size ≤ b') (hR : RowC w' k b' c') (hcs : cap * k ≤ c'.size) (hyl : ys.length ≤ cap)
 (hy : ∀ (i : Nat) y, ys[i]? = some y → y.width = k ∧ ∀ (j : Nat) t, y.cells[j]? = some t → ∃ v, c'[i * k + j]? = some v ∧ ShV w N v t)
 (hkeep : ∀ q, q < w.heap.size → q ≠ b → w'.heap[q]? = w.heap[q]?) (hsz : w.heap.size ≤ w'.heap.size) (hos : w'.os = w.os) (htape : w'.tape = w.tape) (hout : w'.output = w.output) :
 Exi w g N (x :: rest) w' (fun o => if o = rest.length + 1 then some b' else g o) (x.dead :: (rest ++ [Ob.mkRow k ys])) (.slice (some ⟨b', 0, none⟩) ys.length cap) (.win (rest.length + 1) 0 ys.length) := by
 obtain ⟨L, hL⟩ : ∃ L, L = lookOf (x.dead :: (rest ++ [Ob.mkRow k ys])) := ⟨_, rfl⟩
 obtain ⟨G, hG⟩ : ∃ G : Nat → Option Nat, G = (fun o => if o = rest.length + 1 then some b' else g o) := ⟨_, rfl⟩
 have hgm : G (rest.length + 1) = some b' := by rw [hG]; exact if_pos rfl
 have hgr : ∀ q, q ≠ rest.length + 1 → G q = g q := fun q hq => by rw [hG]; exact if_neg hq
 have l0 : L 0 = x.dead := by rw [hL]; rfl
 have lm : L (rest.length + 1) = Ob.mkRow k ys := by rw [hL]; simp [lookOf]
 have lr : ∀ q, q < rest.length → L (q + 1) = lookOf (x :: rest) (q + 1) := fun q hq => by rw [hL]; simp [lookOf, List.getElem?_append_left hq]
 have lg : ∀ q, rest.length + 1 < q → L q = Ob.gone := fun q hq => by
  rw [hL]
  obtain ⟨q, rfl⟩ : ∃ p, q = p + 1 := ⟨q - 1, by omega⟩
  simp [lookOf]
  rw [List.getElem?_append_right (by omega), List.getElem?_eq_none (by simp; omega)]; rfl
 have hrr : ∀ q, q < rest.length → (lookOf (x :: rest) (q + 1)).row = true := fun q hq => by
  simp [lookOf, List.getElem?_eq_getElem hq]
  exact hrow _ (List.getElem_mem hq)
 have own0 : Own (lookOf (x :: rest)) 0 := ⟨hxa, hxm⟩
 have cases4 : ∀ q, q = 0 ∨ (∃ p, p < rest.length ∧ q = p + 1) ∨ q = rest.length + 1 ∨ rest.length + 1 < q := fun q => by
  by_cases h0 : q = 0
  · exact .inl h0
  ·
   by_cases h1 : q < rest.length + 1
   · exact .inr (.inl ⟨q - 1, by omega, by omega⟩)
   · omega
 have hbs := H.blk 0 b hxa hb
 have hbn : ¬ N b := by have := hbs.2; rwa [show (lookOf (x :: rest) 0).may = true from hxm, if_pos rfl] at this
 have notown : ∀ q, rest.length + 1 < q ∨ q = 0 → ¬ Own L q := fun q hq h => by
  have := h.1
  rcases hq with hq | rfl
  · rw [lg q hq] at this; simp [Ob.gone] at this
  · rw [l0] at this; simp [Ob.dead] at this
 have nn : ∀ q, N q → NN (cxOf w g N (x :: rest)) w' G L q ∧ w'.heap[q]? = w.heap[q]? := fun q hq => by
  have hq1 := H.n q hq
  have hqb : q ≠ b := fun e => hbn (e ▸ hq)
  refine ⟨⟨Nat.lt_of_lt_of_le hq1 hsz, .inl hq, fun o ho => ?_⟩, hkeep q hq1 hqb⟩
  rcases cases4 o with rfl | ⟨p, hp, rfl⟩ | rfl | h4
  · exact absurd ho (notown 0 (.inr rfl))
  ·
   rw [hgr _ (by omega)]
   intro he
   unfold Own at ho
   rw [lr p hp] at ho
   have := (H.blk (p + 1) q ho.1 he).2
   rw [if_pos ho.2] at this
   exact this hq
  ·
   rw [hgm]
   intro he
   obtain rfl := Option.some.inj he
   rcases hnew with h | h
   · exact hqb h
   · omega
  · exact absurd ho (notown o (.inl h4))
 have blkr : ∀ p, p < rest.length → ∀ q, (lookOf (x :: rest) (p + 1)).alive = true → g (p + 1) = some q → q < w.heap.size ∧ q ≠ b := fun p hp q ha hq => by
  obtain ⟨h1, h2⟩ := H.blk (p + 1) q ha hq
  refine ⟨h1, fun e => ?_⟩
  subst e
  by_cases hm : (lookOf (x :: rest) (p + 1)).may = true
  ·
   have := H.inj (p + 1) 0 q ⟨ha, hm⟩ own0 hq hb
   omega
  ·
   rw [if_neg hm] at h2
   exact hbn h2
 have hcz : csz w' b' = c'.size := by obtain ⟨E, fr, h, _⟩ := hR; simp [csz, h]
 rw [← hG]
 refine ⟨?_, fun o => ?_, fun o o' q h1 h2 h3 h4 => ?_, fun o q ha hg => ?_, fun q hq hn => hkeep q hq fun e => hn ⟨0, own0, e ▸ hb⟩, hsz, hos, htape, hout, fun j hj => ?_⟩
 ·
  rw [← hL]
  show WinV w' _ L (rest.length + 1) 0 ys.length _
  refine ⟨by rw [lm], ⟨_, _, rfl, hyl, .inr ⟨_, _, rfl⟩⟩, fun _ => ⟨_, cap, rfl, hyl, .inr ⟨b', hgm, by rw [Nat.zero_mul], by rw [lm, hcz]; simpa using hcs⟩⟩⟩
 ·
  rw [← hL]
  rcases cases4 o with rfl | ⟨p, hp, rfl⟩ | rfl | h4
  · intro ha; rw [l0] at ha; simp [Ob.dead] at ha
  ·
   intro ha
   rw [lr p hp] at ha ⊢
   obtain ⟨h1, h2⟩ := H.rt (p + 1) ha
   refine ⟨h1, ?_⟩
   rw [hgr _ (by omega)]
   cases hg : g (p + 1) with
   | none => rw [hg] at h2; exact h2
   | some q =>
    rw [hg] at h2
    obtain ⟨c, E, fr, h3, h4, h5⟩ := h2
    obtain ⟨h6, h7⟩ := blkr p hp q ha hg
    have h8 := hkeep q h6 h7
    refine ⟨c, E, fr, h8.trans h3, fun i hi => by rw [show w'.frozen? ⟨q, i, none⟩ = w.frozen? ⟨q, i, none⟩ by simp only [World.frozen?, h8]]; exact h4 i hi, fun i y hy => ⟨(h5 i y hy).1, fun j t ht => ?_⟩⟩
    obtain ⟨v, h9, h10⟩ := (h5 i y hy).2 j t ht
    rw [CellV, hrr p hp, if_pos rfl] at h10
    refine ⟨v, h9, ?_⟩
    rw [CellV, hrr p hp, if_pos rfl]
    exact h10.mono nn
  ·
   intro _
   rw [lm]
   refine ⟨rfl, ?_⟩
   rw [hgm]
   obtain ⟨E, fr, h1, h2⟩ := hR
   refine ⟨c', E, fr, h1, h2, fun i y hyy => ⟨(hy i y hyy).1, fun j t ht => ?_⟩⟩
   obtain ⟨v, h3, h4⟩ := (hy i y hyy).2 j t ht
   exact ⟨v, h3, by rw [CellV, if_pos rfl]; exact h4.mono nn⟩
  · intro ha; rw [lg o h4] at ha; simp [Ob.gone] at ha
 ·
  rw [← hL] at h1 h2
  have key : ∀ p q, p < rest.length → Own L (p + 1) → g (p + 1) = some q → q ≠ b' := fun p q hp ho hg e => by
   unfold Own at ho
   rw [lr p hp] at ho
   obtain ⟨h5, h6⟩ := blkr p hp q ho.1 hg
   rcases hnew with h | h
   · exact h6 (e.trans h)
   · omega
  rcases cases4 o with rfl | ⟨p, hp, rfl⟩ | rfl | h5
  · exact absurd h1 (notown 0 (.inr rfl))
  ·
   rw [hgr _ (by omega)] at h3
   rcases cases4 o' with rfl | ⟨p', hp', rfl⟩ | rfl | h6
   · exact absurd h2 (notown 0 (.inr rfl))
   ·
    rw [hgr _ (by omega)] at h4
    unfold Own at h1 h2
    rw [lr p hp] at h1
    rw [lr p' hp'] at h2
    exact H.inj _ _ q h1 h2 h3 h4
   ·
    rw [hgm] at h4
    exact absurd (Option.some.inj h4).symm (key p q hp h1 h3)
   · exact absurd h2 (notown o' (.inl h6))
  ·
   rw [hgm] at h3
   rcases cases4 o' with rfl | ⟨p', hp', rfl⟩ | rfl | h6
   · exact absurd h2 (notown 0 (.inr rfl))
   ·
    rw [hgr _ (by omega)] at h4
    exact absurd (Option.some.inj h3).symm (key p' q hp' h2 h4)
   · rfl
   · exact absurd h2 (notown o' (.inl h6))
  · exact absurd h1 (notown o (.inl h5))
 ·
  rw [← hL] at ha ⊢
  rcases cases4 o with rfl | ⟨p, hp, rfl⟩ | rfl | h4
  · rw [l0] at ha; simp [Ob.dead] at ha
  ·
   rw [hgr _ (by omega)] at hg
   rw [lr p hp] at ha ⊢
   obtain ⟨h1, h2⟩ := H.blk (p + 1) q ha hg
   refine ⟨Nat.lt_of_lt_of_le h1 hsz, ?_⟩
   split
   ·
    rename_i hm
    exact .inr ⟨p + 1, ⟨ha, hm⟩, hg⟩
   ·
    rename_i hm
    rw [if_neg hm] at h2
    exact (nn q h2).1
  ·
   rw [hgm] at hg
   obtain rfl := Option.some.inj hg
   refine ⟨hR.lt, ?_⟩
   rw [lm, if_pos rfl]
   rcases hnew with h | h
   · exact .inr ⟨0, own0, h ▸ hb⟩
   · exact .inl h
  · rw [lg o h4] at ha; simp [Ob.gone] at ha
 ·
  rw [← hL]
  rcases cases4 j with rfl | ⟨p, hp, rfl⟩ | rfl | h4
  · rw [l0]; exact ⟨rfl, fun ha => by simp [Ob.dead] at ha⟩
  ·
   rw [lr p hp]
   refine ⟨H.born _ (by simp; omega), fun ha => ⟨ha, rfl, hgr _ (by omega), fun q hq => ?_⟩⟩
   obtain ⟨h6, h7⟩ := blkr p hp q ha hq
   simp [csz, hkeep q h6 h7]
  · simp at hj
  · simp at hj; omega
theorem run_copyC {P : Program} (w : World) (dT sT ty elem : TypeId) (size : Nat) (g o dLen dCap : Nat) (a : Addr) (sLen sCap : Nat) (cs : List Value)
 (hu : P.underlying dT = some (.slice elem)) (hs : (P.info? elem).map (·.size) = some size) (hn : cs.length = Nat.min sLen dLen * size)
 (hsrc : ∀ j v, cs[j]? = some v → w.cell? (a.add j) = some v) (hc : ∀ q, q < cs.length → (w.cell? ⟨g, o + q, none⟩).isSome = true) (hf : ∀ q, q < cs.length → w.frozen? ⟨g, o + q, none⟩ = false) (h1 : ∀ v ∈ cs, v.oneCell' = true) :
 (Builtin.copy_ #[dT, sT] ty #[.slice (some ⟨g, o, none⟩) dLen dCap, .slice (some a) sLen sCap]).run P w = .ok (goInt (Nat.min sLen dLen)) (w.setCells g o cs) := by
 have hl := run_loadCells_list (P := P) w a cs hsrc
 have hst := run_storeCells_cells (P := P) g o cs 0 w (fun q hq => by simpa using hc q hq) (fun q hq => by simpa using hf q hq) h1
 simp only [Nat.add_zero] at hst
 cases hq : P.info? elem with
 | none => simp [hq] at hs
 | some i =>
  have hi : i.size = size := by simpa [hq] using hs
  simp [Builtin.copy_, run_underlying hu, Builtin.lenOf, Builtin.firstCells, sizeOf, typeInfo, hq, hi, ← hn, hl, hst]
structure InsR (w w' : World) (k b i n : Nat) (C : Array Value) (vs : List Value) (b' cap' : Nat) (C' : Array Value) : Prop where
 row : RowC w' k b' C'
 cap : cap' * k ≤ C'.size
 len : n + 1 ≤ cap'
 new : b' = b ∨ w.heap.size ≤ b'
 lo : ∀ q, q < i * k → C'[q]? = C[q]?
 mid : ∀ q, q < k → C'[i * k + q]? = vs[q]?
 hi : ∀ q, i * k ≤ q → q < n * k → C'[q + k]? = C[q]?
 keep : ∀ q, q < w.heap.size → q ≠ b → w'.heap[q]? = w.heap[q]?
 size : w.heap.size ≤ w'.heap.size
 os : w'.os = w.os
 tape : w'.tape = w.tape
 output : w'.output = w.output
def delD (k : Nat) : List T → List Ob → Option (T × List Ob)
 | [.win 0 0 n, .sc (.int .i64 i), .sc (.int .i64 j)], [x] =>
  if x.alive && x.may && x.row && x.k == k && decide (0 ≤ i ∧ j = i + 1 ∧ j ≤ n ∧ n = x.xs.length) then some (.win 1 0 (n - 1), [x.dead, Ob.mkRow k (x.xs.take i.toNat ++ x.xs.drop (i.toNat + 1))]) else none
 | _, _ => none
theorem row_open {w : World} {g : Nat → Option Nat} {N : Nat → Prop} {objs : List Ob} {args : List T} {vs : Array Value} (H : Ent w g N objs args vs) {o n : Nat} {x : Ob} (hx : lookOf objs o = x) (ha : x.alive = true) (hr : x.row = true) (hn : n = x.xs.length) {v : Value} (hv : FrV w g (lookOf objs) N v (.win o 0 n)) (h0 : 0 < n) :
 ∃ b cap C, g o = some b ∧ v = .slice (some ⟨b, 0, none⟩) n cap ∧ n ≤ cap ∧ RowC w x.k b C ∧ cap * x.k ≤ C.size ∧ ∀ (i : Nat) y, x.xs[i]? = some y → y.width = x.k ∧ ∀ (j : Nat) t, y.cells[j]? = some t → ∃ v, C[i * x.k + j]? = some v ∧ ShV w N v t := by
 obtain ⟨_, _, hal⟩ := hv
 rw [hx] at hal
 obtain ⟨a, cap, rfl, hle, hor⟩ := hal ha
 rcases hor with rfl | ⟨b, hgb, rfl, hsz⟩
 · omega
 ·
  have hrt := H.rt o
  unfold RootV at hrt
  rw [hx] at hrt
  obtain ⟨_, h2⟩ := hrt ha
  rw [hgb] at h2
  obtain ⟨C, E, fr, hh, hfr, hxs⟩ := h2
  have hcz : csz w b = C.size := by simp [csz, hh]
  rw [Nat.zero_add, hcz] at hsz
  refine ⟨b, cap, C, hgb, by rw [Nat.zero_mul], hle, ⟨E, fr, hh, hfr⟩, hsz, fun i y hy => ⟨(hxs i y hy).1, fun j t ht => ?_⟩⟩
  obtain ⟨v, h3, h4⟩ := (hxs i y hy).2 j t ht
  rw [CellV, hr, if_pos rfl] at h4
  exact ⟨v, h3, h4⟩
theorem row_one {w : World} {N : Nat → Prop} {C : Array Value} {k : Nat} (hk : 0 < k) {xs : List T} (h : ∀ (i : Nat) y, xs[i]? = some y → y.width = k ∧ ∀ (j : Nat) t, y.cells[j]? = some t → ∃ v, C[i * k + j]? = some v ∧ ShV w N v t) :
 ∀ q u, q < xs.length * k → C[q]? = some u → u.oneCell' = true := fun q u hq hu => by
 have h1 : q / k < xs.length := Nat.div_lt_of_lt_mul (by rwa [Nat.mul_comm])
 obtain ⟨h2, h3⟩ := h (q / k) _ (List.getElem?_eq_getElem h1)
 have h4 : q % k < k := Nat.mod_lt _ hk
 unfold T.width at h2
 obtain ⟨v, h5, h6⟩ := h3 (q % k) _ (List.getElem?_eq_getElem (by omega))
 rw [Nat.mul_comm, Nat.div_add_mod, hu] at h5
 obtain rfl := Option.some.inj h5
 exact h6.one
theorem del_ok {P : Program} {f : FuncId} {k : Nat} (hk : 0 < k) {zs : List Value} (hf : FnOk P f)
 (hc : ∀ (g c i n : Nat) (C : Array Value) (w : World), RowC w k g C → c * k ≤ C.size → n ≤ c → i + 1 ≤ n → (∀ q u, q < n * k → C[q]? = some u → u.oneCell' = true) →
  Calls P f #[.slice (some ⟨g, 0, none⟩) n c, .int .i64 i, .int .i64 ((i + 1 : Nat) : Int)] w fun e w' => e = .returned (.slice (some ⟨g, 0, none⟩) (n - 1) c) ∧ w' = (w.drew.setCells g (i * k) ((C.toList.take (n * k)).drop ((i + 1) * k))).setCells g ((n - 1) * k) zs)
 {args : List T} {objs : List Ob} {r : T} {objs' : List Ob} (h : delD k args objs = some (r, objs')) : FnOk P f ∧ CallOk P f args objs r objs' := by
 unfold delD at h
 split at h
 ·
  rename_i n i j x
  split at h
  ·
   rename_i hg
   simp only [Option.some.injEq, Prod.mk.injEq] at h
   obtain ⟨rfl, rfl⟩ := h
   simp only [Bool.and_eq_true, beq_iff_eq, decide_eq_true_eq] at hg
   obtain ⟨⟨⟨⟨ha, hm⟩, hr⟩, hxk⟩, h0, hj, hjn, hn⟩ := hg
   obtain ⟨i, rfl⟩ : ∃ q : Nat, i = (q : Int) := ⟨i.toNat, by omega⟩
   refine ⟨hf, fun w g N vs H _ => ?_⟩
   obtain ⟨v0, e0, f0⟩ := H.args 0 _ rfl
   obtain ⟨v1, e1, f1⟩ := H.args 1 _ rfl
   obtain ⟨v2, e2, f2⟩ := H.args 2 _ rfl
   obtain ⟨rfl, _⟩ := frV_sc f1
   obtain ⟨rfl, _⟩ := frV_sc f2
   obtain ⟨b, cap, C, hgb, rfl, hle, hR, hcap, hel⟩ := row_open H (o := 0) (x := x) rfl ha hr hn f0 (by omega)
   rw [hxk] at hcap hel hR
   have hs := H.size
   obtain rfl : vs = #[.slice (some ⟨b, 0, none⟩) n cap, .int .i64 i, .int .i64 j] := by
    apply Array.ext_getElem?
    intro q
    match q with
    | 0 => simpa using e0
    | 1 => simpa using e1
    | 2 => simpa using e2
    | q + 3 => rw [Array.getElem?_eq_none (by rw [hs]; simp), Array.getElem?_eq_none (by simp)]
   obtain rfl : j = ((i + 1 : Nat) : Int) := by omega
   have hon := row_one hk hel
   rw [← hn] at hon
   refine (hc b cap i n C w hR hcap hle (by omega) hon).mono ?_
   rintro e w' ⟨rfl, rfl⟩
   have hC : C.toList.length = C.size := Array.length_toList
   have hnk : n * k ≤ C.size := Nat.le_trans (Nat.mul_le_mul_right k hle) hcap
   have hik : (i + 1) * k ≤ n * k := Nat.mul_le_mul_right k (by omega)
   have hn1 : (n - 1) * k ≤ n * k := Nat.mul_le_mul_right k (by omega)
   have hn2 : (i + 1) * k = i * k + k := Nat.succ_mul i k
   have hdl : ((C.toList.take (n * k)).drop ((i + 1) * k)).length = n * k - (i + 1) * k := by rw [List.length_drop, List.length_take]; omega
   obtain ⟨C1, hR1, hs1, ho1, hi1⟩ := hR.drew.set (i * k) ((C.toList.take (n * k)).drop ((i + 1) * k))
   obtain ⟨C2, hR2, hs2, ho2, hi2⟩ := hR1.set ((n - 1) * k) zs
   have hlen : (x.xs.take i ++ x.xs.drop (i + 1)).length = n - 1 := by rw [List.length_append, List.length_take, List.length_drop]; omega
   refine ⟨_, fun o => if o = ([] : List Ob).length + 1 then some b else g o, rfl, ?_⟩
   have := exi_row (b := b) (b' := b) (k := k) (cap := cap) (ys := x.xs.take i ++ x.xs.drop (i + 1)) (c' := C2) H ha hm (fun y hy => by simp at hy) hgb (.inl rfl) hR2 (by rw [hs2, hs1]; exact hcap) (by omega) (fun q y hq => ?_) (fun q _ hq => ?_) ?_ ?_ ?_ ?_
   ·
    rw [hlen] at this
    exact this
   ·
    have hql : q < n - 1 := by have := (List.getElem?_eq_some_iff.1 hq).1; omega
    have main : ∃ p, x.xs[p]? = some y ∧ ∀ jj, jj < k → C2[q * k + jj]? = C[p * k + jj]? := by
     have hqk : (q + 1) * k ≤ (n - 1) * k := Nat.mul_le_mul_right k (by omega)
     have e1 : (q + 1) * k = q * k + k := Nat.succ_mul q k
     by_cases hqi : q < i
     ·
      rw [List.getElem?_append_left (by rw [List.length_take]; omega), List.getElem?_take_of_lt hqi] at hq
      refine ⟨q, hq, fun jj hjj => ?_⟩
      have : (q + 1) * k ≤ i * k := Nat.mul_le_mul_right k (by omega)
      rw [ho2 _ (.inl (by omega)), ho1 _ (.inl (by omega))]
     ·
      rw [List.getElem?_append_right (by rw [List.length_take]; omega), List.getElem?_drop, List.length_take, Nat.min_eq_left (by omega)] at hq
      refine ⟨i + 1 + (q - i), hq, fun jj hjj => ?_⟩
      obtain ⟨d, rfl⟩ : ∃ d, q = i + d := ⟨q - i, by omega⟩
      have e2 : (i + d) * k = i * k + d * k := Nat.add_mul i d k
      have e3 : (i + 1 + (i + d - i)) * k = (i + 1) * k + d * k := by rw [show i + d - i = d by omega, Nat.add_mul]
      have e4 : (d + 1) * k ≤ (n - (i + 1)) * k := Nat.mul_le_mul_right k (by omega)
      have e5 : (d + 1) * k = d * k + k := Nat.succ_mul d k
      have e6 : (n - (i + 1)) * k = n * k - (i + 1) * k := Nat.sub_mul n (i + 1) k
      rw [ho2 _ (.inl (by omega)), show (i + d) * k + jj = i * k + (d * k + jj) by omega, hi1 _ (by rw [hdl]; omega) (by show _ < C.size; omega), List.getElem?_drop, List.getElem?_take_of_lt (by omega)]
      rw [show (i + 1) * k + (d * k + jj) = (i + 1 + (i + d - i)) * k + jj by omega]
      simp
    obtain ⟨p, hp, hpc⟩ := main
    obtain ⟨h1, h2⟩ := hel p y hp
    refine ⟨h1, fun jj t ht => ?_⟩
    obtain ⟨v, h3, h4⟩ := h2 jj t ht
    have : jj < k := by rw [← h1]; exact (List.getElem?_eq_some_iff.1 ht).1
    exact ⟨v, by rw [hpc jj this]; exact h3, h4⟩
   · rw [heap_setCells_ne b _ _ _ hq, heap_setCells_ne b _ _ _ hq]; rfl
   · rw [heap_setCells_size, heap_setCells_size]; exact Nat.le_refl _
   · rw [World.os_setCells, World.os_setCells]; rfl
   · rw [tape_setCells, tape_setCells]; rfl
   · rw [World.output_setCells, World.output_setCells]; rfl
  · cases h
 · cases h
def insD (k by_ : Nat) : List T → List Ob → Option (T × List Ob)
 | [.win 0 0 n, .sc (.int .i64 i), .win 1 0 1], [⟨true, true, true, true, 0, k1, xs⟩, ⟨true, true, true, true, 0, k2, [y]⟩] =>
  if k1 == k && k2 == k && wid k xs && y.width == k && decide (0 ≤ i ∧ i ≤ n ∧ n = xs.length ∧ (n + 1) * by_ ≤ most ∧ n + 1 ≤ most) then
   some (.win 2 0 (n + 1), [⟨true, false, true, true, 0, k, xs⟩, Ob.mkRow k [y], Ob.mkRow k (xs.take i.toNat ++ y :: xs.drop i.toNat)]) else none
 | _, _ => none
theorem ins_ok {P : Program} {f : FuncId} {k by_ : Nat} (hk : 0 < k) (hf : FnOk P f)
 (hend : ∀ (xs : List T) (y : T), wid k xs = true → y.width = k → (xs.length + 1) * by_ ≤ most → xs.length + 1 ≤ most →
  CallOk P f [.win 0 0 xs.length, .sc (.int .i64 xs.length), .win 1 0 1] [Ob.mkRow k xs, Ob.mkRow k [y]] (.win 2 0 (xs.length + 1)) [⟨true, false, true, true, 0, k, xs⟩, Ob.mkRow k [y], Ob.mkRow k (xs ++ [y])])
 (hc : ∀ (g c i n : Nat) (C : Array Value) (vs : List Value) (vb vc : Nat) (V : Array Value) (w : World), RowC w k g C → c * k ≤ C.size → i < n → n ≤ c → (n + 1) * by_ ≤ most → (∀ q u, q < n * k → C[q]? = some u → u.oneCell' = true) →
  RowC w k vb V → (∀ (j : Nat) (u : Value), vs[j]? = some u → V[j]? = some u) → vs.length = k → (∀ u ∈ vs, u.oneCell' = true) → vb ≠ g →
  Calls P f #[.slice (some ⟨g, 0, none⟩) n c, .int .i64 i, .slice (some ⟨vb, 0, none⟩) 1 vc] w fun e w' => ∃ b' cap' C', e = .returned (.slice (some ⟨b', 0, none⟩) (n + 1) cap') ∧ InsR w w' k g i n C vs b' cap' C')
 {args : List T} {objs : List Ob} {r : T} {objs' : List Ob} (h : insD k by_ args objs = some (r, objs')) : FnOk P f ∧ CallOk P f args objs r objs' := by
 unfold insD at h
 split at h
 ·
  rename_i n i k1 xs k2 y
  split at h
  ·
   rename_i hg
   simp only [Option.some.injEq, Prod.mk.injEq] at h
   obtain ⟨rfl, rfl⟩ := h
   simp only [Bool.and_eq_true, beq_iff_eq, decide_eq_true_eq] at hg
   obtain ⟨⟨⟨⟨rfl, rfl⟩, hw⟩, hyw⟩, h0, hin, hn, hb1, hb2⟩ := hg
   refine ⟨hf, ?_⟩
   obtain ⟨i, rfl⟩ : ∃ q : Nat, i = (q : Int) := ⟨i.toNat, by omega⟩
   simp only [Int.toNat_natCast]
   by_cases hi : i = n
   ·
    subst hi
    subst hn
    have := hend xs y hw hyw hb1 hb2
    rw [List.take_of_length_le (Nat.le_refl _), List.drop_of_length_le (Nat.le_refl _)]
    exact this
   ·
    refine fun w g N vs H _ => ?_
    obtain ⟨v0, e0, f0⟩ := H.args 0 _ rfl
    obtain ⟨v1, e1, f1⟩ := H.args 1 _ rfl
    obtain ⟨v2, e2, f2⟩ := H.args 2 _ rfl
    obtain ⟨rfl, _⟩ := frV_sc f1
    obtain ⟨b, cap, C, hgb, rfl, hle, hR, hcap, hel⟩ := row_open H (o := 0) (x := Ob.mkRow k2 xs) rfl rfl rfl hn f0 (by omega)
    obtain ⟨b1, cap1, V, hgb1, rfl, hle1, hV, hcap1, hel1⟩ := row_open H (n := 1) (o := 1) (x := Ob.mkRow k2 [y]) rfl rfl rfl rfl f2 (by decide)
    have hs := H.size
    obtain rfl : vs = #[.slice (some ⟨b, 0, none⟩) n cap, .int .i64 i, .slice (some ⟨b1, 0, none⟩) 1 cap1] := by
     apply Array.ext_getElem?
     intro q
     match q with
     | 0 => simpa using e0
     | 1 => simpa using e1
     | 2 => simpa using e2
     | q + 3 => rw [Array.getElem?_eq_none (by rw [hs]; simp), Array.getElem?_eq_none (by simp)]
    have hne : b1 ≠ b := fun e => by
     have := H.inj 1 0 b ⟨rfl, rfl⟩ ⟨rfl, rfl⟩ (e ▸ hgb1) hgb
     omega
    have hon := row_one hk hel
    rw [show (Ob.mkRow k2 xs).xs = xs from rfl, ← hn] at hon
    have hon1 := row_one hk hel1
    have hV1 : k2 ≤ V.size := by
     have h1 : 1 * k2 ≤ cap1 * k2 := Nat.mul_le_mul_right k2 hle1
     have h2 : cap1 * k2 ≤ V.size := hcap1
     omega
    have hvl : V.toList.length = V.size := Array.length_toList
    have hvg : ∀ q, q < k2 → (V.toList.take k2)[q]? = V[q]? := fun q hq => by rw [List.getElem?_take_of_lt hq]; simp
    have hvk : (V.toList.take k2).length = k2 := by rw [List.length_take]; omega
    have hlt : ∀ {j : Nat} {u : Value}, (V.toList.take k2)[j]? = some u → j < k2 := fun hj => by have := (List.getElem?_eq_some_iff.1 hj).1; omega
    refine (hc b cap i n C (V.toList.take k2) b1 cap1 V w hR hcap (by omega) hle hb1 hon hV (fun j u hj => by rw [← hvg j (hlt hj)]; exact hj) hvk (fun u hu => by
     obtain ⟨q, hq⟩ := List.getElem?_of_mem hu
     have hq1 := hlt hq
     rw [hvg q hq1] at hq
     exact hon1 q u (by simpa using hq1) hq) hne).mono ?_
    rintro e w' ⟨b', cap', C', rfl, I⟩
    refine ⟨_, fun o => if o = [Ob.mkRow k2 [y]].length + 1 then some b' else g o, rfl, ?_⟩
    have hlen : (xs.take i ++ y :: xs.drop i).length = n + 1 := by rw [List.length_append, List.length_take, List.length_cons, List.length_drop]; omega
    have := exi_row (x := Ob.mkRow k2 xs) (rest := [Ob.mkRow k2 [y]]) (b := b) (b' := b') (k := k2) (cap := cap') (ys := xs.take i ++ y :: xs.drop i) (c' := C') H rfl rfl (fun z hz => by simp at hz; rw [hz]) hgb I.new I.row I.cap (by rw [hlen]; exact I.len) (fun q z hq => ?_) I.keep I.size I.os I.tape I.output
    ·
     rw [hlen] at this
     exact this
    ·
     have hql : q < n + 1 := by have := (List.getElem?_eq_some_iff.1 hq).1; omega
     by_cases hqi : q < i
     ·
      rw [List.getElem?_append_left (by rw [List.length_take]; omega), List.getElem?_take_of_lt hqi] at hq
      obtain ⟨h1, h2⟩ := hel q z hq
      have h1' : z.width = k2 := h1
      refine ⟨h1', fun j t ht => ?_⟩
      obtain ⟨v, h3, h4⟩ := h2 j t ht
      have hj : j < k2 := by rw [← h1']; exact (List.getElem?_eq_some_iff.1 ht).1
      have : (q + 1) * k2 ≤ i * k2 := Nat.mul_le_mul_right k2 (by omega)
      rw [Nat.succ_mul] at this
      exact ⟨v, by rw [I.lo _ (by omega)]; exact h3, h4⟩
     ·
      rw [List.getElem?_append_right (by rw [List.length_take]; omega), List.length_take, Nat.min_eq_left (by omega)] at hq
      by_cases hqe : q = i
      ·
       subst hqe
       rw [Nat.sub_self] at hq
       simp only [List.getElem?_cons_zero, Option.some.injEq] at hq
       subst hq
       refine ⟨hyw, fun j t ht => ?_⟩
       obtain ⟨v, h3, h4⟩ := (hel1 0 y rfl).2 j t ht
       have hj : j < k2 := by rw [← hyw]; exact (List.getElem?_eq_some_iff.1 ht).1
       have h3' : V[0 * k2 + j]? = some v := h3
       rw [Nat.zero_mul, Nat.zero_add] at h3'
       exact ⟨v, by rw [I.mid j hj, hvg j hj]; exact h3', h4⟩
      ·
       obtain ⟨d, rfl⟩ : ∃ d, q = i + d + 1 := ⟨q - i - 1, by omega⟩
       rw [show i + d + 1 - i = d + 1 by omega, List.getElem?_cons_succ, List.getElem?_drop] at hq
       obtain ⟨h1, h2⟩ := hel _ z hq
       have h1' : z.width = k2 := h1
       refine ⟨h1', fun j t ht => ?_⟩
       obtain ⟨v, h3, h4⟩ := h2 j t ht
       have h3' : C[(i + d) * k2 + j]? = some v := h3
       have hj : j < k2 := by rw [← h1']; exact (List.getElem?_eq_some_iff.1 ht).1
       have e1 : (i + d + 1) * k2 = (i + d) * k2 + k2 := Nat.succ_mul _ _
       have e2 : (i + d + 1) * k2 ≤ n * k2 := Nat.mul_le_mul_right k2 (by omega)
       have e3 : (i + d) * k2 = i * k2 + d * k2 := Nat.add_mul _ _ _
       exact ⟨v, by rw [show (i + d + 1) * k2 + j = (i + d) * k2 + j + k2 by omega, I.hi _ (by omega) (by omega)]; exact h3', h4⟩
  · cases h
 · cases h
theorem insD_eq (k by_ n : Nat) (i : Int) (xs : List T) (y : T) : insD k by_ [.win 0 0 n, .sc (.int .i64 i), .win 1 0 1] [Ob.mkRow k xs, Ob.mkRow k [y]] =
 if k == k && k == k && wid k xs && y.width == k && decide (0 ≤ i ∧ i ≤ n ∧ n = xs.length ∧ (n + 1) * by_ ≤ most ∧ n + 1 ≤ most) then
  some (.win 2 0 (n + 1), [⟨true, false, true, true, 0, k, xs⟩, Ob.mkRow k [y], Ob.mkRow k (xs.take i.toNat ++ y :: xs.drop i.toNat)]) else none := rfl
end Go.Proofs.YtmjmoagmolgacaaGreatDoor.PM
namespace Go.Proofs.YtmjmoagmolgacaaGreatDoor.P
open Go Go.Proofs.YtmjmoagmolgacaaGreatDoor.PM Go.Proofs Go.RowKit
theorem info_split {P : Program} {e : TypeId} {z : Value} {k b : Nat} (h : (P.info? e).map (fun i => (i.zero, i.size, i.bytes)) = some (some z, k, b)) : ∃ i, P.info? e = some i ∧ i.zero = some z ∧ i.size = k ∧ i.bytes = b := by
  cases hi : P.info? e with
  | none => rw [hi] at h; cases h
  | some i => rw [hi] at h; simp only [Option.map_some, Option.some.injEq, Prod.mk.injEq] at h; exact ⟨i, rfl, h.1, h.2.1, h.2.2⟩
theorem info_int64 : (Tryz.prog.info? 2).map (fun i => (i.zero, i.size, i.bytes)) = some (some (.int .i64 0), 1, 8) := by kernel_rfl
set_option maxHeartbeats 4000000 in
set_option maxRecDepth 100000 in
theorem delW_int64 (g c i n : Nat) (C : Array Value) (w : World) (hR : RowC w 1 g C) (hcap : c ≤ C.size) (hnc : n ≤ c) (hjn : i + 1 ≤ n) (h1c : ∀ q u, q < n → C[q]? = some u → u.oneCell' = true) :
    Calls Tryz.prog 38 #[.slice (some ⟨g, 0, none⟩) n c, .int .i64 i, .int .i64 ((i + 1 : Nat) : Int)] w fun e w' => e = .returned (.slice (some ⟨g, 0, none⟩) (n - 1) c) ∧
      w' = (w.drew.setCells g (i) ((C.toList.take (n)).drop ((i + 1)))).setCells g ((n - 1)) (Builtin.zeroCells (Value.cells (.int .i64 0)) 1).toList := by
  obtain ⟨j, hj⟩ : ∃ j, j = i + 1 := ⟨_, rfl⟩
  rw [← hj]
  have hu := Tryz.underlying24
  obtain ⟨i0, hi0, hz0, hzs, hzb⟩ := info_split info_int64
  have hC : C.toList.length = C.size := Array.length_toList
  obtain ⟨news, hnews⟩ : ∃ news, news = (C.toList.take (n)).drop (j) := ⟨_, rfl⟩
  have hdl : news.length = (n - j) := by rw [hnews, List.length_drop, List.length_take]; omega
  have hng : ∀ q u, news[q]? = some u → C[j + q]? = some u ∧ j + q < n := fun q u hq => by
    have hlt : q < news.length := (List.getElem?_eq_some_iff.1 hq).1
    rw [hnews, List.getElem?_drop, List.getElem?_take_of_lt (by omega)] at hq
    exact ⟨by simpa using hq, by omega⟩
  obtain ⟨A, hA, hsrc⟩ : ∃ A : Addr, (if c = j then some (⟨g, 0, none⟩ : Addr) else some ⟨g, j, none⟩) = some A ∧ Aside0 (∀ t u, news[t]? = some u → w.drew.cell? (A.add t) = some u) := by
    by_cases h : c = j
    · refine ⟨⟨g, 0, none⟩, by simp [h], ⟨fun t u hu => ?_⟩⟩
      have h0 : news.length = 0 := by rw [hdl]; omega
      rw [List.length_eq_zero_iff.1 h0] at hu
      simp at hu
    · refine ⟨⟨g, j, none⟩, by simp [h], ⟨fun t u hu => ?_⟩⟩
      rw [Addr.add_lit, hR.drew.cell]
      exact (hng t u hu).1
  have h1n : ∀ u ∈ news, u.oneCell' = true := fun u hu => by
    obtain ⟨q, hq⟩ := List.getElem?_of_mem hu
    obtain ⟨h1, h2⟩ := hng q u hq
    exact h1c _ u h2 h1
  obtain ⟨C1, hR1, hs1, _, _⟩ := hR.drew.set (i) news
  have hz1 : ∀ m, ∀ v ∈ (Builtin.zeroCells (Value.cells (.int .i64 0)) m).toList, v.oneCell' = true := fun m v hv => by
    simp only [Builtin.zeroCells, Array.toList_map, List.mem_map] at hv
    obtain ⟨q, _, rfl⟩ := hv
    have : q % (Value.cells (.int .i64 0)).size < 1 := Nat.mod_lt _ (by decide)
    generalize q % (Value.cells (.int .i64 0)).size = r at this
    match r, this with
    | 0, _ => rfl
    | r + 1, h => exact absurd h (by omega)
  have hzl : ∀ m, (Builtin.zeroCells (Value.cells (.int .i64 0)) m).toList.length = m := fun m => by rw [Array.length_toList]; simp [Builtin.zeroCells, Value.cells]
  have hcl2 : ∀ ty, (Builtin.clear_ #[24] ty #[.slice (some ⟨g, (i + (n - j)), none⟩) (n - (i + (n - j))) (c - (i + (n - j)))]).run Tryz.prog (w.drew.setCells g (i) news) = .ok (.tuple #[]) ((w.drew.setCells g (i) news).setCells g ((n - 1)) (Builtin.zeroCells (Value.cells (.int .i64 0)) 1).toList) := fun ty => by
    rw [show i + (n - j) = n - 1 by omega, show n - (n - 1) = 1 by omega]
    exact run_clear_cells (P := Tryz.prog) _ 24 2 ty (.int .i64 0) hu Tryz.zeroValue2 g ((n - 1)) 1 (c - (n - 1)) (by decide) (fun q hq => by rw [hzl] at hq; rw [hR1.cell, Array.getElem?_eq_getElem (by omega)]; rfl)
      (fun q hq => by rw [hzl] at hq; obtain ⟨E, fr, _, hf⟩ := hR1; exact hf _ (.inl (by omega))) (hz1 1)
  have s1 := Aside0.mk hdl
  have s2 := Aside0.mk h1n
  have s3 : Aside0 (∀ t, t < news.length → (w.drew.cell? ⟨g, 0 + i + t, none⟩).isSome = true ∧ w.drew.frozen? ⟨g, 0 + i + t, none⟩ = false) := ⟨fun t ht => by
    rw [hdl] at ht
    obtain ⟨E, fr, _, hf⟩ := hR.drew
    refine ⟨?_, hf _ (.inl (by omega))⟩
    rw [hR.drew.cell, Array.getElem?_eq_getElem (by omega)]
    rfl⟩
  have hic : i ≤ c := by omega
  have hjc : j ≤ c := by omega
  have hne : ¬ ((i : Int) = (j : Int)) := by omega
  have FIN : Aside0 ((w.drew.setCells g (i) news).setCells g ((n - 1)) (Builtin.zeroCells (Value.cells (.int .i64 0)) 1).toList = (w.drew.setCells g (i) ((C.toList.take (n)).drop (j))).setCells g ((n - 1)) (Builtin.zeroCells (Value.cells (.int .i64 0)) 1).toList) := ⟨by rw [hnews]⟩
  have hij : i < j := by omega
  have hji : j ≤ i + 1 := by omega
  have hjn' : j ≤ n := by omega
  clear hR1 hs1 hz1 hzl hng hC hnews hdl h1n hR hcap hz0 hzb h1c hj hjn
  go_enter Tryz.func38, Tryz.ntmps38
  go_wp2_with fail
  go_region_law (refine step_append_room rfl (.tmp 22) (.tmp 25) 24 rfl 2 i0 1 hu hi0 hzs g 0 i c (by simp [Act.eval, Act.put]) A (n - j) (c - j) news (by simp [Act.eval, Act.put]) (by have := s1.out; omega) hsrc.out s2.out (by omega) (by simpa using s3.out) ?_; (try simp only [Nat.mul_one]))
  go_wp2
  go_ret
  exact ⟨by rw [show n - 1 = i + (n - j) by omega]; rfl, FIN.out⟩
set_option maxHeartbeats 4000000 in
set_option maxRecDepth 100000 in
theorem insRoom_int64 (g c i n : Nat) (C : Array Value) (vs : List Value) (vb vc : Nat) (V : Array Value) (w : World) (hR : RowC w 1 g C) (hcap : c ≤ C.size) (hin : i < n) (hroom : n + 1 ≤ c) (hbig : (n + 1) * 8 ≤ 140737488355328)
    (h1c : ∀ q u, q < n → C[q]? = some u → u.oneCell' = true) (hV : RowC w 1 vb V) (hvs : ∀ (j : Nat) (u : Value), vs[j]? = some u → V[j]? = some u) (hvl : vs.length = 1) (h1v : ∀ u ∈ vs, u.oneCell' = true) (hne : vb ≠ g) :
    Calls Tryz.prog 39 #[.slice (some ⟨g, 0, none⟩) n c, .int .i64 i, .slice (some ⟨vb, 0, none⟩) 1 vc] w fun e w' => ∃ b' cap' C', e = .returned (.slice (some ⟨b', 0, none⟩) (n + 1) cap') ∧ InsR w w' 1 g i n C vs b' cap' C' := by
  have hu := Tryz.underlying24
  obtain ⟨i0, hi0, hz0, hzs, hzb⟩ := info_split info_int64
  have hsz : (Tryz.prog.info? 2).map (·.size) = some 1 := by rw [hi0]; simp [hzs]
  have hC : C.toList.length = C.size := Array.length_toList
  have hsa : ∃ tA, w.shape? vb = some (tA, V.size) := by obtain ⟨E, fr, h, _⟩ := hV; exact ⟨E, by simp [World.shape?, h]⟩
  have hsb : ∃ tB, w.shape? g = some (tB, C.size) := by obtain ⟨E, fr, h, _⟩ := hR; exact ⟨E, by simp [World.shape?, h]⟩
  have hfv : ∀ q, w.frozen? ⟨vb, q, none⟩ = false := by obtain ⟨E, fr, _, h⟩ := hV; exact fun q => h q (.inr (.inr rfl))
  obtain ⟨tA, hsa⟩ := hsa
  obtain ⟨tB, hsb⟩ := hsb
  have hov : ∀ lb cb, (callFunc 96 #[.slice (some ⟨vb, 0, none⟩) 1 vc, .slice (some ⟨g, (i + 1), none⟩) lb cb]).run Tryz.prog w = .ok (.value (.bool false)) w := fun lb cb => by
    rw [run_callFunc_extern Tryz.func96 (by kernel_rfl) (by kernel_rfl) (by kernel_rfl) (e := Extern.SlicesOverlaps.overlaps #[24, 24] #[4]) (by kernel_rfl),
      Lib.run_overlaps_apart w 24 4 2 hu 1 Tryz.sizeOf2 ⟨vb, 0, none⟩ ⟨g, (i + 1), none⟩ 1 vc lb cb hne tA tB V.size C.size hsa hsb (by omega) (hfv 0) (hfv V.size)]
    rfl
  obtain ⟨news, hnews⟩ : ∃ news, news = (C.toList.take (n)).drop (i) := ⟨_, rfl⟩
  have hdl : news.length = (n - i) := by rw [hnews, List.length_drop, List.length_take]; omega
  have hng : ∀ q, q < news.length → news[q]? = C[i + q]? := fun q hq => by
    rw [hnews, List.getElem?_drop, List.getElem?_take_of_lt (by omega)]
    simp
  have h1n : ∀ u ∈ news, u.oneCell' = true := fun u hu => by
    obtain ⟨q, hq⟩ := List.getElem?_of_mem hu
    have hlt : q < news.length := (List.getElem?_eq_some_iff.1 hq).1
    rw [hng q hlt] at hq
    exact h1c _ u (by omega) hq
  obtain ⟨C1, hR1, hs1, ho1, hi1⟩ := hR.drew.set ((i + 1)) news
  obtain ⟨C2, hR2, hs2, ho2, hi2⟩ := hR1.set (i) vs
  have hcp1 : ∀ (W : World), W.heap = w.heap → ∀ ty dc sc, (Builtin.copy_ #[24, 24] ty #[.slice (some ⟨g, (i + 1), none⟩) (n - i) dc, .slice (some ⟨g, i, none⟩) (n + 1 - i) sc]).run Tryz.prog W = .ok (goInt ((n - i : Nat) : Int)) (W.setCells g ((i + 1)) news) := fun W hW ty dc sc => by
    have hRW : RowC W 1 g C := by obtain ⟨E, fr, h1, h2⟩ := hR; exact ⟨E, fr, by rw [hW]; exact h1, fun q hq => by have := h2 q hq; simpa only [World.frozen?, hW] using this⟩
    have := run_copyC (P := Tryz.prog) W 24 24 ty 2 1 g ((i + 1)) (n - i) dc ⟨g, i, none⟩ (n + 1 - i) sc news hu hsz (by rw [hdl]; simp only [Nat.min_def]; split <;> omega)
      (fun j u hj => by
        have hlt : j < news.length := (List.getElem?_eq_some_iff.1 hj).1
        rw [Addr.add_lit, hRW.cell, ← hng j hlt]; exact hj)
      (fun q hq => by rw [hRW.cell, Array.getElem?_eq_getElem (by omega)]; rfl) (fun q hq => by obtain ⟨E, fr, _, hf⟩ := hRW; exact hf _ (.inr (.inr rfl))) h1n
    rw [this, show Nat.min (n + 1 - i) (n - i) = n - i by simp only [Nat.min_def]; split <;> omega]
  have hcp2 : ∀ ty dc, (Builtin.copy_ #[24, 24] ty #[.slice (some ⟨g, i, none⟩) (n + 1 - i) dc, .slice (some ⟨vb, 0, none⟩) 1 vc]).run Tryz.prog (w.drew.setCells g ((i + 1)) news) = .ok (goInt ((1 : Nat) : Int)) ((w.drew.setCells g ((i + 1)) news).setCells g (i) vs) := fun ty dc => by
    have := run_copyC (P := Tryz.prog) (w.drew.setCells g ((i + 1)) news) 24 24 ty 2 1 g (i) (n + 1 - i) dc ⟨vb, 0, none⟩ 1 vc vs hu hsz (by rw [hvl]; simp only [Nat.min_def]; split <;> omega)
      (fun j u hj => by
        rw [Addr.add_lit, Nat.zero_add, World.cell?_of_block (w := w.drew) (a := ⟨vb, j, none⟩) (heap_setCells_ne g _ _ _ hne), hV.drew.cell]
        exact hvs j u hj)
      (fun q hq => by rw [hR1.cell, Array.getElem?_eq_getElem (by rw [hs1]; omega)]; rfl) (fun q hq => by obtain ⟨E, fr, _, hf⟩ := hR1; exact hf _ (.inr (.inr rfl))) h1v
    rw [this, show Nat.min 1 (n + 1 - i) = 1 by simp only [Nat.min_def]; split <;> omega]
  have FIN : Aside0 (InsR w ((w.drew.setCells g ((i + 1)) news).setCells g (i) vs) 1 g i n C vs g c C2) := ⟨by
    refine ⟨hR2, by omega, hroom, .inl rfl, fun q hq => ?_, fun q hq => ?_, fun q h1 h2 => ?_, fun q _ hq => ?_, ?_, ?_, ?_, ?_⟩
    · rw [ho2 q (.inl (by omega)), ho1 q (.inl (by omega))]
    · rw [Nat.mul_one]; exact hi2 q (by omega) (by omega)
    · rw [ho2 _ (.inr (by omega))]
      obtain ⟨d, rfl⟩ : ∃ d, q = i + d := ⟨q - i, by omega⟩
      rw [show i + d + 1 = (i + 1) + d by omega, hi1 d (by omega) (by show _ < C.size; omega), hng d (by omega)]
    · rw [heap_setCells_ne g _ _ _ hq, heap_setCells_ne g _ _ _ hq]; rfl
    · rw [heap_setCells_size, heap_setCells_size]; exact Nat.le_refl _
    · rw [World.os_setCells, World.os_setCells]; rfl
    · rw [tape_setCells, tape_setCells]; rfl
    · rw [World.output_setCells, World.output_setCells]; rfl⟩
  have hz2 : ¬ ((i : Int) = (n : Int)) := by omega
  have hw1 : IntKind.i64.wrap ((i : Int) + 1) = (i : Int) + 1 := by rw [IntKind.wrap_i64]; omega
  have hb1 : (0 : Int) ≤ (i : Int) + 1 := by omega
  have hin' : i ≤ n := by omega
  have htn : ((i : Int) + 1).toNat = i + 1 := by omega
  have hb2 : ¬ (c = i + 1) := by omega
  have hb3 : (i : Int) ≤ (n : Int) + 1 := by omega
  have hb4 : ¬ (c = i) := by omega
  have HC1 := Aside0.mk hcp1
  have HC2 := Aside0.mk hcp2
  clear hcp1 hcp2 hR1 hR2 hs1 hs2 ho1 ho2 hi1 hi2 hsa hsb hfv h1c h1v h1n hng hnews hdl hvs hR hV hC hcap hvl
  go_enter Tryz.func39, Tryz.ntmps39
  go_wp2_with (simp only [hov])
  go_region_law (refine step_copy_runI rfl _ _ 24 24 rfl _ _ (by simp [Act.eval, Act.put]) (by simp [Act.eval, Act.put]) (HC1.out w.drew rfl _ (c - (i + 1)) (c - i)) ?_)
  go_wp2_with fail
  rw [HC2.out]
  go_wp2
  go_ret
  exact ⟨g, c, C2, rfl, FIN.out⟩
set_option maxHeartbeats 4000000 in
set_option maxRecDepth 100000 in
theorem insGrow_int64 (g c i n : Nat) (C : Array Value) (vs : List Value) (vb vc : Nat) (V : Array Value) (w : World) (hR : RowC w 1 g C) (hcap : c ≤ C.size) (hin : i < n) (hnc : n ≤ c) (hroom : c < n + 1) (hbig : (n + 1) * 8 ≤ 140737488355328)
    (h1c : ∀ q u, q < n → C[q]? = some u → u.oneCell' = true) (hV : RowC w 1 vb V) (hvs : ∀ (j : Nat) (u : Value), vs[j]? = some u → V[j]? = some u) (hvl : vs.length = 1) (h1v : ∀ u ∈ vs, u.oneCell' = true) :
    Calls Tryz.prog 39 #[.slice (some ⟨g, 0, none⟩) n c, .int .i64 i, .slice (some ⟨vb, 0, none⟩) 1 vc] w fun e w' => ∃ b' cap' C', e = .returned (.slice (some ⟨b', 0, none⟩) (n + 1) cap') ∧ InsR w w' 1 g i n C vs b' cap' C' := by
  have hu := Tryz.underlying24
  have hui := Tryz.underlying3
  obtain ⟨i0, hi0, hz0, hzs, hzb⟩ := info_split info_int64
  have hsz : (Tryz.prog.info? 2).map (·.size) = some 1 := by rw [hi0]; simp [hzs]
  have hC : C.toList.length = C.size := Array.length_toList
  have hgw : g < w.heap.size := hR.lt
  have hvw : vb < w.heap.size := hV.lt
  have hkk : (n : Int) + 1 - (i : Int) = ((n + 1 - i : Nat) : Int) := by omega
  have hik : i + (n + 1 - i) = n + 1 := by omega
  obtain ⟨olds, holds⟩ : ∃ olds, olds = C.toList.take (i) := ⟨_, rfl⟩
  have hol : olds.length = i := by rw [holds, List.length_take]; omega
  have hog : ∀ q, q < i → olds[q]? = C[q]? := fun q hq => by rw [holds, List.getElem?_take_of_lt hq]; simp
  have hold : (Builtin.firstCells i0.size i (.slice (some ⟨g, 0, none⟩) i c)).run Tryz.prog w.drew = .ok olds.toArray w.drew := by
    rw [hzs]
    exact run_firstCells_some w.drew 1 i ⟨g, 0, none⟩ i c olds (by omega) (fun j v hj => by
      have hlt : j < olds.length := (List.getElem?_eq_some_iff.1 hj).1
      rw [hog j (by omega)] at hj
      rw [Addr.add_lit, Nat.zero_add, hR.drew.cell]
      exact hj)
  obtain ⟨G, hG⟩ : ∃ G, G = grownCap w (n + 1) c 2 := ⟨_, rfl⟩
  obtain ⟨ROW, hROW⟩ : ∃ ROW : Array Value, ROW = olds.toArray ++ Builtin.zeroCells (Value.cells (.int .i64 0)) (n + 1 - i) ++ Builtin.zeroCells (Value.cells (.int .i64 0)) (G - (n + 1)) := ⟨_, rfl⟩
  have hrz : ∀ ty, (Builtin.append_ #[24, 3] ty #[.slice (some ⟨g, 0, none⟩) i c, .int .i64 ((n : Int) + 1 - (i : Int))]).run Tryz.prog w =
      .ok (.slice (some ⟨w.heap.size, 0, none⟩) (n + 1) G) (w.drew.alloc (.cells ROW 2)) := fun ty => by
    have h := Lib.run_append_grow_zeros w 24 3 ty 2 i0 _ .i64 .i64 hu hui hi0 hz0 (some ⟨g, 0, none⟩) i c olds hold (n + 1 - i) (by omega) (by omega) (by omega) (by omega) (by rw [hzb]; omega) (by rw [hzb, hik]; exact growslice_fits hroom hbig)
    rw [hik] at h
    rw [hkk, hROW, hG]
    exact h
  have hGn : n + 1 ≤ G := by rw [hG]; exact grownCap_ge w _ _ _
  have hRl : ROW.size = G := by
    rw [hROW]
    simp [Builtin.zeroCells, Value.cells, hol]
    omega
  obtain ⟨W0, hW0⟩ : ∃ W0, W0 = (w.alloc (.cells ROW 2)).drew := ⟨_, rfl⟩
  have hN0 : RowC W0 1 w.heap.size ROW := ⟨2, (0, 0), by rw [hW0]; show (w.heap.push (.cells ROW 2))[w.heap.size]? = _; simp, fun q _ => by
    have : W0.heap[w.heap.size]? = some (.cells ROW 2 (0, 0)) := by rw [hW0]; show (w.heap.push (.cells ROW 2))[w.heap.size]? = _; simp
    simp [World.frozen?, this]⟩
  have hold0 : ∀ q, q < w.heap.size → W0.heap[q]? = w.heap[q]? := fun q hq => by rw [hW0]; exact heap_alloc_old w _ hq
  have hgN : RowC W0 1 g C := by obtain ⟨E, fr, h1, h2⟩ := hR; exact ⟨E, fr, (hold0 g hgw).trans h1, fun q hq => by have := h2 q hq; simpa only [World.frozen?, hold0 g hgw] using this⟩
  have hvN : RowC W0 1 vb V := by obtain ⟨E, fr, h1, h2⟩ := hV; exact ⟨E, fr, (hold0 vb hvw).trans h1, fun q hq => by have := h2 q hq; simpa only [World.frozen?, hold0 vb hvw] using this⟩
  obtain ⟨news, hnews⟩ : ∃ news, news = (C.toList.take (n)).drop (i) := ⟨_, rfl⟩
  have hdl : news.length = (n - i) := by rw [hnews, List.length_drop, List.length_take]; omega
  have hng : ∀ q, q < news.length → news[q]? = C[i + q]? := fun q hq => by
    rw [hnews, List.getElem?_drop, List.getElem?_take_of_lt (by omega)]
    simp
  have h1n : ∀ u ∈ news, u.oneCell' = true := fun u hu => by
    obtain ⟨q, hq⟩ := List.getElem?_of_mem hu
    have hlt : q < news.length := (List.getElem?_eq_some_iff.1 hq).1
    rw [hng q hlt] at hq
    exact h1c _ u (by omega) hq
  have hR0g : ∀ q, q < i → ROW[q]? = C[q]? := fun q hq => by
    rw [← hog q hq, hROW]
    simp only [Array.append_assoc]
    rw [Array.getElem?_append_left (by simp [hol]; omega)]
    simp
  obtain ⟨C1, hR1, hs1, ho1, hi1⟩ := hN0.set (i) vs
  obtain ⟨C2, hR2, hs2, ho2, hi2⟩ := hR1.drew.set ((i + 1)) news
  have hcp1 : ∀ ty dc, (Builtin.copy_ #[24, 24] ty #[.slice (some ⟨w.heap.size, i, none⟩) (n + 1 - i) dc, .slice (some ⟨vb, 0, none⟩) 1 vc]).run Tryz.prog W0 = .ok (goInt ((1 : Nat) : Int)) (W0.setCells w.heap.size (i) vs) := fun ty dc => by
    have := run_copyC (P := Tryz.prog) W0 24 24 ty 2 1 w.heap.size (i) (n + 1 - i) dc ⟨vb, 0, none⟩ 1 vc vs hu hsz (by rw [hvl]; simp only [Nat.min_def]; split <;> omega)
      (fun j u hj => by
        rw [Addr.add_lit, Nat.zero_add, hvN.cell]
        exact hvs j u hj)
      (fun q hq => by rw [hN0.cell, Array.getElem?_eq_getElem (by rw [hRl]; omega)]; rfl) (fun q hq => by obtain ⟨E, fr, _, hf⟩ := hN0; exact hf _ (.inr (.inr rfl))) h1v
    rw [this, show Nat.min 1 (n + 1 - i) = 1 by simp only [Nat.min_def]; split <;> omega]
  have hcp2 : ∀ ty dc sc, (Builtin.copy_ #[24, 24] ty #[.slice (some ⟨w.heap.size, (i + 1), none⟩) (n - i) dc, .slice (some ⟨g, i, none⟩) (n - i) sc]).run Tryz.prog (W0.setCells w.heap.size (i) vs).drew = .ok (goInt ((n - i : Nat) : Int)) ((W0.setCells w.heap.size (i) vs).drew.setCells w.heap.size ((i + 1)) news) := fun ty dc sc => by
    have := run_copyC (P := Tryz.prog) (W0.setCells w.heap.size (i) vs).drew 24 24 ty 2 1 w.heap.size ((i + 1)) (n - i) dc ⟨g, i, none⟩ (n - i) sc news hu hsz (by rw [hdl]; simp only [Nat.min_def]; split <;> omega)
      (fun j u hj => by
        have hlt : j < news.length := (List.getElem?_eq_some_iff.1 hj).1
        rw [Addr.add_lit]
        show (W0.setCells w.heap.size (i) vs).cell? _ = _
        rw [World.cell?_of_block (w := W0) (a := ⟨g, i + j, none⟩) (heap_setCells_ne w.heap.size _ _ _ (by show g ≠ _; omega)), hgN.cell, ← hng j hlt]
        exact hj)
      (fun q hq => by rw [hR1.drew.cell, Array.getElem?_eq_getElem (by rw [hs1, hRl]; omega)]; rfl) (fun q hq => by obtain ⟨E, fr, _, hf⟩ := hR1.drew; exact hf _ (.inr (.inr rfl))) h1n
    rw [this, show Nat.min (n - i) (n - i) = n - i by simp only [Nat.min_def]; split <;> omega]
  have FIN : Aside0 (InsR w ((W0.setCells w.heap.size (i) vs).drew.setCells w.heap.size ((i + 1)) news) 1 g i n C vs w.heap.size G C2) := ⟨by
    refine ⟨hR2, by omega, hGn, .inr (Nat.le_refl _), fun q hq => ?_, fun q hq => ?_, fun q h1 h2 => ?_, fun q hlt hq => ?_, ?_, ?_, ?_, ?_⟩
    · rw [ho2 q (.inl (by omega)), ho1 q (.inl (by omega)), hR0g q (by omega)]
    · rw [Nat.mul_one, ho2 _ (.inl (by omega))]
      exact hi1 q (by omega) (by omega)
    · obtain ⟨d, rfl⟩ : ∃ d, q = i + d := ⟨q - i, by omega⟩
      rw [show i + d + 1 = (i + 1) + d by omega, hi2 d (by omega) (by omega), hng d (by omega)]
    · rw [heap_setCells_ne _ _ _ _ (by omega)]
      show (W0.setCells _ _ _).heap[q]? = _
      rw [heap_setCells_ne _ _ _ _ (by omega)]
      exact hold0 q hlt
    · rw [heap_setCells_size]
      show _ ≤ (W0.setCells _ _ _).heap.size
      rw [heap_setCells_size, hW0]
      show _ ≤ (w.alloc _).heap.size
      simp [World.alloc_eq]
    · rw [World.os_setCells]
      show (W0.setCells _ _ _).os = _
      rw [World.os_setCells, hW0]; rfl
    · rw [tape_setCells]
      show (W0.setCells _ _ _).tape = _
      rw [tape_setCells, hW0]; rfl
    · rw [World.output_setCells]
      show (W0.setCells _ _ _).output = _
      rw [World.output_setCells, hW0]; rfl⟩
  have hz2 : ¬ ((i : Int) = (n : Int)) := by omega
  have hz3 : (c : Int) < (n : Int) + 1 := by omega
  have hw1 : IntKind.i64.wrap ((i : Int) + 1) = (i : Int) + 1 := by rw [IntKind.wrap_i64]; omega
  have hb1 : (0 : Int) ≤ (i : Int) + 1 := by omega
  have hin' : i ≤ n := by omega
  have htn : ((i : Int) + 1).toNat = i + 1 := by omega
  have hGi : ¬ (G = i) := by omega
  have hGim : ¬ (G = i + 1) := by omega
  have hci : ¬ (c = i) := by omega
  have hb3 : (i : Int) ≤ (n : Int) := by omega
  have hn63 : n ≤ 4611686018427387904 := by omega
  have HC1 := Aside0.mk hcp1
  have HC2 := Aside0.mk hcp2
  have HW := Aside0.mk hW0
  clear hcp1 hcp2 hR1 hR2 hs1 hs2 ho1 ho2 hi1 hi2 h1c h1v h1n hng hnews hdl hvs hR hV hC hcap hvl hR0g hN0 hold0 hgN hvN hRl hROW hG hold hog hol holds hkk hik hgw hvw hW0
  go_enter Tryz.func39, Tryz.ntmps39
  go_wp2_with (at_builtin; refine Lib.wpList_append_run _ rfl _ _ _ _ rfl _ _ rfl rfl _ _ (hrz _) ?_)
  rw [← HW.out, HC1.out]
  go_wp2
  go_region_law (refine step_copy_runI rfl _ _ 24 24 rfl _ _ (by simp [Act.eval, Act.put]) (by simp [Act.eval, Act.put]) (HC2.out _ (G - (i + 1)) (c - i)) ?_)
  go_wp2
  go_ret
  exact ⟨_, _, _, rfl, FIN.out⟩
end Go.Proofs.YtmjmoagmolgacaaGreatDoor.P
namespace Go.Proofs.YtmjmoagmolgacaaGreatDoor.Q
open Go Go.Proofs.YtmjmoagmolgacaaGreatDoor.PM Go.Proofs
theorem sz2 : szT Tryz.prog 2 = some 1 := by kernel_rfl
theorem ag2 : aggT Tryz.prog 2 = some false := by kernel_rfl
theorem by2 : bytesT Tryz.prog 2 = some 8 := by kernel_rfl
theorem ze2 : zeroT Tryz.prog 2 = some (T.sc (.int .i64 0)) := by kernel_rfl
theorem sz3 : szT Tryz.prog 3 = some 1 := by kernel_rfl
theorem ag3 : aggT Tryz.prog 3 = some false := by kernel_rfl
theorem by3 : bytesT Tryz.prog 3 = some 8 := by kernel_rfl
theorem ze3 : zeroT Tryz.prog 3 = some (T.sc (.int .i64 0)) := by kernel_rfl
theorem sz4 : szT Tryz.prog 4 = some 1 := by kernel_rfl
theorem ag4 : aggT Tryz.prog 4 = some false := by kernel_rfl
theorem by4 : bytesT Tryz.prog 4 = some 1 := by kernel_rfl
theorem ze4 : zeroT Tryz.prog 4 = some (T.sc (.bool false)) := by kernel_rfl
theorem sz24 : szT Tryz.prog 24 = some 1 := by kernel_rfl
theorem ag24 : aggT Tryz.prog 24 = some false := by kernel_rfl
theorem by24 : bytesT Tryz.prog 24 = some 24 := by kernel_rfl
theorem ze24 : zeroT Tryz.prog 24 = some (T.nil) := by kernel_rfl
theorem el24 : elemT Tryz.prog 24 = some 2 := by kernel_rfl
theorem sz26 : szT Tryz.prog 26 = some 2 := by kernel_rfl
theorem ag26 : aggT Tryz.prog 26 = some true := by kernel_rfl
theorem by26 : bytesT Tryz.prog 26 = some 48 := by kernel_rfl
theorem ze26 : zeroT Tryz.prog 26 = some (T.agg [T.nil, T.nil]) := by kernel_rfl
theorem fs26 : fieldsT Tryz.prog 26 = some [(0, 1), (1, 1)] := by kernel_rfl
theorem sz107 : szT Tryz.prog 107 = some 1 := by kernel_rfl
theorem ag107 : aggT Tryz.prog 107 = some false := by kernel_rfl
theorem by107 : bytesT Tryz.prog 107 = some 8 := by kernel_rfl
theorem ze107 : zeroT Tryz.prog 107 = some (T.sc (.int .u64 0)) := by kernel_rfl
theorem ck2 : cellKs Tryz.prog 8 2 = some [none] := by kernel_rfl
theorem ck3 : cellKs Tryz.prog 8 3 = some [none] := by kernel_rfl
theorem ck4 : cellKs Tryz.prog 8 4 = some [none] := by kernel_rfl
theorem ck24 : cellKs Tryz.prog 8 24 = some [some 1] := by kernel_rfl
theorem ck26 : cellKs Tryz.prog 8 26 = some [some 1, some 1] := by kernel_rfl
theorem ft26_0 : fieldT Tryz.prog 26 0 = some (0, 24) := by kernel_rfl
theorem ft26_1 : fieldT Tryz.prog 26 1 = some (1, 24) := by kernel_rfl
attribute [local simp] execK_seq execK_region execK_ret execK_skip execK_exit execK_block execK_cond condK_bool seqK_normal seqK_ret seqK_exit blockK_normal blockK_ret blockK_exit giveK_normal giveK_ret regionK clearK_none clearK_some normR_mk normR_def freshR fresh1 nextK_normal nextK_ret nextK_exit
  regionR runOps stepR wantR opR evalT lift lift1 Rd.run Rd.run_bind wrOk putT putAll putIn lookIn guardR Rd.ofOption obj buildSliceR mapR close close1 view1 plainB T.width T.cells room appendR strR newsR elemsR setAll most Ob.kill Ob.gone pure findK FCert.predsOf logsR Log.bare meets
  loadR storeR takeCells closeIf cellT splice T.withCells buildR fillR chk undT giveR resR outAll outOne outCell outCells outMany reachN refs refs1 posIn srcN validB mapV mapA mapC mapOb pickTmps lenR sliceR bound hiB loB makeSliceR copyR
  ev_add ev_sub ev_mul ev_quo ev_rem ev_sadd ev_eql ev_neq ev_lss ev_leq ev_gtr ev_geq ev_seql ev_sneq ev_slss ev_sleq ev_sgtr ev_sgeq ev_not ev_neg ev_unxor ev_conv scOf bsize_mk bytesOf bytesOf_map bytesOf_append eqSc eqFs strOf ev_min ev_and ev_or ev_xor ev_andNot ev_shl ev_shr indexAddrR intOf callR passAll passT pass1 reach passOb backN backS noSrc flatL verOf at_map byteAt_eq wid_append wid_nil wid_cons List.take_of_length_le wStr w_i64 w_u8 eStr eBool e_i64 e_u8 List.range_succ bytesL
  sz2 ag2 by2 ze2 sz3 ag3 by3 ze3 sz4 ag4 by4 ze4 sz24 ag24 by24 ze24 el24 sz26 ag26 by26 ze26 fs26 sz107 ag107 by107 ze107 ck2 ck3 ck4 ck24 ck26 ft26_0 ft26_1 Tryz.underlying3 Tryz.underlying24 Tryz.underlying107
set_option maxRecDepth 100000
set_option maxHeartbeats 4000000
def cend39 : FCert := ⟨[true, false, true], true, [], [(11, [[], [], [], [], [], [], [], [], [4, 7]]), (15, [[], [], [], [], [], [], [], [], [4, 7]])]⟩
theorem okend39 : okCode cend39 Tryz.f39.body.get! = true := by kernel_rfl
theorem end39 (xs : List T) (y : T) (hw : wid 1 xs = true) (hy : y.width = 1) (h1 : (xs.length + 1) * 8 ≤ most) (h2 : xs.length + 1 ≤ most) : callT Tryz.prog (fun _ => cend39) (fun _ => none) 39 [.win 0 0 xs.length, .sc (.int .i64 xs.length), .win 1 0 1] [Ob.mkRow 1 xs, Ob.mkRow 1 [y]] = some (.win 2 0 (xs.length + 1), [⟨true, false, true, true, 0, 1, xs⟩, Ob.mkRow 1 [y], Ob.mkRow 1 (xs ++ [y])]) := by
 unfold most at h1 h2
 rw [callK_eq rfl Tryz.func39 rfl okend39]
 cases y with
 | agg cs =>
  have hy' : cs.length = 1 := hy
  simp [cend39, Tryz.f39, hw, hy', h1, h2]
 | _ => simp [cend39, Tryz.f39, hw, h1, h2]
end Go.Proofs.YtmjmoagmolgacaaGreatDoor.Q
