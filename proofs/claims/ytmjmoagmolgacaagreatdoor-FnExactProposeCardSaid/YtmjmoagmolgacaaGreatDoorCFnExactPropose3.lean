/- Part of the proof of FnExactPropose: no statement of its own. -/
import Derived.Below
import Derived.Lib.ParseIntB
import Derived.Lib.Split
import Derived.Sort.Grow
import Derived.Test.YtmjmoagmolgacaaGreatDoorCFnExactPropose2
set_option linter.unusedVariables false
set_option linter.unusedSimpArgs false
namespace Go.Proofs.YtmjmoagmolgacaaGreatDoor.PM
open Go
theorem lookOf_nil (o : Nat) : lookOf [] o = Ob.gone := by simp [lookOf]
theorem exi_below {w w' : World} {g : Nat → Option Nat} {N : Nat → Prop} (hb : RowKit.Below w.heap.size w w') {v : Value} {t : T} (hv : FrV w' g (lookOf []) (NN (cxOf w g N []) w' g (lookOf [])) v t) : Exi w g N [] w' g [] v t := by
 have hg : ∀ o, lookOf [] o = Ob.gone := lookOf_nil
 exact ⟨hv, fun o ha => by rw [hg] at ha; exact absurd ha (by simp [Ob.gone]), fun o o' b h1 => by have := h1.1; rw [hg] at this; exact absurd this (by simp [Ob.gone]), fun o b ha => by rw [hg] at ha; exact absurd ha (by simp [Ob.gone]), fun b h _ => hb.block b h, hb.size, hb.os, hb.tape, hb.output, fun j hj => by simp at hj⟩
theorem exi_fresh {w w' : World} {g : Nat → Option Nat} {N : Nat → Prop} {args : List T} {vs : Array Value} (H : Ent w g N [] args vs) {b k cap : Nat} {ys : List T} {c' : Array Value} (hnew : w.heap.size ≤ b) (hR : RowC w' k b c') (hcs : cap * k ≤ c'.size) (hyl : ys.length ≤ cap)
 (hy : ∀ (i : Nat) y, ys[i]? = some y → y.width = k ∧ ∀ (j : Nat) t, y.cells[j]? = some t → ∃ v, c'[i * k + j]? = some v ∧ ShV w N v t) (hb : RowKit.Below w.heap.size w w') :
 Exi w g N [] w' (fun o => if o = 0 then some b else none) [Ob.mkRow k ys] (.slice (some ⟨b, 0, none⟩) ys.length cap) (.win 0 0 ys.length) := by
 obtain ⟨L, hL⟩ : ∃ L, L = lookOf [Ob.mkRow k ys] := ⟨_, rfl⟩
 obtain ⟨G, hG⟩ : ∃ G : Nat → Option Nat, G = (fun o => if o = 0 then some b else none) := ⟨_, rfl⟩
 have hg0 : G 0 = some b := by rw [hG]; exact if_pos rfl
 have l0 : L 0 = Ob.mkRow k ys := by rw [hL]; rfl
 have lg : ∀ q, 0 < q → L q = Ob.gone := fun q hq => by
  rw [hL]
  obtain ⟨q, rfl⟩ : ∃ p, q = p + 1 := ⟨q - 1, by omega⟩
  simp [lookOf]
 have hcz : csz w' b = c'.size := by obtain ⟨E, fr, h, _⟩ := hR; simp [csz, h]
 have z : ∀ o, (L o).alive = true → o = 0 := fun o h => by
  by_cases h0 : o = 0
  · exact h0
  · rw [lg o (by omega)] at h; simp [Ob.gone] at h
 have nn : ∀ q, N q → NN (cxOf w g N []) w' G L q ∧ w'.heap[q]? = w.heap[q]? := fun q hq => by
  have hq1 := H.n q hq
  refine ⟨⟨Nat.lt_of_lt_of_le hq1 hb.size, .inl hq, fun o ho => ?_⟩, hb.block q hq1⟩
  obtain rfl := z o ho.1
  rw [hg0]
  intro e
  have := Option.some.inj e
  omega
 rw [← hG]
 refine ⟨?_, fun o => ?_, fun o o' q h1 h2 _ _ => ?_, fun o q ha hg => ?_, fun q hq _ => hb.block q hq, hb.size, hb.os, hb.tape, hb.output, fun j hj => by simp at hj⟩
 ·
  rw [← hL]
  show WinV w' _ L 0 0 ys.length _
  exact ⟨by rw [l0], ⟨_, _, rfl, hyl, .inr ⟨_, _, rfl⟩⟩, fun _ => ⟨_, cap, rfl, hyl, .inr ⟨b, hg0, by rw [Nat.zero_mul], by rw [l0, hcz]; simpa using hcs⟩⟩⟩
 ·
  rw [← hL]
  intro ha
  obtain rfl := z o ha
  rw [l0]
  refine ⟨rfl, ?_⟩
  rw [hg0]
  obtain ⟨E, fr, h1, h2⟩ := hR
  refine ⟨c', E, fr, h1, h2, fun i y hyy => ⟨(hy i y hyy).1, fun j t ht => ?_⟩⟩
  obtain ⟨v, h3, h4⟩ := (hy i y hyy).2 j t ht
  exact ⟨v, h3, by rw [CellV, if_pos rfl]; exact h4.mono nn⟩
 ·
  rw [← hL] at h1 h2
  rw [z o h1.1, z o' h2.1]
 ·
  rw [← hL] at ha ⊢
  obtain rfl := z o ha
  obtain rfl : b = q := Option.some.inj (hg0.symm.trans hg)
  refine ⟨hR.lt, ?_⟩
  rw [l0, if_pos rfl]
  exact .inl hnew
theorem exi_put {w w' : World} {g : Nat → Option Nat} {N : Nat → Prop} {args : List T} {vs : Array Value} {x : Ob} (H : Ent w g N [x] args vs) (hxa : x.alive = true) (hxm : x.may = true) {b : Nat} (hb : g 0 = some b) {ys : List T} {c' : Array Value} (hR : RowC w' x.k b c') (hcs : c'.size = csz w b)
 (hy : ∀ (i : Nat) y, ys[i]? = some y → y.width = x.k ∧ ∀ (j : Nat) t, y.cells[j]? = some t → ∃ v, c'[i * x.k + j]? = some v ∧ ShV w N v t)
 (hkeep : ∀ q, q < w.heap.size → q ≠ b → w'.heap[q]? = w.heap[q]?) (hsz : w.heap.size ≤ w'.heap.size) (hos : w'.os = w.os) (htape : w'.tape = w.tape) (hout : w'.output = w.output) :
 Exi w g N [x] w' g [Ob.mkRow x.k ys] (.tuple #[]) (.tup []) := by
 obtain ⟨L, hL⟩ : ∃ L, L = lookOf [Ob.mkRow x.k ys] := ⟨_, rfl⟩
 have l0 : L 0 = Ob.mkRow x.k ys := by rw [hL]; rfl
 have lg : ∀ q, 0 < q → L q = Ob.gone := fun q hq => by
  rw [hL]
  obtain ⟨q, rfl⟩ : ∃ p, q = p + 1 := ⟨q - 1, by omega⟩
  simp [lookOf]
 have z : ∀ o, (L o).alive = true → o = 0 := fun o h => by
  by_cases h0 : o = 0
  · exact h0
  · rw [lg o (by omega)] at h; simp [Ob.gone] at h
 have own0 : Own (lookOf [x]) 0 := ⟨hxa, hxm⟩
 have hbs := H.blk 0 b hxa hb
 have hbn : ¬ N b := by have := hbs.2; rwa [show (lookOf [x] 0).may = true from hxm, if_pos rfl] at this
 have hcz : csz w' b = c'.size := by obtain ⟨E, fr, h, _⟩ := hR; simp [csz, h]
 have nn : ∀ q, N q → NN (cxOf w g N [x]) w' g L q ∧ w'.heap[q]? = w.heap[q]? := fun q hq => by
  have hq1 := H.n q hq
  have hqb : q ≠ b := fun e => hbn (e ▸ hq)
  refine ⟨⟨Nat.lt_of_lt_of_le hq1 hsz, .inl hq, fun o ho => ?_⟩, hkeep q hq1 hqb⟩
  obtain rfl := z o ho.1
  rw [hb]
  exact fun e => hqb (Option.some.inj e).symm
 refine ⟨⟨#[], rfl, rfl, fun i c hc => by simp at hc⟩, fun o => ?_, fun o o' q h1 h2 _ _ => ?_, fun o q ha hg => ?_, fun q hq hn => hkeep q hq fun e => hn ⟨0, own0, by rw [e]; exact hb⟩, hsz, hos, htape, hout, fun j hj => ?_⟩
 ·
  rw [← hL]
  intro ha
  obtain rfl := z o ha
  rw [l0]
  refine ⟨rfl, ?_⟩
  rw [hb]
  obtain ⟨E, fr, h1, h2⟩ := hR
  refine ⟨c', E, fr, h1, h2, fun i y hyy => ⟨(hy i y hyy).1, fun j t ht => ?_⟩⟩
  obtain ⟨v, h3, h4⟩ := (hy i y hyy).2 j t ht
  exact ⟨v, h3, by rw [CellV, if_pos rfl]; exact h4.mono nn⟩
 ·
  rw [← hL] at h1 h2
  rw [z o h1.1, z o' h2.1]
 ·
  rw [← hL] at ha ⊢
  obtain rfl := z o ha
  obtain rfl : b = q := Option.some.inj (hb.symm.trans hg)
  refine ⟨hR.lt, ?_⟩
  rw [l0, if_pos rfl]
  exact .inr ⟨0, own0, hb⟩
 ·
  obtain rfl : j = 0 := by simp at hj; omega
  rw [← hL, l0]
  exact ⟨rfl, fun _ => ⟨hxa, rfl, rfl, fun q hq => by obtain rfl : b = q := Option.some.inj (hb.symm.trans hq); rw [hcz, hcs]⟩⟩
theorem args_ext {vs : Array Value} {l : List Value} (hs : vs.size = l.length) (h : ∀ (q : Nat) v, l[q]? = some v → vs[q]? = some v) : vs = l.toArray := by
 apply Array.ext_getElem?
 intro q
 by_cases hq : q < l.length
 · rw [h q l[q] (List.getElem?_eq_getElem hq)]; simp [hq]
 · rw [Array.getElem?_eq_none (by omega)]; simp; omega
def pintV (s : ByteArray) : Int × Bool := match Lib.parseIntB 64 s.data.toList with
 | .ok v => (v, false)
 | .range => (Lib.intSat 64 s.data.toList, true)
 | _ => (0, true)
def pintD : List T → List Ob → Option (T × List Ob)
 | [.sc (.string s), .sc (.int .i64 a), .sc (.int .i64 b)], [] => if a = 10 ∧ b = 64 ∧ s.size ≤ 281474976710656 then some (.tup [.sc (.int .i64 (pintV s).1), .ifc (pintV s).2], []) else none
 | _, _ => none
def IfcV (b : Bool) (v : Value) : Prop := if b = true then ∃ u x, v = .iface u x else v = .nilIface
theorem pint_ok {P : Program} {f : FuncId} (hf : FnOk P f) (hc : ∀ (s : ByteArray) (w : World) (N : Nat → Prop), GlobOk P w N → s.size ≤ 281474976710656 → Calls P f #[.string s, .int .i64 10, .int .i64 64] w fun e w' => ∃ ev, e = .returned (.tuple #[.int .i64 (pintV s).1, ev]) ∧ IfcV (pintV s).2 ev ∧ RowKit.Below w.heap.size w w')
 {args : List T} {objs : List Ob} {r : T} {objs' : List Ob} (h : pintD args objs = some (r, objs')) : FnOk P f ∧ CallOk P f args objs r objs' := by
 unfold pintD at h
 split at h
 ·
  rename_i s a b
  split at h
  ·
   rename_i hg
   simp only [Option.some.injEq, Prod.mk.injEq] at h
   obtain ⟨rfl, rfl⟩ := h
   obtain ⟨rfl, rfl, hs⟩ := hg
   refine ⟨hf, fun w g N vs H G => ?_⟩
   obtain ⟨v0, h0, h1⟩ := H.args 0 _ rfl
   obtain ⟨v1, h2, h3⟩ := H.args 1 _ rfl
   obtain ⟨v2, h4, h5⟩ := H.args 2 _ rfl
   obtain ⟨rfl, _⟩ := frV_sc h1
   obtain ⟨rfl, _⟩ := frV_sc h3
   obtain ⟨rfl, _⟩ := frV_sc h5
   obtain rfl : vs = #[.string s, .int .i64 10, .int .i64 64] := args_ext (l := [.string s, .int .i64 10, .int .i64 64]) H.size fun q v hv => by
    match q with
    | 0 => simp at hv; subst hv; exact h0
    | 1 => simp at hv; subst hv; exact h2
    | 2 => simp at hv; subst hv; exact h4
    | q + 3 => simp at hv
   refine (hc s w N G hs).mono ?_
   rintro e w' ⟨ev, rfl, hi, hb⟩
   refine ⟨_, g, rfl, exi_below hb ⟨#[_, ev], rfl, rfl, fun i c hc => ?_⟩⟩
   match i with
   | 0 => simp at hc; subst hc; exact ⟨_, rfl, rfl, rfl⟩
   | 1 => simp at hc; subst hc; exact ⟨ev, rfl, hi⟩
   | i + 2 => simp at hc
  · cases h
 · cases h
def splV (s sep : ByteArray) : List ByteArray := Lib.splitB sep 0 (Lib.countB s sep) s
def splD : List T → List Ob → Option (T × List Ob)
 | [.sc (.string s), .sc (.string sep)], [] => if sep.size = 1 ∧ s.size ≤ 4194304 then some (.win 0 0 (splV s sep).length, [Ob.mkRow 1 ((splV s sep).map fun x => .sc (.string x))]) else none
 | _, _ => none
theorem spl_ok {P : Program} {f : FuncId} (hf : FnOk P f) (hc : ∀ (s sep : ByteArray) (w : World), sep.size = 1 → s.size ≤ 4194304 → Calls P f #[.string s, .string sep] w fun e w' => ∃ ty, e = .returned (.slice (some ⟨w.heap.size, 0, none⟩) (splV s sep).length (splV s sep).length) ∧ w' = w.alloc (.cells ((splV s sep).map Value.string).toArray ty))
 {args : List T} {objs : List Ob} {r : T} {objs' : List Ob} (h : splD args objs = some (r, objs')) : FnOk P f ∧ CallOk P f args objs r objs' := by
 unfold splD at h
 split at h
 ·
  rename_i s sep
  split at h
  ·
   rename_i hg
   simp only [Option.some.injEq, Prod.mk.injEq] at h
   obtain ⟨rfl, rfl⟩ := h
   obtain ⟨hp, hs⟩ := hg
   refine ⟨hf, fun w g N vs H _ => ?_⟩
   obtain ⟨v0, h0, h1⟩ := H.args 0 _ rfl
   obtain ⟨v1, h2, h3⟩ := H.args 1 _ rfl
   obtain ⟨rfl, _⟩ := frV_sc h1
   obtain ⟨rfl, _⟩ := frV_sc h3
   obtain rfl : vs = #[.string s, .string sep] := args_ext (l := [.string s, .string sep]) H.size fun q v hv => by
    match q with
    | 0 => simp at hv; subst hv; exact h0
    | 1 => simp at hv; subst hv; exact h2
    | q + 2 => simp at hv
   refine (hc s sep w hp hs).mono ?_
   rintro e w' ⟨ty, rfl, rfl⟩
   refine ⟨_, fun o => if o = 0 then some w.heap.size else none, rfl, ?_⟩
   have hh : (w.alloc (.cells ((splV s sep).map Value.string).toArray ty)).heap[w.heap.size]? = some (.cells ((splV s sep).map Value.string).toArray ty (0, 0)) := by show (w.heap.push _)[w.heap.size]? = _; simp
   have := exi_fresh (w' := w.alloc (.cells ((splV s sep).map Value.string).toArray ty)) (k := 1) (cap := (splV s sep).length) (ys := (splV s sep).map fun x => T.sc (.string x)) (c' := ((splV s sep).map Value.string).toArray) H (Nat.le_refl _)
    ⟨ty, (0, 0), hh, fun i _ => by simp only [World.frozen?, hh]; simp⟩ (by simp) (by simp) (fun i y hy => ?_) (RowKit.Below.alloc (RowKit.Below.refl _ _) (Nat.le_refl _) _)
   ·
    rw [List.length_map] at this
    exact this
   ·
    rw [List.getElem?_map, Option.map_eq_some_iff] at hy
    obtain ⟨x, hx, rfl⟩ := hy
    refine ⟨rfl, fun j t ht => ?_⟩
    match j with
    | 0 =>
     simp [T.cells] at ht
     subst ht
     exact ⟨.string x, by simp [hx], .sc rfl⟩
    | j + 1 => simp [T.cells] at ht
  · cases h
 · cases h
def intsT : List T → Option (List Int)
 | [] => some []
 | .sc (.int .i64 z) :: r => (intsT r).map (z :: ·)
 | _ :: _ => none
def tI (z : Int) : T := .sc (.int .i64 z)
theorem intsT_map : ∀ l : List Int, intsT (l.map tI) = some l
 | [] => rfl
 | z :: r => by simp only [List.map_cons, tI, intsT]; rw [show intsT (r.map tI) = some r from intsT_map r]; rfl
theorem intsT_eq : ∀ {xs : List T} {l : List Int}, intsT xs = some l → xs = l.map tI
 | [], l, h => by obtain rfl := Option.some.inj h; rfl
 | x :: r, l, h => by
  unfold intsT at h
  split at h
  · rename_i e; cases e
  ·
   rename_i z r' e
   injection e with e1 e2
   subst e1 e2
   simp only [Option.map_eq_some_iff] at h
   obtain ⟨l', h1, rfl⟩ := h
   rw [intsT_eq h1]
   rfl
  · cases h
def sortI (l : List Int) : List Int := l.mergeSort fun x y => decide (x ≤ y)
theorem sortI_length (l : List Int) : (sortI l).length = l.length := List.length_mergeSort _
def srtD : List T → List Ob → Option (T × List Ob)
 | [.win 0 0 n], [⟨true, true, true, true, 0, k, xs⟩] => match intsT xs with
  | some zs => if k = 1 ∧ n = xs.length ∧ 0 < n ∧ n ≤ 1073741824 then some (.tup [], [Ob.mkRow 1 ((sortI zs).map tI)]) else none
  | none => none
 | _, _ => none
theorem srt_ok {P : Program} {f : FuncId} (hf : FnOk P f) (hc : ∀ (blk cap : Nat) (zs : List Int) (w : World), Sort.Holds (Value.int .i64) w blk 0 zs.toArray → blk < w.heap.size → zs.length < 4611686018427387904 →
 Calls P f #[.slice (some ⟨blk, 0, none⟩) zs.length cap] w fun e w' => e = .returned (.tuple #[]) ∧ ∃ n os, w' = Sort.grow (Sort.putRow (Value.int .i64) (Sort.ahead w n) blk 0 (sortI zs).toArray) os)
 {args : List T} {objs : List Ob} {r : T} {objs' : List Ob} (h : srtD args objs = some (r, objs')) : FnOk P f ∧ CallOk P f args objs r objs' := by
 unfold srtD at h
 split at h
 ·
  rename_i n k xs
  split at h
  ·
   rename_i zs hzs
   split at h
   ·
    rename_i hg
    simp only [Option.some.injEq, Prod.mk.injEq] at h
    obtain ⟨rfl, rfl⟩ := h
    obtain ⟨rfl, hn, h0, hm⟩ := hg
    obtain rfl := intsT_eq hzs
    rw [List.length_map] at hn
    subst hn
    refine ⟨hf, fun w g N vs H _ => ?_⟩
    obtain ⟨v0, e0, f0⟩ := H.args 0 _ rfl
    obtain ⟨b, cap, C, hgb, rfl, hle, hR, hcap, hel⟩ := row_open H (o := 0) (x := Ob.mkRow 1 (zs.map tI)) rfl rfl rfl (by simp) f0 h0
    obtain rfl : vs = #[.slice (some ⟨b, 0, none⟩) zs.length cap] := args_ext (l := [.slice (some ⟨b, 0, none⟩) zs.length cap]) H.size fun q v hv => by
     match q with
     | 0 => simp at hv; subst hv; exact e0
     | q + 1 => simp at hv
    have hCz : zs.length ≤ C.size := Nat.le_trans hle (by simpa using hcap)
    have hcell : ∀ j, j < zs.length → C[j]? = some (.int .i64 zs[j]!) := fun j hj => by
     obtain ⟨v, h3, h4⟩ := (hel j (tI zs[j]) (by simp [hj])).2 0 (tI zs[j]) rfl
     have h3' : C[j * 1 + 0]? = some v := h3
     rw [Nat.mul_one, Nat.add_zero] at h3'
     cases h4
     rw [h3', getElem!_pos zs j hj]
    have hH : Sort.Holds (Value.int .i64) w b 0 zs.toArray := fun j hj => by
     have hj' : j < zs.length := by simpa using hj
     rw [Nat.zero_add]
     refine ⟨?_, ?_⟩
     ·
      rw [hR.cell, hcell j hj']
      simp [hj']
     ·
      obtain ⟨E, fr, _, hfr⟩ := hR
      exact hfr j (.inl (by omega))
    refine (hc b cap zs w hH hR.lt (by omega)).mono ?_
    rintro e w' ⟨rfl, n, os, rfl⟩
    refine ⟨_, g, rfl, ?_⟩
    obtain ⟨E, fr, hh, hfr⟩ := hR
    have hlt : b < w.heap.size := (Array.getElem?_eq_some_iff.1 hh).1
    have hh' : (Sort.grow (Sort.putRow (Value.int .i64) (Sort.ahead w n) b 0 (sortI zs).toArray) os).heap[b]? = some (.cells (Sort.putCells (Value.int .i64) 0 (sortI zs).toArray C) E fr) := by
     rw [Sort.heap_grow_old _ _ (by simpa using hlt)]
     simp [Sort.putRow, Sort.mapBlock, Sort.ahead, Array.getElem?_modify, hh, Sort.onCells]
    have hkeep : ∀ q, q < w.heap.size → q ≠ b → (Sort.grow (Sort.putRow (Value.int .i64) (Sort.ahead w n) b 0 (sortI zs).toArray) os).heap[q]? = w.heap[q]? := fun q hq hqb => by
     rw [Sort.heap_grow_old _ _ (by simpa using hq)]
     simp [Sort.putRow, Sort.mapBlock, Sort.ahead, Array.getElem?_modify, Ne.symm hqb]
    have hfz : ∀ i, (Sort.grow (Sort.putRow (Value.int .i64) (Sort.ahead w n) b 0 (sortI zs).toArray) os).frozen? ⟨b, i, none⟩ = w.frozen? ⟨b, i, none⟩ := fun i => by simp only [World.frozen?, hh', hh]
    have hsz : (Sort.putCells (Value.int .i64) 0 (sortI zs).toArray C).size = C.size := by simp [Sort.putCells]
    exact exi_put (x := Ob.mkRow 1 (zs.map tI)) (ys := (sortI zs).map tI) H rfl rfl hgb ⟨E, fr, hh', fun i hi => by rw [hfz]; exact hfr i (by rw [hsz] at hi; exact hi)⟩ (by rw [hsz]; simp [csz, hh]) (fun i y hy => by
     rw [List.getElem?_map, Option.map_eq_some_iff] at hy
     obtain ⟨x, hx, rfl⟩ := hy
     refine ⟨rfl, fun j t ht => ?_⟩
     match j with
     | 0 =>
      simp [T.cells, tI] at ht
      subst ht
      have hi : i < (sortI zs).length := (List.getElem?_eq_some_iff.1 hx).1
      have hi' : i < C.size := by rw [sortI_length] at hi; omega
      refine ⟨.int .i64 x, ?_, .sc rfl⟩
      show (Sort.putCells (Value.int .i64) 0 (sortI zs).toArray C)[i * 1 + 0]? = _
      rw [Nat.mul_one, Nat.add_zero]
      have h5 : (sortI zs)[i] = x := (List.getElem?_eq_some_iff.1 hx).2
      simp [Sort.putCells, hi', hi, h5]
     | j + 1 => simp [T.cells, tI] at ht) hkeep (by simp) rfl rfl rfl
   · cases h
  · cases h
 · cases h
end Go.Proofs.YtmjmoagmolgacaaGreatDoor.PM
