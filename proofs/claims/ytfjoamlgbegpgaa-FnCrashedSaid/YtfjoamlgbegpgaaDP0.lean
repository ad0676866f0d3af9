/- Part of proofs of this seat: no statement of its own. -/
import Derived.Test.YtfjoamlgbegpgaaProg
import Derived.ArgAppend
import Derived.Below
import Derived.BigQuiet
import Derived.ChangeArms
import Derived.ChangeOld
import Derived.DataElems
import Derived.DataReads
import Derived.Deep.AppendLies
import Derived.Deep.CutBlock
import Derived.Deep.DeepCutAuto
import Derived.Deep.Draws
import Derived.Deep.LoopGhost
import Derived.Deep.OwnRows
import Derived.Deep.QuietTactic
import Derived.Deep.RegionHeld3
import Derived.Deep.RegionLaw
import Derived.Deep.RegionWith
import Derived.Deep.Slices
import Derived.JoinedTies
import Derived.KernelRfl
import Derived.Laws.BitsLemmas
import Derived.Laws.BytesArg
import Derived.Laws.CopyRow
import Derived.Laws.IdiomCopy
import Derived.Laws.MakeOwn
import Derived.Laws.NewBlocks
import Derived.Laws.OwnMore
import Derived.Laws.Rows
import Derived.Laws.Slices
import Derived.Laws.StructEq
import Derived.Lib.AppendStr
import Derived.Lib.AppendZerosOnto
import Derived.Lib.Bytealg
import Derived.Lib.ConvBytes
import Derived.Lib.Overlaps
import Derived.Lib.Strings
import Derived.Maps.AppendAt
import Derived.OpenShut
import Derived.OrdersHeld
import Derived.OwnWalk
import Derived.ProofKit
import Derived.RowKit
import Derived.RowKit3
import Derived.Shelf.Abstract
import Derived.Shelf.Bin.LEUint32
import Derived.Shelf.Bin.ReadersZ
import Derived.Shelf.Small.Strs
import Derived.Shelf.Spec.SlicesInsert
import Derived.ShutString
import Derived.SizedLaws
import Derived.Tactics
import Derived.WalkKit
import Derived.WideLaws
import Derived.Test.YtfjoamlgbegpgaaDB
set_option linter.unusedVariables false
set_option linter.unusedSimpArgs false
namespace Go.Proofs.Ytfjoamlgbegpgaa.P
open Go Go.Proofs.Ytfjoamlgbegpgaa.PM Go.Proofs Go.RowKit
theorem info_split {P : Program} {e : TypeId} {z : Value} {k b : Nat} (h : (P.info? e).map (fun i => (i.zero, i.size, i.bytes)) = some (some z, k, b)) : ∃ i, P.info? e = some i ∧ i.zero = some z ∧ i.size = k ∧ i.bytes = b := by
  cases hi : P.info? e with
  | none => rw [hi] at h; cases h
  | some i => rw [hi] at h; simp only [Option.map_some, Option.some.injEq, Prod.mk.injEq] at h; exact ⟨i, rfl, h.1, h.2.1, h.2.2⟩
theorem info_File : (Try.prog.info? 80).map (fun i => (i.zero, i.size, i.bytes)) = some (some (.agg #[(.string ⟨#[]⟩), (.string ⟨#[]⟩)]), 2, 32) := by kernel_rfl

set_option maxHeartbeats 4000000 in
set_option maxRecDepth 100000 in
theorem delW_File (g c i n : Nat) (C : Array Value) (w : World) (hR : RowC w 2 g C) (hcap : c * 2 ≤ C.size) (hnc : n ≤ c) (hjn : i + 1 ≤ n) (h1c : ∀ q u, q < n * 2 → C[q]? = some u → u.oneCell' = true) :
    Calls Try.prog 100 #[.slice (some ⟨g, 0, none⟩) n c, .int .i64 i, .int .i64 ((i + 1 : Nat) : Int)] w fun e w' => e = .returned (.slice (some ⟨g, 0, none⟩) (n - 1) c) ∧
      w' = (w.drew.setCells g (i * 2) ((C.toList.take (n * 2)).drop ((i + 1) * 2))).setCells g ((n - 1) * 2) (Builtin.zeroCells (Value.cells (.agg #[(.string ⟨#[]⟩), (.string ⟨#[]⟩)])) 1).toList := by
  obtain ⟨j, hj⟩ : ∃ j, j = i + 1 := ⟨_, rfl⟩
  rw [← hj]
  have hu := Try.underlying28
  obtain ⟨i0, hi0, hz0, hzs, hzb⟩ := info_split info_File
  have hC : C.toList.length = C.size := Array.length_toList
  obtain ⟨news, hnews⟩ : ∃ news, news = (C.toList.take (n * 2)).drop (j * 2) := ⟨_, rfl⟩
  have hdl : news.length = (n - j) * 2 := by rw [hnews, List.length_drop, List.length_take]; omega
  have hng : ∀ q u, news[q]? = some u → C[j * 2 + q]? = some u ∧ j * 2 + q < n * 2 := fun q u hq => by
    have hlt : q < news.length := (List.getElem?_eq_some_iff.1 hq).1
    rw [hnews, List.getElem?_drop, List.getElem?_take_of_lt (by omega)] at hq
    exact ⟨by simpa using hq, by omega⟩
  obtain ⟨A, hA, hsrc⟩ : ∃ A : Addr, (if c = j then some (⟨g, 0, none⟩ : Addr) else some ⟨g, j * 2, none⟩) = some A ∧ Aside0 (∀ t u, news[t]? = some u → w.drew.cell? (A.add t) = some u) := by
    by_cases h : c = j
    · refine ⟨⟨g, 0, none⟩, by simp [h], ⟨fun t u hu => ?_⟩⟩
      have h0 : news.length = 0 := by rw [hdl]; omega
      rw [List.length_eq_zero_iff.1 h0] at hu
      simp at hu
    · refine ⟨⟨g, j * 2, none⟩, by simp [h], ⟨fun t u hu => ?_⟩⟩
      rw [Addr.add_lit, hR.drew.cell]
      exact (hng t u hu).1
  have h1n : ∀ u ∈ news, u.oneCell' = true := fun u hu => by
    obtain ⟨q, hq⟩ := List.getElem?_of_mem hu
    obtain ⟨h1, h2⟩ := hng q u hq
    exact h1c _ u h2 h1
  obtain ⟨C1, hR1, hs1, _, _⟩ := hR.drew.set (i * 2) news
  have hz1 : ∀ m, ∀ v ∈ (Builtin.zeroCells (Value.cells (.agg #[(.string ⟨#[]⟩), (.string ⟨#[]⟩)])) m).toList, v.oneCell' = true := fun m v hv => by
    simp only [Builtin.zeroCells, Array.toList_map, List.mem_map] at hv
    obtain ⟨q, _, rfl⟩ := hv
    have : q % (Value.cells (.agg #[(.string ⟨#[]⟩), (.string ⟨#[]⟩)])).size < 2 := Nat.mod_lt _ (by decide)
    generalize q % (Value.cells (.agg #[(.string ⟨#[]⟩), (.string ⟨#[]⟩)])).size = r at this
    match r, this with
    | 0, _ => rfl
    | 1, _ => rfl
    | r + 2, h => exact absurd h (by omega)
  have hzl : ∀ m, (Builtin.zeroCells (Value.cells (.agg #[(.string ⟨#[]⟩), (.string ⟨#[]⟩)])) m).toList.length = m * 2 := fun m => by rw [Array.length_toList]; simp [Builtin.zeroCells, Value.cells]
  have hcl2 : ∀ ty, (Builtin.clear_ #[28] ty #[.slice (some ⟨g, (i + (n - j)) * 2, none⟩) (n - (i + (n - j))) (c - (i + (n - j)))]).run Try.prog (w.drew.setCells g (i * 2) news) = .ok (.tuple #[]) ((w.drew.setCells g (i * 2) news).setCells g ((n - 1) * 2) (Builtin.zeroCells (Value.cells (.agg #[(.string ⟨#[]⟩), (.string ⟨#[]⟩)])) 1).toList) := fun ty => by
    rw [show i + (n - j) = n - 1 by omega, show n - (n - 1) = 1 by omega]
    exact run_clear_cells (P := Try.prog) _ 28 80 ty (.agg #[(.string ⟨#[]⟩), (.string ⟨#[]⟩)]) hu Try.zeroValue80 g ((n - 1) * 2) 1 (c - (n - 1)) (by decide) (fun q hq => by rw [hzl] at hq; rw [hR1.cell, Array.getElem?_eq_getElem (by omega)]; rfl)
      (fun q hq => by rw [hzl] at hq; obtain ⟨E, fr, _, hf⟩ := hR1; exact hf _ (.inl (by omega))) (hz1 1)
  have s1 := Aside0.mk hdl
  have s2 := Aside0.mk h1n
  have s3 : Aside0 (∀ t, t < news.length → (w.drew.cell? ⟨g, 0 + i * 2 + t, none⟩).isSome = true ∧ w.drew.frozen? ⟨g, 0 + i * 2 + t, none⟩ = false) := ⟨fun t ht => by
    rw [hdl] at ht
    obtain ⟨E, fr, _, hf⟩ := hR.drew
    refine ⟨?_, hf _ (.inl (by omega))⟩
    rw [hR.drew.cell, Array.getElem?_eq_getElem (by omega)]
    rfl⟩

  have hic : i ≤ c := by omega
  have hjc : j ≤ c := by omega
  have hne : ¬ ((i : Int) = (j : Int)) := by omega
  have FIN : Aside0 ((w.drew.setCells g (i * 2) news).setCells g ((n - 1) * 2) (Builtin.zeroCells (Value.cells (.agg #[(.string ⟨#[]⟩), (.string ⟨#[]⟩)])) 1).toList = (w.drew.setCells g (i * 2) ((C.toList.take (n * 2)).drop (j * 2))).setCells g ((n - 1) * 2) (Builtin.zeroCells (Value.cells (.agg #[(.string ⟨#[]⟩), (.string ⟨#[]⟩)])) 1).toList) := ⟨by rw [hnews]⟩
  have hij : i < j := by omega
  have hji : j ≤ i + 1 := by omega
  have hjn' : j ≤ n := by omega
  clear hR1 hs1 hz1 hzl hng hC hnews hdl h1n hR hcap hz0 hzb h1c hj hjn
  go_enter Try.func100, Try.ntmps100
  go_wp2_with fail
  go_region_law (refine step_append_room rfl (.tmp 22) (.tmp 25) 28 rfl 80 i0 2 hu hi0 hzs g 0 i c (by simp [Act.eval, Act.put]) A (n - j) (c - j) news (by simp [Act.eval, Act.put]) (by have := s1.out; omega) hsrc.out s2.out (by omega) (by simpa using s3.out) ?_; (try simp only [Nat.mul_one]))
  go_wp2
  go_ret
  exact ⟨by rw [show n - 1 = i + (n - j) by omega]; rfl, FIN.out⟩

set_option maxHeartbeats 4000000 in
set_option maxRecDepth 100000 in
theorem insRoom_File (g c i n : Nat) (C : Array Value) (vs : List Value) (vb vc : Nat) (V : Array Value) (w : World) (hR : RowC w 2 g C) (hcap : c * 2 ≤ C.size) (hin : i < n) (hroom : n + 1 ≤ c) (hbig : (n + 1) * 32 ≤ 140737488355328)
    (h1c : ∀ q u, q < n * 2 → C[q]? = some u → u.oneCell' = true) (hV : RowC w 2 vb V) (hvs : ∀ (j : Nat) (u : Value), vs[j]? = some u → V[j]? = some u) (hvl : vs.length = 2) (h1v : ∀ u ∈ vs, u.oneCell' = true) (hne : vb ≠ g) :
    Calls Try.prog 121 #[.slice (some ⟨g, 0, none⟩) n c, .int .i64 i, .slice (some ⟨vb, 0, none⟩) 1 vc] w fun e w' => ∃ b' cap' C', e = .returned (.slice (some ⟨b', 0, none⟩) (n + 1) cap') ∧ InsR w w' 2 g i n C vs b' cap' C' := by
  have hu := Try.underlying28
  obtain ⟨i0, hi0, hz0, hzs, hzb⟩ := info_split info_File
  have hsz : (Try.prog.info? 80).map (·.size) = some 2 := by rw [hi0]; simp [hzs]
  have hC : C.toList.length = C.size := Array.length_toList
  have hsa : ∃ tA, w.shape? vb = some (tA, V.size) := by obtain ⟨E, fr, h, _⟩ := hV; exact ⟨E, by simp [World.shape?, h]⟩
  have hsb : ∃ tB, w.shape? g = some (tB, C.size) := by obtain ⟨E, fr, h, _⟩ := hR; exact ⟨E, by simp [World.shape?, h]⟩
  have hfv : ∀ q, w.frozen? ⟨vb, q, none⟩ = false := by obtain ⟨E, fr, _, h⟩ := hV; exact fun q => h q (.inr (by decide))
  obtain ⟨tA, hsa⟩ := hsa
  obtain ⟨tB, hsb⟩ := hsb
  have hov : ∀ lb cb, (callFunc 133 #[.slice (some ⟨vb, 0, none⟩) 1 vc, .slice (some ⟨g, (i + 1) * 2, none⟩) lb cb]).run Try.prog w = .ok (.value (.bool false)) w := fun lb cb => by
    rw [run_callFunc_extern Try.func133 (by kernel_rfl) (by kernel_rfl) (by kernel_rfl) (e := Extern.SlicesOverlaps.overlaps #[28, 28] #[4]) (by kernel_rfl),
      Lib.run_overlaps_apart w 28 4 80 hu 2 Try.sizeOf80 ⟨vb, 0, none⟩ ⟨g, (i + 1) * 2, none⟩ 1 vc lb cb hne tA tB V.size C.size hsa hsb (by omega) (hfv 0) (hfv V.size)]
    rfl
  obtain ⟨news, hnews⟩ : ∃ news, news = (C.toList.take (n * 2)).drop (i * 2) := ⟨_, rfl⟩
  have hdl : news.length = (n - i) * 2 := by rw [hnews, List.length_drop, List.length_take]; omega
  have hng : ∀ q, q < news.length → news[q]? = C[i * 2 + q]? := fun q hq => by
    rw [hnews, List.getElem?_drop, List.getElem?_take_of_lt (by omega)]
    simp
  have h1n : ∀ u ∈ news, u.oneCell' = true := fun u hu => by
    obtain ⟨q, hq⟩ := List.getElem?_of_mem hu
    have hlt : q < news.length := (List.getElem?_eq_some_iff.1 hq).1
    rw [hng q hlt] at hq
    exact h1c _ u (by omega) hq
  obtain ⟨C1, hR1, hs1, ho1, hi1⟩ := hR.drew.set ((i + 1) * 2) news
  obtain ⟨C2, hR2, hs2, ho2, hi2⟩ := hR1.set (i * 2) vs
  have hcp1 : ∀ (W : World), W.heap = w.heap → ∀ ty dc sc, (Builtin.copy_ #[28, 28] ty #[.slice (some ⟨g, (i + 1) * 2, none⟩) (n - i) dc, .slice (some ⟨g, i * 2, none⟩) (n + 1 - i) sc]).run Try.prog W = .ok (goInt ((n - i : Nat) : Int)) (W.setCells g ((i + 1) * 2) news) := fun W hW ty dc sc => by
    have hRW : RowC W 2 g C := by obtain ⟨E, fr, h1, h2⟩ := hR; exact ⟨E, fr, by rw [hW]; exact h1, fun q hq => by have := h2 q hq; simpa only [World.frozen?, hW] using this⟩
    have := run_copyC (P := Try.prog) W 28 28 ty 80 2 g ((i + 1) * 2) (n - i) dc ⟨g, i * 2, none⟩ (n + 1 - i) sc news hu hsz (by rw [hdl]; simp only [Nat.min_def]; split <;> omega)
      (fun j u hj => by
        have hlt : j < news.length := (List.getElem?_eq_some_iff.1 hj).1
        rw [Addr.add_lit, hRW.cell, ← hng j hlt]; exact hj)
      (fun q hq => by rw [hRW.cell, Array.getElem?_eq_getElem (by omega)]; rfl) (fun q hq => by obtain ⟨E, fr, _, hf⟩ := hRW; exact hf _ (.inr (by decide))) h1n
    rw [this, show Nat.min (n + 1 - i) (n - i) = n - i by simp only [Nat.min_def]; split <;> omega]
  have hcp2 : ∀ ty dc, (Builtin.copy_ #[28, 28] ty #[.slice (some ⟨g, i * 2, none⟩) (n + 1 - i) dc, .slice (some ⟨vb, 0, none⟩) 1 vc]).run Try.prog (w.drew.setCells g ((i + 1) * 2) news) = .ok (goInt ((1 : Nat) : Int)) ((w.drew.setCells g ((i + 1) * 2) news).setCells g (i * 2) vs) := fun ty dc => by
    have := run_copyC (P := Try.prog) (w.drew.setCells g ((i + 1) * 2) news) 28 28 ty 80 2 g (i * 2) (n + 1 - i) dc ⟨vb, 0, none⟩ 1 vc vs hu hsz (by rw [hvl]; simp only [Nat.min_def]; split <;> omega)
      (fun j u hj => by
        rw [Addr.add_lit, Nat.zero_add, World.cell?_of_block (w := w.drew) (a := ⟨vb, j, none⟩) (heap_setCells_ne g _ _ _ hne), hV.drew.cell]
        exact hvs j u hj)
      (fun q hq => by rw [hR1.cell, Array.getElem?_eq_getElem (by rw [hs1]; omega)]; rfl) (fun q hq => by obtain ⟨E, fr, _, hf⟩ := hR1; exact hf _ (.inr (by decide))) h1v
    rw [this, show Nat.min 1 (n + 1 - i) = 1 by simp only [Nat.min_def]; split <;> omega]
  have FIN : Aside0 (InsR w ((w.drew.setCells g ((i + 1) * 2) news).setCells g (i * 2) vs) 2 g i n C vs g c C2) := ⟨by
    refine ⟨hR2, by omega, hroom, .inl rfl, fun q hq => ?_, fun q hq => ?_, fun q h1 h2 => ?_, fun q _ hq => ?_, ?_, ?_, ?_, ?_⟩
    · rw [ho2 q (.inl hq), ho1 q (.inl (by omega))]
    · exact hi2 q (by omega) (by omega)
    · rw [ho2 _ (.inr (by omega))]
      obtain ⟨d, rfl⟩ : ∃ d, q = i * 2 + d := ⟨q - i * 2, by omega⟩
      rw [show i * 2 + d + 2 = (i + 1) * 2 + d by omega, hi1 d (by omega) (by show _ < C.size; omega), hng d (by omega)]
    · rw [heap_setCells_ne g _ _ _ hq, heap_setCells_ne g _ _ _ hq]; rfl
    · rw [heap_setCells_size, heap_setCells_size]; exact Nat.le_refl _
    · rw [World.os_setCells, World.os_setCells]; rfl
    · rw [tape_setCells, tape_setCells]; rfl
    · rw [World.output_setCells, World.output_setCells]; rfl⟩
  have hz2 : ¬ ((i : Int) = (n : Int)) := by omega
  have hw1 : IntKind.i64.wrap ((i : Int) + 1) = (i : Int) + 1 := by rw [IntKind.wrap_i64]; omega
  have hb1 : (0 : Int) ≤ (i : Int) + 1 := by omega
  have hin' : i ≤ n := by omega
  have htn : ((i : Int) + 1).toNat = i + 1 := by omega
  have hb2 : ¬ (c = i + 1) := by omega
  have hb3 : (i : Int) ≤ (n : Int) + 1 := by omega
  have hb4 : ¬ (c = i) := by omega
  have HC1 := Aside0.mk hcp1
  have HC2 := Aside0.mk hcp2
  clear hcp1 hcp2 hR1 hR2 hs1 hs2 ho1 ho2 hi1 hi2 hsa hsb hfv h1c h1v h1n hng hnews hdl hvs hR hV hC hcap hvl
  go_enter Try.func121, Try.ntmps121
  go_wp2_with (simp only [hov])
  go_region_law (refine step_copy_runI rfl _ _ 28 28 rfl _ _ (by simp [Act.eval, Act.put]) (by simp [Act.eval, Act.put]) (HC1.out w.drew rfl _ (c - (i + 1)) (c - i)) ?_)
  go_wp2_with fail
  rw [HC2.out]
  go_wp2
  go_ret
  exact ⟨g, c, C2, rfl, FIN.out⟩
set_option maxHeartbeats 4000000 in
set_option maxRecDepth 100000 in
theorem insGrow_File (g c i n : Nat) (C : Array Value) (vs : List Value) (vb vc : Nat) (V : Array Value) (w : World) (hR : RowC w 2 g C) (hcap : c * 2 ≤ C.size) (hin : i < n) (hnc : n ≤ c) (hroom : c < n + 1) (hbig : (n + 1) * 32 ≤ 140737488355328)
    (h1c : ∀ q u, q < n * 2 → C[q]? = some u → u.oneCell' = true) (hV : RowC w 2 vb V) (hvs : ∀ (j : Nat) (u : Value), vs[j]? = some u → V[j]? = some u) (hvl : vs.length = 2) (h1v : ∀ u ∈ vs, u.oneCell' = true) :
    Calls Try.prog 121 #[.slice (some ⟨g, 0, none⟩) n c, .int .i64 i, .slice (some ⟨vb, 0, none⟩) 1 vc] w fun e w' => ∃ b' cap' C', e = .returned (.slice (some ⟨b', 0, none⟩) (n + 1) cap') ∧ InsR w w' 2 g i n C vs b' cap' C' := by
  have hu := Try.underlying28
  have hui := Try.underlying3
  obtain ⟨i0, hi0, hz0, hzs, hzb⟩ := info_split info_File
  have hsz : (Try.prog.info? 80).map (·.size) = some 2 := by rw [hi0]; simp [hzs]
  have hC : C.toList.length = C.size := Array.length_toList
  have hgw : g < w.heap.size := hR.lt
  have hvw : vb < w.heap.size := hV.lt
  have hkk : (n : Int) + 1 - (i : Int) = ((n + 1 - i : Nat) : Int) := by omega
  have hik : i + (n + 1 - i) = n + 1 := by omega
  obtain ⟨olds, holds⟩ : ∃ olds, olds = C.toList.take (i * 2) := ⟨_, rfl⟩
  have hol : olds.length = i * 2 := by rw [holds, List.length_take]; omega
  have hog : ∀ q, q < i * 2 → olds[q]? = C[q]? := fun q hq => by rw [holds, List.getElem?_take_of_lt hq]; simp
  have hold : (Builtin.firstCells i0.size i (.slice (some ⟨g, 0, none⟩) i c)).run Try.prog w.drew = .ok olds.toArray w.drew := by
    rw [hzs]
    exact run_firstCells_some w.drew 2 i ⟨g, 0, none⟩ i c olds hol (fun j v hj => by
      have hlt : j < olds.length := (List.getElem?_eq_some_iff.1 hj).1
      rw [hog j (by omega)] at hj
      rw [Addr.add_lit, Nat.zero_add, hR.drew.cell]
      exact hj)
  obtain ⟨G, hG⟩ : ∃ G, G = grownCap w (n + 1) c 80 := ⟨_, rfl⟩
  obtain ⟨ROW, hROW⟩ : ∃ ROW : Array Value, ROW = olds.toArray ++ Builtin.zeroCells (Value.cells (.agg #[(.string ⟨#[]⟩), (.string ⟨#[]⟩)])) (n + 1 - i) ++ Builtin.zeroCells (Value.cells (.agg #[(.string ⟨#[]⟩), (.string ⟨#[]⟩)])) (G - (n + 1)) := ⟨_, rfl⟩
  have hrz : ∀ ty, (Builtin.append_ #[28, 3] ty #[.slice (some ⟨g, 0, none⟩) i c, .int .i64 ((n : Int) + 1 - (i : Int))]).run Try.prog w =
      .ok (.slice (some ⟨w.heap.size, 0, none⟩) (n + 1) G) (w.drew.alloc (.cells ROW 80)) := fun ty => by
    have h := Lib.run_append_grow_zeros w 28 3 ty 80 i0 _ .i64 .i64 hu hui hi0 hz0 (some ⟨g, 0, none⟩) i c olds hold (n + 1 - i) (by omega) (by omega) (by omega) (by omega) (by rw [hzb]; omega) (by rw [hzb, hik]; exact growslice_fits hroom hbig)
    rw [hik] at h
    rw [hkk, hROW, hG]
    exact h
  have hGn : n + 1 ≤ G := by rw [hG]; exact grownCap_ge w _ _ _
  have hRl : ROW.size = G * 2 := by
    rw [hROW]
    simp [Builtin.zeroCells, Value.cells, hol]
    omega
  obtain ⟨W0, hW0⟩ : ∃ W0, W0 = (w.alloc (.cells ROW 80)).drew := ⟨_, rfl⟩
  have hN0 : RowC W0 2 w.heap.size ROW := ⟨80, (0, 0), by rw [hW0]; show (w.heap.push (.cells ROW 80))[w.heap.size]? = _; simp, fun q _ => by
    have : W0.heap[w.heap.size]? = some (.cells ROW 80 (0, 0)) := by rw [hW0]; show (w.heap.push (.cells ROW 80))[w.heap.size]? = _; simp
    simp [World.frozen?, this]⟩
  have hold0 : ∀ q, q < w.heap.size → W0.heap[q]? = w.heap[q]? := fun q hq => by rw [hW0]; exact heap_alloc_old w _ hq
  have hgN : RowC W0 2 g C := by obtain ⟨E, fr, h1, h2⟩ := hR; exact ⟨E, fr, (hold0 g hgw).trans h1, fun q hq => by have := h2 q hq; simpa only [World.frozen?, hold0 g hgw] using this⟩
  have hvN : RowC W0 2 vb V := by obtain ⟨E, fr, h1, h2⟩ := hV; exact ⟨E, fr, (hold0 vb hvw).trans h1, fun q hq => by have := h2 q hq; simpa only [World.frozen?, hold0 vb hvw] using this⟩
  obtain ⟨news, hnews⟩ : ∃ news, news = (C.toList.take (n * 2)).drop (i * 2) := ⟨_, rfl⟩
  have hdl : news.length = (n - i) * 2 := by rw [hnews, List.length_drop, List.length_take]; omega
  have hng : ∀ q, q < news.length → news[q]? = C[i * 2 + q]? := fun q hq => by
    rw [hnews, List.getElem?_drop, List.getElem?_take_of_lt (by omega)]
    simp
  have h1n : ∀ u ∈ news, u.oneCell' = true := fun u hu => by
    obtain ⟨q, hq⟩ := List.getElem?_of_mem hu
    have hlt : q < news.length := (List.getElem?_eq_some_iff.1 hq).1
    rw [hng q hlt] at hq
    exact h1c _ u (by omega) hq
  have hR0g : ∀ q, q < i * 2 → ROW[q]? = C[q]? := fun q hq => by
    rw [← hog q hq, hROW]
    simp only [Array.append_assoc]
    rw [Array.getElem?_append_left (by simp [hol]; omega)]
    simp
  obtain ⟨C1, hR1, hs1, ho1, hi1⟩ := hN0.set (i * 2) vs
  obtain ⟨C2, hR2, hs2, ho2, hi2⟩ := hR1.drew.set ((i + 1) * 2) news
  have hcp1 : ∀ ty dc, (Builtin.copy_ #[28, 28] ty #[.slice (some ⟨w.heap.size, i * 2, none⟩) (n + 1 - i) dc, .slice (some ⟨vb, 0, none⟩) 1 vc]).run Try.prog W0 = .ok (goInt ((1 : Nat) : Int)) (W0.setCells w.heap.size (i * 2) vs) := fun ty dc => by
    have := run_copyC (P := Try.prog) W0 28 28 ty 80 2 w.heap.size (i * 2) (n + 1 - i) dc ⟨vb, 0, none⟩ 1 vc vs hu hsz (by rw [hvl]; simp only [Nat.min_def]; split <;> omega)
      (fun j u hj => by
        rw [Addr.add_lit, Nat.zero_add, hvN.cell]
        exact hvs j u hj)
      (fun q hq => by rw [hN0.cell, Array.getElem?_eq_getElem (by rw [hRl]; omega)]; rfl) (fun q hq => by obtain ⟨E, fr, _, hf⟩ := hN0; exact hf _ (.inr (by decide))) h1v
    rw [this, show Nat.min 1 (n + 1 - i) = 1 by simp only [Nat.min_def]; split <;> omega]
  have hcp2 : ∀ ty dc sc, (Builtin.copy_ #[28, 28] ty #[.slice (some ⟨w.heap.size, (i + 1) * 2, none⟩) (n - i) dc, .slice (some ⟨g, i * 2, none⟩) (n - i) sc]).run Try.prog (W0.setCells w.heap.size (i * 2) vs).drew = .ok (goInt ((n - i : Nat) : Int)) ((W0.setCells w.heap.size (i * 2) vs).drew.setCells w.heap.size ((i + 1) * 2) news) := fun ty dc sc => by
    have := run_copyC (P := Try.prog) (W0.setCells w.heap.size (i * 2) vs).drew 28 28 ty 80 2 w.heap.size ((i + 1) * 2) (n - i) dc ⟨g, i * 2, none⟩ (n - i) sc news hu hsz (by rw [hdl]; simp only [Nat.min_def]; split <;> omega)
      (fun j u hj => by
        have hlt : j < news.length := (List.getElem?_eq_some_iff.1 hj).1
        rw [Addr.add_lit]
        show (W0.setCells w.heap.size (i * 2) vs).cell? _ = _
        rw [World.cell?_of_block (w := W0) (a := ⟨g, i * 2 + j, none⟩) (heap_setCells_ne w.heap.size _ _ _ (by show g ≠ _; omega)), hgN.cell, ← hng j hlt]
        exact hj)
      (fun q hq => by rw [hR1.drew.cell, Array.getElem?_eq_getElem (by rw [hs1, hRl]; omega)]; rfl) (fun q hq => by obtain ⟨E, fr, _, hf⟩ := hR1.drew; exact hf _ (.inr (by decide))) h1n
    rw [this, show Nat.min (n - i) (n - i) = n - i by simp only [Nat.min_def]; split <;> omega]
  have FIN : Aside0 (InsR w ((W0.setCells w.heap.size (i * 2) vs).drew.setCells w.heap.size ((i + 1) * 2) news) 2 g i n C vs w.heap.size G C2) := ⟨by
    refine ⟨hR2, by omega, hGn, .inr (Nat.le_refl _), fun q hq => ?_, fun q hq => ?_, fun q h1 h2 => ?_, fun q hlt hq => ?_, ?_, ?_, ?_, ?_⟩
    · rw [ho2 q (.inl (by omega)), ho1 q (.inl hq), hR0g q hq]
    · rw [ho2 _ (.inl (by omega))]
      exact hi1 q (by omega) (by omega)
    · obtain ⟨d, rfl⟩ : ∃ d, q = i * 2 + d := ⟨q - i * 2, by omega⟩
      rw [show i * 2 + d + 2 = (i + 1) * 2 + d by omega, hi2 d (by omega) (by omega), hng d (by omega)]
    · rw [heap_setCells_ne _ _ _ _ (by omega)]
      show (W0.setCells _ _ _).heap[q]? = _
      rw [heap_setCells_ne _ _ _ _ (by omega)]
      exact hold0 q hlt
    · rw [heap_setCells_size]
      show _ ≤ (W0.setCells _ _ _).heap.size
      rw [heap_setCells_size, hW0]
      show _ ≤ (w.alloc _).heap.size
      simp [World.alloc_eq]
    · rw [World.os_setCells]
      show (W0.setCells _ _ _).os = _
      rw [World.os_setCells, hW0]; rfl
    · rw [tape_setCells]
      show (W0.setCells _ _ _).tape = _
      rw [tape_setCells, hW0]; rfl
    · rw [World.output_setCells]
      show (W0.setCells _ _ _).output = _
      rw [World.output_setCells, hW0]; rfl⟩
  have hz2 : ¬ ((i : Int) = (n : Int)) := by omega
  have hz3 : (c : Int) < (n : Int) + 1 := by omega
  have hw1 : IntKind.i64.wrap ((i : Int) + 1) = (i : Int) + 1 := by rw [IntKind.wrap_i64]; omega
  have hb1 : (0 : Int) ≤ (i : Int) + 1 := by omega
  have hin' : i ≤ n := by omega
  have htn : ((i : Int) + 1).toNat = i + 1 := by omega
  have hGi : ¬ (G = i) := by omega
  have hGim : ¬ (G = i + 1) := by omega
  have hci : ¬ (c = i) := by omega
  have hb3 : (i : Int) ≤ (n : Int) := by omega
  have hn63 : n ≤ 4611686018427387904 := by omega
  have HC1 := Aside0.mk hcp1
  have HC2 := Aside0.mk hcp2
  have HW := Aside0.mk hW0
  clear hcp1 hcp2 hR1 hR2 hs1 hs2 ho1 ho2 hi1 hi2 h1c h1v h1n hng hnews hdl hvs hR hV hC hcap hvl hR0g hN0 hold0 hgN hvN hRl hROW hG hold hog hol holds hkk hik hgw hvw hW0
  go_enter Try.func121, Try.ntmps121
  go_wp2_with (at_builtin; refine Lib.wpList_append_run _ rfl _ _ _ _ rfl _ _ rfl rfl _ _ (hrz _) ?_)
  rw [← HW.out, HC1.out]
  go_wp2
  go_region_law (refine step_copy_runI rfl _ _ 28 28 rfl _ _ (by simp [Act.eval, Act.put]) (by simp [Act.eval, Act.put]) (HC2.out _ (G - (i + 1)) (c - i)) ?_)
  go_wp2
  go_ret
  exact ⟨_, _, _, rfl, FIN.out⟩

theorem cmpW (a b : ByteArray) (w : World) : Calls Try.prog 132 #[.string a, .string b] w fun e w' => e = .returned (.int .i64 (cmpS a b)) ∧ w' = w := by
  have hx : (callFunc 140 #[.string a, .string b]).run Try.prog w = .ok (.value (.int .i64 (cmpS a b))) w := by
    rw [run_callFunc_extern Try.func140 (by kernel_rfl) (by kernel_rfl) (by kernel_rfl) (e := Extern.BytealgCompare.compare) (by kernel_rfl), Lib.run_compareString]
    rfl
  go_enter Try.func132, Try.ntmps132
  go_wp2_with (simp only [hx])
  go_ret
  exact ⟨rfl, rfl⟩

end Go.Proofs.Ytfjoamlgbegpgaa.P
