/- Part of proofs of this seat: no statement of its own. -/
import Derived.Test.YtfjoamlgbegpgaaDLA
set_option linter.unusedVariables false
set_option linter.unusedSimpArgs false
namespace Go.Proofs.Ytfjoamlgbegpgaa.P
open Go Go.Proofs.Ytfjoamlgbegpgaa.PM Go.Proofs
theorem ev_step {α : Type} {g f : Nat → Option α} {P : α → Prop} (h : ∀ k, g (k + 1) = f k) (e : ∃ r, Ev f r ∧ P r) : ∃ r, Ev g r ∧ P r := by
  obtain ⟨r, hr, hp⟩ := e
  exact ⟨r, Ev.step h hr, hp⟩
structure Cd (l : List Int) : Prop where
  n : l.length ≤ 1048576
  b : ∀ x ∈ l, 0 ≤ x ∧ x ≤ 255
def RdOk (l : List Int) (p : Int) : Prop := 0 ≤ p ∧ p ≤ l.length
theorem at_cd {l : List Int} (h : Cd l) {i : Int} (h0 : 0 ≤ i) (h1 : i < l.length) : 0 ≤ at' l i ∧ at' l i ≤ 255 := h.b _ (getD_mem default l i h0 h1)
theorem next_ev {l : List Int} (hl : Cd l) {p : Int} (hp : RdOk l p) : ∃ r : Int × Int, Ev (fun k => f102 k l p) r ∧ (0 ≤ r.1 ∧ r.1 ≤ 255) ∧ RdOk l r.2 := by
  obtain ⟨h0, h1⟩ := hp
  have hn := hl.n
  unfold f102
  by_cases h : (l.length : Int) ≤ p
  · exact ⟨(0, p), Ev.pos h (Ev.ret _), ⟨Int.le_refl _, by show (0 : Int) ≤ 255; omega⟩, h0, h1⟩
  · have e1 : IntKind.i64.wrap (p + 1) = p + 1 := wr (by omega) (by omega)
    have e : IntKind.i64.wrap (IntKind.i64.wrap (p + 1) - 1) = p := by rw [e1, wr (by omega) (by omega)]; omega
    obtain ⟨a, b⟩ := at_cd hl h0 (by omega)
    rw [e, e1, wr (n := at' l p) (by omega) (by omega)]
    exact ⟨(at' l p, p + 1), Ev.neg h (Ev.pos h0 (Ev.pos (by omega) (Ev.ret _))), ⟨a, b⟩, by show 0 ≤ p + 1; omega, by show p + 1 ≤ _; omega⟩
theorem below_ev {l : List Int} (hl : Cd l) {p : Int} (hp : RdOk l p) (n : Int) : ∃ r : Int × Int, Ev (fun k => f63 k n l p) r ∧ (0 ≤ r.1 ∧ (1 ≤ n → r.1 < n)) ∧ RdOk l r.2 := by
  unfold f63
  by_cases h1 : n ≤ 1
  · exact ⟨(0, p), Ev.pos h1 (Ev.ret _), ⟨Int.le_refl _, fun h => by show (0 : Int) < n; omega⟩, hp⟩
  by_cases h2 : n ≤ 256
  · obtain ⟨r, hr, ⟨a, b⟩, hq⟩ := next_ev hl hp
    exact ⟨(r.1.tmod n, r.2), Ev.neg h1 (Ev.pos h2 (Ev.bind hr (Ev.pos (by omega) (Ev.ret _)))), ⟨Int.tmod_nonneg _ a, fun _ => Int.tmod_lt_of_pos _ (by omega)⟩, hq⟩
  · obtain ⟨r, hr, ⟨a, b⟩, hq⟩ := next_ev hl hp
    obtain ⟨u, hu, ⟨c, d⟩, hv⟩ := next_ev hl hq
    have e : IntKind.i64.wrap (IntKind.i64.wrap (r.1 * 256) + u.1) = r.1 * 256 + u.1 := by rw [wr (n := r.1 * 256) (by omega) (by omega), wr (by omega) (by omega)]
    exact ⟨((r.1 * 256 + u.1).tmod n, u.2), Ev.neg h1 (Ev.neg h2 (Ev.bind hr (Ev.bind hu (Ev.pos (by omega) (Ev.ret' (by rw [e])))))), ⟨Int.tmod_nonneg _ (by omega), fun _ => Int.tmod_lt_of_pos _ (by omega)⟩, hv⟩
theorem size_ev {l : List Int} (hl : Cd l) {p : Int} (hp : RdOk l p) (a m : Int) (ha : 0 < a) (hm : 1 ≤ m) (hm' : m ≤ 1048576) : ∃ r : Int × Int, Ev (fun k => f95 k a m l p) r ∧ (1 ≤ r.1 ∧ r.1 ≤ m) ∧ RdOk l r.2 := by
  have hn := hl.n
  have t0 : 0 ≤ (l.length : Int).tdiv a := Int.tdiv_nonneg (by omega) (by omega)
  have t1 : (l.length : Int).tdiv a ≤ l.length := Int.tdiv_le_self _ (by omega)
  unfold f95
  rw [wr (n := (l.length : Int).tdiv a) (by omega) (by omega), wr (n := 1 + (l.length : Int).tdiv a) (by omega) (by omega)]
  by_cases h : m < 1 + (l.length : Int).tdiv a
  · obtain ⟨r, hr, ⟨c, d⟩, hq⟩ := below_ev hl hp m
    have d := d hm
    exact ⟨(1 + r.1, r.2), Ev.pos (by omega) (Ev.pos h (Ev.bind hr (Ev.ret' (by rw [wr (by omega) (by omega)])))), ⟨by show 1 ≤ 1 + r.1; omega, by show 1 + r.1 ≤ m; omega⟩, hq⟩
  · obtain ⟨r, hr, ⟨c, d⟩, hq⟩ := below_ev hl hp (1 + (l.length : Int).tdiv a)
    have d := d (by omega)
    exact ⟨(1 + r.1, r.2), Ev.pos (by omega) (Ev.neg h (Ev.bind hr (Ev.ret' (by rw [wr (by omega) (by omega)])))), ⟨by show 1 ≤ 1 + r.1; omega, by show 1 + r.1 ≤ m; omega⟩, hq⟩
theorem once_ev {l : List Int} (hl : Cd l) {p : Int} (hp : RdOk l p) (n : Int) : ∃ r : Bool × Int, Ev (fun k => f56 k n l p) r ∧ RdOk l r.2 := by
  unfold f56
  obtain ⟨r, hr, _, hq⟩ := below_ev hl hp n
  exact ⟨_, Ev.bind hr (Ev.ret _), hq⟩
theorem sizes_of {L : List ByteArray} {i : Int} {B : Nat} (h : L.all (fun s => decide (s.size ≤ B)) = true) (h0 : 0 ≤ i) (h1 : i < L.length) : (at' L i).size ≤ B := of_decide_eq_true (List.all_eq_true.1 h _ (getD_mem default L i h0 h1))
theorem data_ev {l : List Int} (hl : Cd l) {p : Int} (hp : RdOk l p) : ∃ r : ByteArray × Int, Ev (fun k => f64 k l p) r ∧ r.1.size ≤ 6 ∧ RdOk l r.2 := by
  unfold f64
  obtain ⟨r, hr, ⟨a, b⟩, hq⟩ := below_ev hl hp 8
  have b := b (by omega)
  exact ⟨_, Ev.bind hr (Ev.pos a (Ev.pos (by omega) (Ev.ret _))), sizes_of (by rfl) a (by show r.1 < 8; omega), hq⟩
theorem dop_ev {l : List Int} (hl : Cd l) {p : Int} (hp : RdOk l p) : ∃ r : Int × ByteArray × ByteArray × ByteArray × Int, Ev (fun k => f97 k l p) r ∧ r.2.2.2.1.size ≤ 6 ∧ RdOk l r.2.2.2.2 := by
  unfold f97
  obtain ⟨r, hr, ⟨a, b⟩, hq⟩ := below_ev hl hp 4
  have b := b (by omega)
  obtain ⟨u, hu, ⟨c, d⟩, hv⟩ := below_ev hl hq 5
  by_cases h0 : u.1 = 0
  · obtain ⟨w, hw, ⟨e, f⟩, hx⟩ := below_ev hl hv 3
    have f := f (by omega)
    exact ⟨_, Ev.bind hr (Ev.pos a (Ev.pos (by omega) (Ev.bind hu (Ev.pos h0 (Ev.bind hw (Ev.pos e (Ev.pos (by omega) (Ev.ret _)))))))), Nat.zero_le _, hx⟩
  · by_cases h1 : u.1 = 1
    · exact ⟨_, Ev.bind hr (Ev.pos a (Ev.pos (by omega) (Ev.bind hu (Ev.neg h0 (Ev.pos h1 (Ev.ret _)))))), Nat.zero_le _, hv⟩
    · obtain ⟨w, hw, hs, hx⟩ := data_ev hl hv
      exact ⟨_, Ev.bind hr (Ev.pos a (Ev.pos (by omega) (Ev.bind hu (Ev.neg h0 (Ev.neg h1 (Ev.bind hw (Ev.ret _))))))), hs, hx⟩
structure Inv (live safe : List S80) (ops : List S73) : Prop where
  l : filesB live = true
  s : filesB safe = true
  n : ops.length ≤ 200
  o : ∀ x ∈ ops, x.f3.size ≤ 1048576
theorem small_of {l : List S80} (h : filesB l = true) : smallF l := fun x hx => by have := (filesB_said h).2.2 x hx; omega
theorem Inv.mt : Inv [] [] [] := ⟨by decide, by decide, by decide, fun x hx => by cases hx⟩
theorem copyD_ev {live safe : List S80} {ops : List S73} (h : Inv live safe ops) : Ev (fun k => f66 k live safe ops) (live, safe, ops) := by
  have a := (filesB_said h.l).2.1
  have b := (filesB_said h.s).2.1
  have c := h.n
  unfold f66
  exact Ev.pos (by omega) (Ev.pos (by omega) (Ev.pos (by omega) (Ev.pos (by omega) (Ev.pos (by omega) (Ev.pos (by omega) (Ev.ret _))))))
theorem act_ev {live safe : List S80} {ops : List S73} (h : Inv live safe ops) (k : Int) (n t d : ByteArray) (hd : d.size ≤ 1048576) : ∃ r : Int × List S80 × List S80 × List S73, Ev (fun q => f65 q live safe ops k n t d) r ∧ Inv r.2.1 r.2.2.1 r.2.2.2 := by
  obtain ⟨hr, h60, hsz⟩ := filesB_said h.l
  have hn := h.n
  unfold f65
  cases hf : formB k n t d with
  | false => exact ⟨_, Ev.bind (l4Form_ev k n t d) (by rw [hf]; exact Ev.neg (by simp) (Ev.bind (copyD_ev h) (Ev.ret _))), h⟩
  | true =>
    have hdo := l4Do_ev live k n t d hr (by omega) (fun x hx => by have := hsz x hx; omega) (by omega)
    cases hok : (doS live k n t d).2 with
    | false =>
      rw [hok] at hdo
      exact ⟨_, Ev.bind (l4Form_ev k n t d) (by rw [hf]; exact Ev.pos rfl (Ev.bind hdo (Ev.neg (by simp) (Ev.bind (copyD_ev h) (Ev.ret _))))), h⟩
    | true =>
      have hl := l4Files_ev _ (doS_small hsz k n t d hf (by omega) hok)
      rw [hok] at hdo
      by_cases h2 : (ops.length : Int) = 200
      · exact ⟨_, Ev.bind (l4Form_ev k n t d) (by rw [hf]; exact Ev.pos rfl (Ev.bind hdo (Ev.pos rfl (Ev.pos h2 (Ev.bind (copyD_ev h) (Ev.ret _)))))), h⟩
      · cases hfn : filesB (doS live k n t d).1 with
        | false =>
          rw [hfn] at hl
          exact ⟨_, Ev.bind (l4Form_ev k n t d) (by rw [hf]; exact Ev.pos rfl (Ev.bind hdo (Ev.pos rfl (Ev.neg h2 (Ev.bind hl (Ev.neg (by simp) (Ev.bind (copyD_ev h) (Ev.ret _)))))))), h⟩
        | true =>
          rw [hfn] at hl
          refine ⟨_, Ev.bind (l4Form_ev k n t d) (by rw [hf]; exact Ev.pos rfl (Ev.bind hdo (Ev.pos rfl (Ev.neg h2 (Ev.bind hl (Ev.pos rfl (Ev.bind (copyD_ev h) (Ev.pos (by show (ops.length + 1) * 56 ≤ _; omega) (Ev.pos (by show ops.length + 1 ≤ _; omega) (Ev.ret _)))))))))), hfn, h.s, ?_, ?_⟩
          · show (ops ++ [(⟨k, n, t, d⟩ : S73)]).length ≤ 200
            rw [List.length_append, List.length_singleton]
            omega
          · intro x hx
            rcases List.mem_append.1 hx with hx | hx
            · exact h.o x hx
            · rw [List.mem_singleton.1 hx]; exact hd
theorem do_ev {live safe : List S80} {ops : List S73} (h : Inv live safe ops) (k : Int) (n t d : ByteArray) (hd : d.size ≤ 1048576) : ∃ r : Int × List S80 × List S80 × List S73, Ev (fun q => f96 q live safe ops k n t d) r ∧ (r.1 = 0 → Inv r.2.1 r.2.2.1 r.2.2.2) := by
  unfold f96
  have hk := DiskOk_ev live safe ops (small_of h.l) (small_of h.s) (fun x hx => by have := h.o x hx; omega)
  cases hb : diskB live safe ops with
  | false =>
    rw [hb] at hk
    exact ⟨(1, [], [], []), Ev.bind hk (Ev.neg (by simp) (Ev.ret _)), fun e => absurd e (by show ¬ (1 : Int) = 0; omega)⟩
  | true =>
    rw [hb] at hk
    obtain ⟨r, hr, hi⟩ := act_ev h k n t d hd
    exact ⟨_, Ev.bind hk (Ev.pos rfl (Ev.bind hr (Ev.ret _))), fun _ => hi⟩
theorem sync_ev {live safe : List S80} {ops : List S73} (h : Inv live safe ops) : ∃ r : List S80 × List S80 × List S73, Ev (fun q => f28 q live safe ops) r ∧ Inv r.1 r.2.1 r.2.2 := by
  unfold f28
  have h60 := (filesB_said h.l).2.1
  have hk := DiskOk_ev live safe ops (small_of h.l) (small_of h.s) (fun x hx => by have := h.o x hx; omega)
  cases hb : diskB live safe ops with
  | false =>
    rw [hb] at hk
    exact ⟨_, Ev.bind hk (Ev.neg (by simp) (Ev.ret _)), Inv.mt⟩
  | true =>
    rw [hb] at hk
    exact ⟨_, Ev.bind hk (Ev.pos rfl (Ev.pos (by omega) (Ev.pos (by omega) (Ev.ret _)))), h.l, h.l, Nat.zero_le _, fun x hx => by cases hx⟩
structure Sm (live safe : List S80) (ops : List S73) : Prop where
  ln : live.length ≤ 61
  ls : smallF live
  sn : safe.length ≤ 61
  ss : smallF safe
  n : ops.length ≤ 200
  o : ∀ x ∈ ops, x.f3.size ≤ 1048576
theorem Inv.sm {live safe : List S80} {ops : List S73} (h : Inv live safe ops) : Sm live safe ops :=
  ⟨by have := (filesB_said h.l).2.1; omega, small_of h.l, by have := (filesB_said h.s).2.1; omega, small_of h.s, h.n, h.o⟩
def Fin5 (l : List Int) (r : List S80 × List S80 × List S73 × List Int × Int) : Prop := Sm r.1 r.2.1 r.2.2.1 ∧ r.2.2.2.1 = l ∧ RdOk l r.2.2.2.2
theorem strOf_size (l : List Int) : (strOf l).size = l.length := by
  show (l.map _).toArray.size = _
  rw [List.size_toArray, List.length_map]
theorem big_small (n : ByteArray) (t : Int) (h0 : 0 ≤ t) (h1 : t ≤ 200000) (x : S80) (hx : x ∈ ([(⟨n, strOf (List.replicate t.toNat 0)⟩ : S80)] : List S80)) : x.f1.size ≤ 1099511627776 := by
  rw [List.mem_singleton.1 hx]
  show (strOf _).size ≤ _
  rw [strOf_size, List.length_replicate]
  omega
theorem tail_ev {l : List Int} (hl : Cd l) {p : Int} (hp : RdOk l p) {q3 q4 : List S80} {q5 : List S73} (h : Inv q3 q4 q5) :
    ∃ r, Ev (fun k => ((f63 k 40 l p).bind fun t8 => (if t8.1 = 0 then (if (q3.length + 1) * 32 ≤ 70368744177664 then (if q3.length + 1 ≤ 70368744177664 then some ((q3 ++ ([(⟨(⟨#[122, 122]⟩ : ByteArray), (⟨#[]⟩ : ByteArray)⟩ : S80)] : List S80)), q4, q5, l, t8.2) else none) else none) else (if t8.1 = 1 then (if 0 < ((q5.length : Nat) : Int) then (if 0 ≤ 1 then (if 1 ≤ ((q5.length : Nat) : Int) then some (q3, q4, ((q5.drop 1).take (q5.length - 1)), l, t8.2) else none) else none) else some (q3, q4, q5, l, t8.2)) else (if t8.1 = 2 then ((f63 k 9 l t8.2).bind fun t9 => (if 0 ≤ (IntKind.i64.wrap (200000 - t9.1)) then (if (IntKind.i64.wrap (200000 - t9.1)) ≤ (IntKind.i64.wrap (200000 - t9.1)) then (if (IntKind.i64.wrap (200000 - t9.1)) * 1 ≤ 70368744177664 then (if (IntKind.i64.wrap (200000 - t9.1)) ≤ 70368744177664 then some (([(⟨(⟨#[98, 105, 103]⟩ : ByteArray), (strOf (List.replicate (IntKind.i64.wrap (200000 - t9.1)).toNat 0))⟩ : S80)] : List S80), ([(⟨(⟨#[98, 105, 103]⟩ : ByteArray), (strOf (List.replicate (IntKind.i64.wrap (200000 - t9.1)).toNat 0))⟩ : S80)] : List S80), ([] : List S73), l, t9.2) else none) else none) else none) else none)) else some (q3, q4, q5, l, t8.2)))))) r ∧ Fin5 l r := by
  have hs := h.sm
  have h60 := (filesB_said h.l).2.1
  obtain ⟨r, hr, ⟨a, b⟩, hq⟩ := below_ev hl hp 40
  by_cases h0 : r.1 = 0
  · refine ⟨_, Ev.bind hr (Ev.pos h0 (Ev.pos (by omega) (Ev.pos (by omega) (Ev.ret _)))), ⟨?_, ?_, hs.sn, hs.ss, hs.n, hs.o⟩, rfl, hq⟩
    · show (q3 ++ _).length ≤ 61
      rw [List.length_append, List.length_singleton]; omega
    · intro x hx
      rcases List.mem_append.1 hx with hx | hx
      · exact hs.ls x hx
      · rw [List.mem_singleton.1 hx]; exact Nat.zero_le _
  · by_cases h1 : r.1 = 1
    · by_cases h2 : 0 < ((q5.length : Nat) : Int)
      · refine ⟨_, Ev.bind hr (Ev.neg h0 (Ev.pos h1 (Ev.pos h2 (Ev.pos (by omega) (Ev.pos (by omega) (Ev.ret _)))))), ⟨hs.ln, hs.ls, hs.sn, hs.ss, ?_, ?_⟩, rfl, hq⟩
        · show ((q5.drop 1).take _).length ≤ 200
          have := hs.n
          rw [List.length_take, List.length_drop]; omega
        · exact fun x hx => hs.o x (List.mem_of_mem_drop (List.mem_of_mem_take hx))
      · exact ⟨_, Ev.bind hr (Ev.neg h0 (Ev.pos h1 (Ev.neg h2 (Ev.ret _)))), hs, rfl, hq⟩
    · by_cases h2 : r.1 = 2
      · obtain ⟨u, hu, ⟨c, d⟩, hv⟩ := below_ev hl hq 9
        have d := d (by omega)
        have e : IntKind.i64.wrap (200000 - u.1) = 200000 - u.1 := wr (by omega) (by omega)
        refine ⟨_, Ev.bind hr (Ev.neg h0 (Ev.neg h1 (Ev.pos h2 (Ev.bind hu (Ev.pos (by omega) (Ev.pos (by omega) (Ev.pos (by omega) (Ev.pos (by omega) (Ev.ret _))))))))), ⟨by show (1 : Nat) ≤ 61; omega, ?_, by show (1 : Nat) ≤ 61; omega, ?_, Nat.zero_le _, fun x hx => by cases hx⟩, rfl, hv⟩
        · exact fun x hx => big_small _ _ (by omega) (by omega) x hx
        · exact fun x hx => big_small _ _ (by omega) (by omega) x hx
      · exact ⟨_, Ev.bind hr (Ev.neg h0 (Ev.neg h1 (Ev.neg h2 (Ev.ret _)))), hs, rfl, hq⟩
theorem disk_loop {l : List Int} (hl : Cd l) : ∀ (d : Nat) (q3 q4 : List S80) (q5 : List S73) (p : Int), d ≤ 1000 → Inv q3 q4 q5 → RdOk l p → ∃ r, Ev (fun k => f55.l3v1 k q3 q4 q5 (d : Int) l p) r ∧ Fin5 l r
  | 0, q3, q4, q5, p, _, h, hp => by
    obtain ⟨r, hr, hf⟩ := tail_ev hl hp h
    refine ev_step (fun k => by rw [f55.l3v1]) ?_
    exact ⟨r, Ev.neg (by simp) hr, hf⟩
  | d + 1, q3, q4, q5, p, hd, h, hp => by
    have e : IntKind.i64.wrap (((d + 1 : Nat) : Int) - 1) = (d : Int) := by rw [wr (by omega) (by omega)]; omega
    obtain ⟨u, hu, hq⟩ := once_ev hl hp 5
    cases hb : u.1 with
    | true =>
      obtain ⟨s, hs, hi⟩ := sync_ev h
      obtain ⟨r, hr, hf⟩ := disk_loop hl d s.1 s.2.1 s.2.2 u.2 (by omega) hi hq
      refine ev_step (fun k => by rw [f55.l3v1]) ?_
      exact ⟨r, Ev.pos (by omega) (Ev.bind hu (Ev.pos hb (Ev.bind hs (by rw [e]; exact hr)))), hf⟩
    | false =>
      obtain ⟨o, ho, hod, hoq⟩ := dop_ev hl hq
      obtain ⟨c, hc, hci⟩ := do_ev h o.1 o.2.1 o.2.2.1 o.2.2.2.1 (by omega)
      by_cases h0 : c.1 = 0
      · obtain ⟨r, hr, hf⟩ := disk_loop hl d c.2.1 c.2.2.1 c.2.2.2 o.2.2.2.2 (by omega) (hci h0) hoq
        refine ev_step (fun k => by rw [f55.l3v1]) ?_
        exact ⟨r, Ev.pos (by omega) (Ev.bind hu (Ev.neg (by rw [hb]; simp) (Ev.bind ho (Ev.bind hc (Ev.pos h0 (by rw [e]; exact hr)))))), hf⟩
      · obtain ⟨r, hr, hf⟩ := disk_loop hl d q3 q4 q5 o.2.2.2.2 (by omega) h hoq
        refine ev_step (fun k => by rw [f55.l3v1]) ?_
        exact ⟨r, Ev.pos (by omega) (Ev.bind hu (Ev.neg (by rw [hb]; simp) (Ev.bind ho (Ev.bind hc (Ev.neg h0 (by rw [e]; exact hr)))))), hf⟩
theorem tail0_ev {l : List Int} (hl : Cd l) {p : Int} (hp : RdOk l p) : ∃ r, Ev (fun k => f55.l3 k 0 l p) r ∧ Fin5 l r := by
  have hs := Inv.mt.sm
  obtain ⟨r, hr, ⟨a, b⟩, hq⟩ := below_ev hl hp 40
  by_cases h0 : r.1 = 0
  · refine ev_step (fun k => by rw [f55.l3]) ?_
    refine ⟨_, Ev.neg (by omega) (Ev.bind hr (Ev.pos h0 (Ev.ret _))), ⟨by show (1 : Nat) ≤ 61; omega, ?_, hs.sn, hs.ss, hs.n, hs.o⟩, rfl, hq⟩
    intro x hx
    rw [List.mem_singleton.1 hx]; exact Nat.zero_le _
  · by_cases h1 : r.1 = 1
    · refine ev_step (fun k => by rw [f55.l3]) ?_
      exact ⟨_, Ev.neg (by omega) (Ev.bind hr (Ev.neg h0 (Ev.pos h1 (Ev.ret _)))), hs, rfl, hq⟩
    · by_cases h2 : r.1 = 2
      · obtain ⟨u, hu, ⟨c, d⟩, hv⟩ := below_ev hl hq 9
        have d := d (by omega)
        have e : IntKind.i64.wrap (200000 - u.1) = 200000 - u.1 := wr (by omega) (by omega)
        refine ev_step (fun k => by rw [f55.l3]) ?_
        refine ⟨_, Ev.neg (by omega) (Ev.bind hr (Ev.neg h0 (Ev.neg h1 (Ev.pos h2 (Ev.bind hu (Ev.pos (by omega) (Ev.pos (by omega) (Ev.pos (by omega) (Ev.pos (by omega) (Ev.ret _)))))))))), ⟨by show (1 : Nat) ≤ 61; omega, ?_, by show (1 : Nat) ≤ 61; omega, ?_, Nat.zero_le _, fun x hx => by cases hx⟩, rfl, hv⟩
        · exact fun x hx => big_small _ _ (by omega) (by omega) x hx
        · exact fun x hx => big_small _ _ (by omega) (by omega) x hx
      · refine ev_step (fun k => by rw [f55.l3]) ?_
        exact ⟨_, Ev.neg (by omega) (Ev.bind hr (Ev.neg h0 (Ev.neg h1 (Ev.neg h2 (Ev.ret _))))), hs, rfl, hq⟩
theorem disk_loop0 {l : List Int} (hl : Cd l) : ∀ (d : Nat) (p : Int), d ≤ 1000 → RdOk l p → ∃ r, Ev (fun k => f55.l3 k (d : Int) l p) r ∧ Fin5 l r
  | 0, p, _, hp => tail0_ev hl hp
  | d + 1, p, hd, hp => by
    have e : IntKind.i64.wrap (((d + 1 : Nat) : Int) - 1) = (d : Int) := by rw [wr (by omega) (by omega)]; omega
    obtain ⟨u, hu, hq⟩ := once_ev hl hp 5
    cases hb : u.1 with
    | true =>
      obtain ⟨s, hs, hi⟩ := sync_ev Inv.mt
      obtain ⟨r, hr, hf⟩ := disk_loop hl d s.1 s.2.1 s.2.2 u.2 (by omega) hi hq
      refine ev_step (fun k => by rw [f55.l3]) ?_
      exact ⟨r, Ev.pos (by omega) (Ev.bind hu (Ev.pos hb (Ev.bind hs (by rw [e]; exact hr)))), hf⟩
    | false =>
      obtain ⟨o, ho, hod, hoq⟩ := dop_ev hl hq
      obtain ⟨c, hc, hci⟩ := do_ev Inv.mt o.1 o.2.1 o.2.2.1 o.2.2.2.1 (by omega)
      by_cases h0 : c.1 = 0
      · obtain ⟨r, hr, hf⟩ := disk_loop hl d c.2.1 c.2.2.1 c.2.2.2 o.2.2.2.2 (by omega) (hci h0) hoq
        refine ev_step (fun k => by rw [f55.l3]) ?_
        exact ⟨r, Ev.pos (by omega) (Ev.bind hu (Ev.neg (by rw [hb]; simp) (Ev.bind ho (Ev.bind hc (Ev.pos h0 (by rw [e]; exact hr)))))), hf⟩
      · obtain ⟨r, hr, hf⟩ := disk_loop0 hl d o.2.2.2.2 (by omega) hoq
        refine ev_step (fun k => by rw [f55.l3]) ?_
        exact ⟨r, Ev.pos (by omega) (Ev.bind hu (Ev.neg (by rw [hb]; simp) (Ev.bind ho (Ev.bind hc (Ev.neg h0 (by rw [e]; exact hr)))))), hf⟩
theorem disk_ev {l : List Int} (hl : Cd l) {p : Int} (hp : RdOk l p) : ∃ r, Ev (fun k => f55 k l p) r ∧ Fin5 l r := by
  obtain ⟨u, hu, ⟨a, b⟩, hq⟩ := size_ev hl hp 3 10 (by omega) (by omega) (by omega)
  obtain ⟨d, hd⟩ := Int.eq_ofNat_of_zero_le (show 0 ≤ u.1 by omega)
  obtain ⟨r, hr, hf⟩ := disk_loop0 hl d u.2 (by omega) hq
  exact ⟨r, Ev.bind hu (by rw [hd]; exact hr), hf⟩
theorem word_loop {l : List Int} (hl : Cd l) : ∀ (d : Nat) (x p : Int), d ≤ 8 → RdOk l p → ∃ r, Ev (fun k => f117.l3 k x (8 - (d : Int)) l p) r ∧ r.2.1 = l ∧ RdOk l r.2.2
  | 0, x, p, _, hp => by
    refine ev_step (fun k => by rw [f117.l3]) ?_
    exact ⟨_, Ev.neg (by omega) (Ev.ret _), rfl, hp⟩
  | d + 1, x, p, hd, hp => by
    have e : IntKind.i64.wrap (8 - ((d + 1 : Nat) : Int) + 1) = 8 - (d : Int) := by rw [wr (by omega) (by omega)]; omega
    obtain ⟨u, hu, _, hq⟩ := next_ev hl hp
    obtain ⟨r, hr, hf⟩ := word_loop hl d (orI .u64 (shlI .u64 x 8) (IntKind.u64.wrap u.1)) u.2 (by omega) hq
    refine ev_step (fun k => by rw [f117.l3]) ?_
    exact ⟨r, Ev.pos (by omega) (Ev.bind hu (by rw [e]; exact hr)), hf⟩
theorem word_ev {l : List Int} (hl : Cd l) {p : Int} (hp : RdOk l p) : ∃ r, Ev (fun k => f117 k l p) r ∧ r.2.1 = l ∧ RdOk l r.2.2 := word_loop hl 8 0 p (Nat.le_refl _) hp
theorem near_ev {l : List Int} (hl : Cd l) {p : Int} (hp : RdOk l p) (a b : Int) (ha : 0 ≤ a) (hb : b ≤ 1048576) : ∃ r, Ev (fun k => f98 k a b l p) r ∧ r.2.1 = l ∧ RdOk l r.2.2 := by
  unfold f98
  obtain ⟨u, hu, _, hq⟩ := below_ev hl hp 8
  by_cases h0 : u.1 = 0
  · exact ⟨_, Ev.bind hu (Ev.pos h0 (Ev.ret _)), rfl, hq⟩
  by_cases h1 : u.1 = 1
  · exact ⟨_, Ev.bind hu (Ev.neg h0 (Ev.pos h1 (Ev.ret _))), rfl, hq⟩
  by_cases h2 : b < a
  · exact ⟨_, Ev.bind hu (Ev.neg h0 (Ev.neg h1 (Ev.pos h2 (Ev.ret _)))), rfl, hq⟩
  obtain ⟨w, hw, hl', hv⟩ := word_ev hl hq
  have e : IntKind.u64.wrap (IntKind.i64.wrap (IntKind.i64.wrap (b - a) + 1)) = b - a + 1 := by
    rw [wr (n := b - a) (by omega) (by omega), wr (by omega) (by omega), IntWalk.u64_in _ ⟨by omega, by omega⟩]
  exact ⟨_, Ev.bind hu (Ev.neg h0 (Ev.neg h1 (Ev.neg h2 (Ev.bind hw (Ev.pos (by rw [e]; omega) (Ev.ret _)))))), hl', hv⟩
theorem off_ev {l : List Int} (hl : Cd l) {p : Int} (hp : RdOk l p) (a b : Int) (ha : 0 ≤ a) (hb : b ≤ 1048576) : ∃ r, Ev (fun k => f57 k a b l p) r ∧ r.2.1 = l ∧ RdOk l r.2.2 := by
  unfold f57
  obtain ⟨u, hu, hq⟩ := once_ev hl hp 24
  cases hb' : u.1 with
  | true =>
    obtain ⟨w, hw, ⟨c, d⟩, hv⟩ := below_ev hl hq 4
    have d := d (by omega)
    exact ⟨_, Ev.bind hu (Ev.pos hb' (Ev.bind hw (Ev.pos c (Ev.pos (by omega) (Ev.ret _))))), rfl, hv⟩
  | false =>
    obtain ⟨w, hw, hl', hv⟩ := near_ev hl hq a b ha hb
    exact ⟨_, Ev.bind hu (Ev.neg (by rw [hb']; simp) (Ev.bind hw (Ev.ret _))), hl', hv⟩
def Fin20 (r : List S80 × List S80 × List S73 × List Int × Int) : Prop := Sm r.1 r.2.1 r.2.2.1 ∧ r.2.2.2.1.length ≤ 300
theorem draw_loop {l : List Int} (hl : Cd l) {b0 b1 : List S80} {b2 : List S73} (h : Sm b0 b1 b2) : ∀ (d i : Nat) (q : List Int) (p : Int), b2.length - i = d → i ≤ b2.length → q.length ≤ i → RdOk l p → ∃ r, Ev (fun k => f20.l5 k q (i : Int) l p b0 b1 b2) r ∧ Fin20 r
  | 0, i, q, p, hd, hi, hq, hp => by
    have hn := h.n
    obtain ⟨u, hu, hv⟩ := once_ev hl hp 16
    cases hb : u.1 with
    | true =>
      obtain ⟨w, hw, hl', hx⟩ := off_ev hl hv 0 (b2.length : Int) (by omega) (by omega)
      obtain ⟨y, hy, _, _⟩ := off_ev hl hx 0 4 (by omega) (by omega)
      refine ev_step (fun k => by rw [f20.l5]) ?_
      refine ⟨_, Ev.neg (by omega) (Ev.bind hu (Ev.pos hb (Ev.bind hw (Ev.pos (by omega) (Ev.pos (by omega) (Ev.bind (by rw [hl']; exact hy) (Ev.ret _))))))), h, ?_⟩
      show (q ++ [w.1]).length ≤ 300
      rw [List.length_append, List.length_singleton]; omega
    | false =>
      obtain ⟨y, hy, _, _⟩ := off_ev hl hv 0 4 (by omega) (by omega)
      refine ev_step (fun k => by rw [f20.l5]) ?_
      exact ⟨_, Ev.neg (by omega) (Ev.bind hu (Ev.neg (by rw [hb]; simp) (Ev.bind hy (Ev.ret _)))), h, by show q.length ≤ 300; omega⟩
  | d + 1, i, q, p, hd, hi, hq, hp => by
    have hn := h.n
    have e : IntKind.i64.wrap ((i : Int) + 1) = ((i + 1 : Nat) : Int) := by rw [wr (by omega) (by omega)]; omega
    obtain ⟨u, hu, hv⟩ := once_ev hl hp 2
    cases hb : u.1 with
    | true =>
      obtain ⟨r, hr, hf⟩ := draw_loop hl h d (i + 1) (q ++ [(i : Int)]) u.2 (by omega) (by omega) (by rw [List.length_append, List.length_singleton]; omega) hv
      refine ev_step (fun k => by rw [f20.l5]) ?_
      exact ⟨r, Ev.pos (by omega) (Ev.bind hu (Ev.pos hb (Ev.pos (by omega) (Ev.pos (by omega) (by rw [e]; exact hr))))), hf⟩
    | false =>
      obtain ⟨r, hr, hf⟩ := draw_loop hl h d (i + 1) q u.2 (by omega) (by omega) (by omega) hv
      refine ev_step (fun k => by rw [f20.l5]) ?_
      exact ⟨r, Ev.pos (by omega) (Ev.bind hu (Ev.neg (by rw [hb]; simp) (by rw [e]; exact hr))), hf⟩
theorem draw_ev {l : List Int} (hl : Cd l) : ∃ r, Ev (fun k => f20 k l) r ∧ Fin20 r := by
  unfold f20 f54
  obtain ⟨r, hr, hs, he, hq⟩ := disk_ev hl (p := 0) ⟨Int.le_refl _, by omega⟩
  obtain ⟨u, hu, hf⟩ := draw_loop hl hs r.2.2.1.length 0 [] r.2.2.2.2 rfl (Nat.zero_le _) (Nat.le_refl _) hq
  exact ⟨u, Ev.bind (Ev.ret _) (Ev.bind hr (by rw [he]; exact hu)), hf⟩
end Go.Proofs.Ytfjoamlgbegpgaa.P
namespace Go.Proofs.Ytfjoamlgbegpgaa.P
open Go Go.Proofs.Ytfjoamlgbegpgaa.PM Go.Proofs
theorem sameFiles_loop (l m : List S80) (hm : l.length = m.length) (hl : l.length ≤ 4611686018427387904) (d : Nat) : ∀ i : Nat, l.length - i = d → i ≤ l.length → Ev (fun k => f23.l4 k l m (i : Int)) (sameF (l.drop i) (m.drop i)) := by
  induction d with
  | zero =>
    intro i hd hi
    refine Ev.step (fun k => by rw [f23.l4]) (Ev.neg (by omega) (Ev.ret' ?_))
    rw [List.drop_of_length_le (by omega), List.drop_of_length_le (by omega)]; rfl
  | succ d ih =>
    intro i hd hi
    have h1 : i < l.length := by omega
    have h2 : i < m.length := by omega
    refine Ev.step (fun k => by rw [f23.l4]) (Ev.pos (by omega) (Ev.pos (by omega) (Ev.pos (by omega) ?_)))
    rw [rdF_nat l i h1, rdF_nat m i h2, eqF_eq, sameF_step l m i h1 h2]
    cases eqF l[i] m[i] with
    | false => exact Ev.neg (by simp) (Ev.ret' (by simp))
    | true =>
      refine Ev.pos rfl ?_
      rw [show IntKind.i64.wrap ((i : Int) + 1) = ((i + 1 : Nat) : Int) by rw [wr (by omega) (by omega)]; omega]
      exact Ev.eq (ih (i + 1) (by omega) (by omega)) (by simp)
theorem sameFiles_ev (l m : List S80) (hl : l.length ≤ 4611686018427387904) : Ev (fun k => f23 k l m) (sameF l m) := by
  unfold f23
  by_cases h : l.length = m.length
  · exact Ev.pos (by omega) (sameFiles_loop l m h hl _ 0 rfl (Nat.zero_le _))
  · exact Ev.neg (by omega) (Ev.ret' (sameF_len l m h).symm)
theorem sameF_self (l : List S80) : sameF l l = true := (sameF_iff l l).2 rfl
def allI (n : Nat) : List Int := (List.range n).map (fun (j : Nat) => (j : Int))
theorem allI_len (n : Nat) : (allI n).length = n := by unfold allI; rw [List.length_map, List.length_range]
theorem allI_succ (n : Nat) : allI (n + 1) = allI n ++ [(n : Int)] := by unfold allI; rw [List.range_succ, List.map_append]; rfl
theorem allI_at {n i : Nat} (h : i < n) : at' (allI n) (i : Int) = (i : Int) := by
  rw [at_nat _ _ (by rw [allI_len]; exact h)]
  unfold allI
  rw [List.getElem_map, List.getElem_range]
theorem minI_le {a b : Int} (h : b ≤ a) : minI a b = b := by
  unfold minI
  split <;> omega
theorem run_all {live : List S80} {ops : List S73} (ho : ∀ x ∈ ops, x.f3.size ≤ 1048576) (d : Nat) : ∀ (i : Nat) (now : List S80), ops.length - i = d → i ≤ ops.length → runB live now (ops.drop i) = true → runK ops (allI ops.length) 1099511627776 now i = live := by
  induction d with
  | zero =>
    intro i now hd hi h
    rw [List.drop_of_length_le (by omega), runB] at h
    rw [runK_end (by rw [allI_len]; omega)]
    exact (sameF_iff _ _).1 h
  | succ d ih =>
    intro i now hd hi h
    have h1 : i < ops.length := by omega
    rw [runK_step (by rw [allI_len]; exact h1)]
    rw [List.drop_eq_getElem_cons h1, runB, Bool.and_eq_true, Bool.and_eq_true, Bool.and_eq_true] at h
    have hsz := ho _ (List.getElem_mem h1)
    have e : stepK ops (allI ops.length) 1099511627776 now i = (onF now ops[i].f0 ops[i].f1 ops[i].f2 ops[i].f3).1 := by
      unfold stepK
      rw [allI_at h1, rdO_nat ops i h1]
      have : ∀ (last : Prop) [Decidable last], cutD 1099511627776 last ops[i].f3 = ops[i].f3 := fun last _ => by
        unfold cutD
        split
        · rw [minI_le (by omega), Int.toNat_natCast]; exact extract_all _
        · rfl
      rw [this]
    rw [e]
    exact ih (i + 1) _ (by omega) (by omega) h.2.2.2
theorem keep_all {n : Nat} (m : Nat) (h : m = n) : allFrom (keepB (allI n) m) 0 (allI n).length = true := by
  subst h
  rw [allFrom_iff, allI_len]
  intro j _ hj
  unfold keepB
  rw [allI_at hj]
  have : (decide (j = 0) || decide (at' (allI m) ((j : Int) - 1) < (j : Int))) = true := by
    by_cases h0 : j = 0
    · rw [decide_eq_true h0]; rfl
    · rw [show (j : Int) - 1 = ((j - 1 : Nat) : Int) by omega, allI_at (by omega), decide_eq_true (by omega : ((j - 1 : Nat) : Int) < (j : Int)), Bool.or_true]
  rw [this, decide_eq_true (by omega : (0 : Int) ≤ (j : Int)), decide_eq_true (by omega : (j : Int) ≤ (m : Int) - 1)]
  rfl
theorem crash_all {live safe : List S80} {ops : List S73} (ho : ∀ x ∈ ops, x.f3.size ≤ 1048576) (h : diskB live safe ops = true) : crashR live safe ops (allI ops.length) 1099511627776 = (true, live, live, []) := by
  have hl : filesB live = true := by
    unfold diskB at h
    rw [Bool.and_eq_true] at h
    exact h.1
  obtain ⟨_, _, hr⟩ := diskB_said h
  unfold crashR finC
  rw [if_pos h, if_neg (by omega), if_pos (keep_all _ rfl), run_all ho _ 0 safe rfl (Nat.zero_le _) hr, if_pos hl]
theorem crash_none {live safe : List S80} {ops : List S73} (h : diskB live safe ops = true) : crashR live safe ops [] 0 = (true, safe, safe, []) := by
  obtain ⟨hs, _, _⟩ := diskB_said h
  unfold crashR finC
  rw [if_pos h, if_neg (by omega), if_pos (show allFrom (keepB ([] : List Int) ops.length) 0 ([] : List Int).length = true from allFrom_end _ (Nat.le_refl _)), runK_end (show ([] : List Int).length ≤ 0 from Nat.le_refl _), if_pos hs]
theorem disk_synced {l : List S80} (h : filesB l = true) : diskB l l [] = true := by
  unfold diskB
  rw [h, runB, sameF_self]; rfl
theorem crash_form (live safe : List S80) (ops : List S73) (keep : List Int) (torn : Int) : crashR live safe ops keep torn = noC ∨ ∃ now, filesB now = true ∧ crashR live safe ops keep torn = (true, now, now, []) := by
  unfold crashR
  split
  · split
    · exact .inl rfl
    · split
      · unfold finC
        split
        · rename_i h
          exact .inr ⟨_, h, rfl⟩
        · exact .inl rfl
      · exact .inl rfl
  · exact .inl rfl
theorem isync_ev {live safe : List S80} {ops : List S73} (hs : Sm live safe ops) (h : diskB live safe ops = true) : Ev (fun k => f24 k live safe ops) (live, live, []) := by
  have hk := isDisk_ev live safe ops hs.ls hs.ss (fun x hx => by have := hs.o x hx; omega) (by have := hs.ln; omega) (by have := hs.sn; omega)
  rw [h] at hk
  unfold f24
  exact Ev.bind hk (Ev.pos rfl (Ev.bind (copyFiles_ev live (by have := hs.ln; omega)) (Ev.ret _)))
theorem iok_ev {now : List S80} (h : filesB now = true) : Ev (fun k => f15 k now now []) true := by
  have h60 := (filesB_said h).2.1
  have hk := isDisk_ev now now [] (small_of h) (small_of h) (fun x hx => by cases hx) (by omega) (by omega)
  rw [disk_synced h] at hk
  unfold f15
  exact Ev.bind hk (Ev.ret _)
theorem crashed_loop {live safe : List S80} {ops : List S73} (hs : Sm live safe ops) (h : diskB live safe ops = true) {ok : Bool} {e0 e1 : List S80} {e2 : List S73} (he : ok = false ∨ (e0 = e1 ∧ e2 = [] ∧ filesB e0 = true)) (d : Nat) : ∀ i : Nat, ops.length - i = d → i ≤ ops.length → Ev (fun k => f5.l12 k (allI i) e0 e1 e2 ok (i : Int) live safe ops) true := by
  have hn := hs.n
  have h0 := hs.ln
  have h1 := hs.sn
  induction d with
  | succ d ih =>
    intro i hd hi
    have e : IntKind.i64.wrap ((i : Int) + 1) = ((i + 1 : Nat) : Int) := by rw [wr (by omega) (by omega)]; omega
    refine Ev.step (fun k => by rw [f5.l12]) (Ev.pos (by omega) (Ev.pos (by rw [allI_len]; omega) (Ev.pos (by rw [allI_len]; omega) ?_)))
    rw [e, ← allI_succ]
    exact ih (i + 1) (by omega) (by omega)
  | zero =>
    intro i hd hi
    obtain rfl : i = ops.length := by omega
    have hl : filesB live = true := by
      unfold diskB at h
      rw [Bool.and_eq_true] at h
      exact h.1
    have c1 := impl_crash live safe ops (allI ops.length) 1099511627776 hs.ls hs.ss (by omega) (by omega) (by omega) (by rw [allI_len]; omega) hs.o
    rw [crash_all hs.o h] at c1
    have c2 := impl_crash live safe ops [] 0 hs.ls hs.ss (by omega) (by omega) (by omega) (Nat.zero_le _) hs.o
    rw [crash_none h] at c2
    have c3 := impl_crash live live [] [] 0 hs.ls hs.ls (by omega) (by omega) (Nat.zero_le _) (Nat.zero_le _) (fun x hx => by cases hx)
    rw [crash_none (disk_synced hl)] at c3
    have s1 := sameFiles_ev live live (by omega)
    rw [sameF_self] at s1
    have s2 := sameFiles_ev safe safe (by omega)
    rw [sameF_self] at s2
    refine Ev.step (fun k => by rw [f5.l12]) (Ev.neg (by omega) ?_)
    refine Ev.bind c1 (Ev.bind c2 (Ev.pos rfl (Ev.pos rfl (Ev.bind s1 (Ev.pos rfl (Ev.bind s2 (Ev.pos rfl (Ev.pos rfl (Ev.bind (isync_ev hs h) (Ev.bind c3 (Ev.pos rfl (Ev.bind s1 (Ev.pos rfl ?_)))))))))))))
    rcases he with rfl | ⟨rfl, rfl, hf⟩
    · exact Ev.neg (by simp) (Ev.ret _)
    · cases ok with
      | false => exact Ev.neg (by simp) (Ev.ret _)
      | true => exact Ev.pos rfl (Ev.bind (iok_ev hf) (Ev.pos rfl (Ev.ret' (by simp))))
theorem u8_of {x : Int} (h : okI .u8 x) : 0 ≤ x ∧ x ≤ 255 := by
  have h' : (decide (IntKind.u8.min ≤ x) && decide (x ≤ IntKind.u8.max)) = true := h
  rw [Bool.and_eq_true, decide_eq_true_eq, decide_eq_true_eq] at h'
  exact h'
theorem law5_ev (l : List Int) (hb : ∀ x ∈ l, 0 ≤ x ∧ x ≤ 255) : Ev (fun k => f5 k l) true := by
  unfold f5 f19
  refine Ev.bind (Ev.ret _) ?_
  by_cases hbig : 1048576 < (l.length : Int)
  · rw [decide_eq_true hbig]; exact Ev.pos rfl (Ev.ret _)
  rw [decide_eq_false hbig]
  refine Ev.neg (by simp) ?_
  obtain ⟨r, hr, hs, hk⟩ := draw_ev (l := l) ⟨by omega, hb⟩
  obtain ⟨live, safe, ops, keep, torn⟩ := r
  simp only at hs hk
  have h0 := hs.ln
  have h1 := hs.sn
  have hn := hs.n
  have c1 := spec_crash live safe ops keep torn hs.ls hs.ss (by omega) (by omega) (by omega) hs.o
  have c2 := impl_crash live safe ops keep torn hs.ls hs.ss (by omega) (by omega) (by omega) (by omega) hs.o
  have hd := DiskOk_ev live safe ops hs.ls hs.ss (fun x hx => by have := hs.o x hx; omega)
  refine Ev.bind hr (Ev.bind c1 (Ev.bind c2 (Ev.pos (by simp) (Ev.bind hd ?_))))
  cases hb' : diskB live safe ops with
  | false =>
    refine Ev.neg (by simp) (Ev.ret' ?_)
    unfold crashR
    rw [hb']; rfl
  | true =>
    refine Ev.pos rfl (crashed_loop hs hb' ?_ _ 0 rfl (Nat.zero_le _))
    rcases crash_form live safe ops keep torn with h | ⟨now, hf, h⟩
    · rw [h]; exact .inl rfl
    · rw [h]; exact .inr ⟨rfl, rfl, hf⟩
end Go.Proofs.Ytfjoamlgbegpgaa.P
