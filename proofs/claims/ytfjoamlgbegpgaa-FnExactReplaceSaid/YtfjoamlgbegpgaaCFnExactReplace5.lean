/- Part 5 of what the row of FnExactReplace needs: functions of the program as plain Lean functions, their contracts, and lemmas; made by a program of this session out of its texts. -/
import Derived.Test.YtfjoamlgbegpgaaCFnExactReplace0
import Derived.Test.YtfjoamlgbegpgaaCFnExactReplace1
import Derived.Test.YtfjoamlgbegpgaaCFnExactReplace3
import Derived.Test.YtfjoamlgbegpgaaCFnExactReplace4
namespace Go.Proofs.Ytfjoamlgbegpgaa.Q
open Go.RowKit Go.Proofs.YtfjoamlgbegpgaaW.PrintWords Go.Proofs.YtfjoamlgbegpgaaW.PrintLast Go.Proofs.YtfjoamlgbegpgaaW.PrintMore
attribute [local go_sem] max2_int min2_int max_two min_two max_three min_three max_four min_four   -- for this text's walks alone
set_option linter.unusedVariables false
set_option linter.unusedSimpArgs false
section
def qbp (n : ByteArray) : ByteArray := n ++ (⟨#[46, 110, 101, 119]⟩ : ByteArray)
def thenB (x : List S80 × List S80 × List S73 × Int) (k : Int) (n t d : ByteArray) : List S80 × List S80 × List S73 × Int :=
 if x.2.2.2 = 0 then actB x.1 x.2.1 x.2.2.1 k n t d else x
def firstB (live safe : List S80) (ops : List S73) (n : ByteArray) : List S80 × List S80 × List S73 × Int :=
 if 0 ≤ idxP (qau (qbp n)) live then actB live safe ops 3 (qbp n) ⟨#[]⟩ ⟨#[]⟩ else (live, safe, ops, 0)
def lastB (live safe : List S80) (ops : List S73) (x : List S80 × List S80 × List S73 × Int) : List S80 × List S80 × List S73 × Int :=
 if x.2.2.2 = 0 then x else (live, safe, ops, x.2.2.2)
def qcv (live safe : List S80) (ops : List S73) (n d : ByteArray) : List S80 × List S80 × List S73 × Int :=
 if diskB live safe ops = true then lastB live safe ops (thenB (thenB (firstB live safe ops n) 1 (qbp n) ⟨#[]⟩ d) 2 (qbp n) n ⟨#[]⟩) else ([], [], [], 1)
structure Fit3 (x : List S80 × List S80 × List S73 × Int) (m : Nat) : Prop where
 l : x.2.2.2 = 0 → qbh x.1 = true
 s : x.2.2.2 = 0 → x.2.1.length ≤ 1048576
 o : x.2.2.2 = 0 → x.2.2.1.length ≤ m
theorem Fit3.act {live safe : List S80} {ops : List S73} {m : Nat} (k : Int) (n t d : ByteArray) (hs : safe.length ≤ 1048576) (ho : ops.length ≤ m) : Fit3 (actB live safe ops k n t d) (m + 1) := by
 have h := actB_ok live safe ops k n t d
 exact ⟨fun e => (h e).1, fun e => by rw [(h e).2.1]; exact hs, fun e => by have := (h e).2.2; omega⟩
theorem Fit3.then_ {x : List S80 × List S80 × List S73 × Int} {m : Nat} (h : Fit3 x m) (k : Int) (n t d : ByteArray) : Fit3 (thenB x k n t d) (m + 1) := by
 unfold thenB
 by_cases e : x.2.2.2 = 0
 ·
  rw [if_pos e]
  exact Fit3.act k n t d (h.s e) (h.o e)
 ·
  rw [if_neg e]
  exact ⟨fun q => absurd q e, fun q => absurd q e, fun q => absurd q e⟩
theorem Fit3.first (live safe : List S80) (ops : List S73) (n : ByteArray) (h : qbh live = true) (hs : safe.length ≤ 1048576) (ho : ops.length ≤ 200) : Fit3 (firstB live safe ops n) 201 := by
 unfold firstB
 by_cases e : 0 ≤ idxP (qau (qbp n)) live
 ·
  rw [if_pos e]
  exact Fit3.act _ _ _ _ hs ho
 ·
  rw [if_neg e]
  exact ⟨fun _ => h, fun _ => hs, fun _ => by simp only; omega⟩
theorem qet {live safe : List S80} {ops : List S73} (h : diskB live safe ops = true) : qbh live = true ∧ qbh safe = true ∧ ops.length ≤ 200 := by
 unfold diskB at h
 rw [Bool.and_eq_true, Bool.and_eq_true, Bool.and_eq_true, decide_eq_true_eq] at h
 exact ⟨h.1, h.2.1, h.2.2.1⟩
theorem emptyT : (⟨#[]⟩ : ByteArray).size = 0 := rfl
theorem spec_Replace.ev (live safe : List S80) (ops : List S73) (n d : ByteArray) (z : DiskSz live safe ops) (hn : n.size ≤ 1048576) (hd : d.size ≤ 1048576) : Ev (fun k => spec_Replace.f k live safe ops n d) (qcv live safe ops n d) := by
 have n0 := z.n0
 have n1 := z.n1
 have n2 := z.n2
 unfold spec_Replace.f qcv
 refine Ev.bind (spec_DiskOk.ev live safe ops z.smallF0 z.smallF1 z.smallO) ?_
 cases hb : diskB live safe ops with
 | false => exact Ev.neg (by simp) (Ev.ret _)
 | true =>
  rw [if_pos rfl]
  obtain ⟨hl, _, ho⟩ := qet hb
  refine Ev.pos rfl (Ev.pos (by omega) (Ev.bind (spec_l4At.ev live _ (by omega)) ?_))
  have f1 := Fit3.first live safe ops n hl (by omega) ho
  have f2 := f1.then_ 1 (qbp n) ⟨#[]⟩ d
  have hcp := l4Copy_eq live safe ops (by omega) (by omega) (by omega)
  have j2 : ∀ x : List S80 × List S80 × List S73 × Int, Fit3 x 203 → Ev (fun k => spec_Replace.j2 k x.2.2.2 live safe ops x.1 x.2.1 x.2.2.1) (lastB live safe ops x) := fun x hx => by
   refine Ev.step (fun k => by rw [spec_Replace.j2]) ?_
   unfold lastB
   by_cases e : x.2.2.2 = 0
   ·
    have := (qbn (hx.l e)).2.1
    have := hx.s e
    have := hx.o e
    exact Ev.eq (Ev.pos e (Ev.bindS (l4Copy_eq x.1 x.2.1 x.2.2.1 (by omega) (by omega) (by omega)) (Ev.ret _))) (by rw [if_pos e, ← e])
   · exact Ev.eq (Ev.neg e (Ev.bindS hcp (Ev.ret _))) (by rw [if_neg e])
  have j1 : ∀ x : List S80 × List S80 × List S73 × Int, Fit3 x 202 → Ev (fun k => spec_Replace.j1 k n x.2.2.2 (qbp n) live safe ops x.1 x.2.1 x.2.2.1) (lastB live safe ops (thenB x 2 (qbp n) n ⟨#[]⟩)) := fun x hx => by
   refine Ev.step (fun k => by rw [spec_Replace.j1]) ?_
   have hj := j2 _ (hx.then_ 2 (qbp n) n ⟨#[]⟩)
   unfold thenB at hj ⊢
   by_cases e : x.2.2.2 = 0
   ·
    have := hx.s e
    have := hx.o e
    rw [if_pos e] at hj ⊢
    exact Ev.pos e (Ev.bind (spec_l4Act.ev _ _ _ _ _ _ _ (hx.l e) (by omega) (by omega) (by rw [emptyT]; omega)) hj)
   ·
    rw [if_neg e] at hj ⊢
    exact Ev.neg e hj
  have j0 : ∀ x : List S80 × List S80 × List S73 × Int, Fit3 x 201 → Ev (fun k => spec_Replace.j0 k n d x.2.2.2 (qbp n) live safe ops x.1 x.2.1 x.2.2.1) (lastB live safe ops (thenB (thenB x 1 (qbp n) ⟨#[]⟩ d) 2 (qbp n) n ⟨#[]⟩)) := fun x hx => by
   refine Ev.step (fun k => by rw [spec_Replace.j0]) ?_
   have hj := j1 _ (hx.then_ 1 (qbp n) ⟨#[]⟩ d)
   have he : thenB x 1 (qbp n) ⟨#[]⟩ d = if x.2.2.2 = 0 then actB x.1 x.2.1 x.2.2.1 1 (qbp n) ⟨#[]⟩ d else x := rfl
   by_cases e : x.2.2.2 = 0
   ·
    have := hx.s e
    have := hx.o e
    rw [if_pos e] at he
    rw [he] at hj ⊢
    exact Ev.pos e (Ev.bind (spec_l4Act.ev _ _ _ _ _ _ _ (hx.l e) (by omega) (by omega) (by omega)) hj)
   ·
    rw [if_neg e] at he
    rw [he] at hj ⊢
    exact Ev.neg e hj
  have hj := j0 _ f1
  have he : firstB live safe ops n = if 0 ≤ idxP (qau (qbp n)) live then actB live safe ops 3 (qbp n) ⟨#[]⟩ ⟨#[]⟩ else (live, safe, ops, 0) := rfl
  by_cases e : 0 ≤ idxP (qau (qbp n)) live
  ·
   rw [if_pos e] at he
   rw [he] at hj ⊢
   exact Ev.pos e (Ev.bind (spec_l4Act.ev _ _ _ _ _ _ _ hl (by omega) (by omega) (by rw [emptyT]; omega)) hj)
  ·
   rw [if_neg e] at he
   rw [he] at hj ⊢
   exact Ev.neg e hj
def actsB (x : List S80 × List S80 × List S73 × Int) : List S73 → List S80 × List S80 × List S73 × Int
 | [] => x
 | op :: r => actsB (thenB x op.f0 op.f1 op.f2 op.f3) r
theorem actsB_stop (x : List S80 × List S80 × List S73 × Int) (h : x.2.2.2 ≠ 0) : ∀ l : List S73, actsB x l = x
 | [] => rfl
 | op :: r => by
  rw [actsB]
  have : thenB x op.f0 op.f1 op.f2 op.f3 = x := by unfold thenB; rw [if_neg h]
  rw [this]
  exact actsB_stop x h r
theorem impl_replace.l0_ev (live safe : List S80) (ops : List S73) (l : List S73) (hl : l.length ≤ 1048576) (hs : ∀ op ∈ l, op.f3.size ≤ 1099511627776) (h0 : live.length ≤ 1048576) (h1 : safe.length ≤ 1048576) (h2 : ops.length ≤ 1048576) (q : Nat) : ∀ (i : Nat) (m : Nat) (x : List S80 × List S80 × List S73 × Int), l.length - i = q → i ≤ l.length → x.2.2.2 = 0 → Fit3 x m → m + q ≤ 1099511627776 →
 Ev (fun k => impl_replace.l0 k l (l.length : Int) (i : Int) live safe ops x.1 x.2.1 x.2.2.1) (lastB live safe ops (actsB x (l.drop i))) := by
 induction q with
 | zero =>
  intro i m x hd hi e hx hm
  refine Ev.step (fun k => by rw [impl_replace.l0]) (Ev.neg (by omega) (Ev.ret' ?_))
  rw [List.drop_of_length_le (by omega), actsB]
  unfold lastB
  rw [if_pos e, ← e]
 | succ q ih =>
  intro i m x hd hi e hx hm
  have hi' : i < l.length := by omega
  refine Ev.step (fun k => by rw [impl_replace.l0]) (Ev.pos (by omega) (Ev.pos (by omega) (Ev.pos (by omega) ?_)))
  rw [rdO_nat l i hi']
  have hop := hs _ (List.getElem_mem hi')
  rw [List.drop_eq_getElem_cons hi', actsB]
  have := hx.s e
  have := hx.o e
  have he : thenB x l[i].f0 l[i].f1 l[i].f2 l[i].f3 = actB x.1 x.2.1 x.2.2.1 l[i].f0 l[i].f1 l[i].f2 l[i].f3 := by unfold thenB; rw [if_pos e]
  have hf := hx.then_ l[i].f0 l[i].f1 l[i].f2 l[i].f3
  rw [he] at hf ⊢
  refine Ev.bind (impl_doRight.ev _ _ _ _ _ _ _ (hx.l e) (by omega) (by omega) hop) ?_
  generalize actB x.1 x.2.1 x.2.2.1 l[i].f0 l[i].f1 l[i].f2 l[i].f3 = y at *
  by_cases ey : y.2.2.2 = 0
  ·
   refine Ev.pos ey ?_
   have hn := ih (i + 1) (m + 1) y (by omega) (by omega) ey hf (by omega)
   rw [show ((i + 1 : Nat) : Int) = wrap64 ((i : Int) + 1) from by rw [qba (by omega) (by omega)]; omega] at hn
   exact hn
  ·
   refine Ev.neg ey (Ev.bindS (qec live safe ops (by omega) (by omega) (by omega)) (Ev.ret' ?_))
   rw [actsB_stop y ey]
   unfold lastB
   rw [if_neg ey]
theorem impl_replace.ev (live safe : List S80) (ops : List S73) (n d : ByteArray) (z : DiskSz live safe ops) (hn : n.size ≤ 1048576) (hd : d.size ≤ 1048576) : Ev (fun k => impl_replace.f k live safe ops n d) (qcv live safe ops n d) := by
 have n0 := z.n0
 have n1 := z.n1
 have n2 := z.n2
 unfold impl_replace.f qcv
 refine Ev.bindS (impl_isDisk.eq live safe ops z.smallF0 z.smallF1 z.smallO) ?_
 cases hb : diskB live safe ops with
 | false => exact Ev.neg (by simp) (Ev.ret _)
 | true =>
  rw [if_pos rfl]
  obtain ⟨hl, _, ho⟩ := qet hb
  have hcp := qec live safe ops (by omega) (by omega) (by omega)
  have fit : Fit3 (live, safe, ops, 0) 200 := ⟨fun _ => hl, fun _ => by simp only; omega, fun _ => ho⟩
  have go : ∀ l : List S73, l.length ≤ 10 → (∀ op ∈ l, op.f3.size ≤ 1099511627776) → Ev (fun k => impl_replace.j0 k l live safe ops) (lastB live safe ops (actsB (live, safe, ops, 0) l)) := fun l h10 hs => by
   refine Ev.step (fun k => by rw [impl_replace.j0]) (Ev.bindS hcp ?_)
   exact impl_replace.l0_ev live safe ops l (by omega) hs (by omega) (by omega) (by omega) _ 0 200 (live, safe, ops, 0) rfl (Nat.zero_le _) rfl fit (by omega)
  refine Ev.pos rfl (Ev.pos (by omega) (Ev.bindS rfl (Ev.bindS (a := idxP (qau (qbp n)) live) rfl ?_)))
  unfold firstB
  by_cases e : 0 ≤ idxP (qau (qbp n)) live
  ·
   rw [if_pos e]
   refine Ev.pos e (Ev.bindS (by unfold impl_DOp_103.f; rw [if_pos ⟨rfl, by omega, by simp, by simp⟩]) ?_)
   refine Ev.eq (go _ (by simp) (by
    intro op hop
    simp at hop
    rcases hop with rfl | rfl | rfl
    · simp [emptyT]
    · simp only; omega
    · simp [emptyT])) ?_
   rfl
  ·
   rw [if_neg e]
   refine Ev.neg e (Ev.eq (go _ (by simp) (by
    intro op hop
    simp at hop
    rcases hop with rfl | rfl
    · simp only; omega
    · simp [emptyT])) ?_)
   rfl
theorem replaceB_len (live safe : List S80) (ops : List S73) (n d : ByteArray) (z : DiskSz live safe ops) : (qcv live safe ops n d).1.length ≤ 1048576 ∧ (qcv live safe ops n d).2.1.length ≤ 1048576 ∧ (qcv live safe ops n d).2.2.1.length ≤ 1048576 := by
 have n0 := z.n0
 have n1 := z.n1
 have n2 := z.n2
 unfold qcv
 cases hb : diskB live safe ops with
 | false => simp
 | true =>
  rw [if_pos rfl]
  obtain ⟨hl, _, ho⟩ := qet hb
  have f := ((Fit3.first live safe ops n hl (by omega) ho).then_ 1 (qbp n) ⟨#[]⟩ d).then_ 2 (qbp n) n ⟨#[]⟩
  generalize thenB (thenB (firstB live safe ops n) 1 (qbp n) ⟨#[]⟩ d) 2 (qbp n) n ⟨#[]⟩ = x at *
  unfold lastB
  by_cases e : x.2.2.2 = 0
  ·
   rw [if_pos e]
   have := (qbn (f.l e)).2.1
   have := f.s e
   have := f.o e
   omega
  ·
   rw [if_neg e]
   simp only
   omega
theorem law_FnExactReplace.ev (l0 l1 : List S106) (l2 : List S108) (n d : ByteArray) (o0 : okL okT106 l0) (o1 : okL okT106 l1) (o2 : okL okT108 l2) (_ : n.size ≤ maxLen) (_ : d.size ≤ maxLen) : Ev (fun k => laws_FnExactReplace.f k l0 l1 l2 n d) true := by
 unfold laws_FnExactReplace.f
 by_cases hn : (n.size : Int) > 1048576
 · exact Ev.pos hn (Ev.ret _)
 refine Ev.neg hn ?_
 by_cases hd : (d.size : Int) > 1048576
 · exact Ev.pos hd (Ev.ret _)
 refine Ev.neg hd ?_
 obtain ⟨r, hr, h⟩ := laws_szDisk.sz l0 l1 l2 1048576 (by omega) (by omega) o0 o1 o2
 refine Ev.bind hr ?_
 rcases h with h | ⟨r0, r1, hz⟩
 · exact Ev.pos h (Ev.ret _)
 refine Ev.neg (by omega) ?_
 have cv := laws_toDisk.ev l0 l1 l2 hz
 have n0 := hz.n0
 have n1 := hz.n1
 have n2 := hz.n2
 have hs := spec_Replace.ev _ _ _ n d hz (by omega) (by omega)
 have hi0 := impl_replace.ev _ _ _ n d hz (by omega) (by omega)
 obtain ⟨la, lb, lc⟩ := replaceB_len _ _ _ n d hz
 generalize qcv (l0.map qbk) (l1.map qbk) (l2.map qdc) n d = v at *
 obtain ⟨a, b, c, e⟩ := v
 simp only at la lb lc
 have hi : Ev (fun k => impl_Replace.f k (l0.map qbk) (l1.map qbk) (l2.map qdc) n d) (a, b, c, e) := by
  unfold impl_Replace.f
  exact Ev.bind hi0 (Ev.ret _)
 have eqr := laws_eqDisk.refl a b c (by omega) (by omega) (by omega)
 have eqx := laws_eqDisk.refl (l0.map qbk) (l1.map qbk) (l2.map qdc) (by omega) (by omega) (by omega)
 obtain ⟨xa, xb, xc, xr, x1, x2, x3⟩ := disk_marked (l0.map qbk) (l1.map qbk) (l2.map qdc) (by omega) (by omega) (by omega) 1 (by omega) (by omega)
 obtain ⟨ya, yb, yc, yr, y1, y2, y3⟩ := disk_marked a b c (by omega) (by omega) (by omega) 1 (by omega) (by omega)
 refine Ev.bind cv (Ev.bind hs (Ev.bind cv (Ev.bind hi (Ev.bind eqr (Ev.pos rfl (Ev.step (fun k => by rw [laws_FnExactReplace.j0]) (Ev.neg (by simp) ?_)))))))
 refine Ev.bind cv (Ev.bind eqx (Ev.pos rfl (Ev.bind x1 (Ev.neg (by show ¬ xr < 0; omega) (Ev.bind eqr (Ev.pos rfl (Ev.step (fun k => by rw [laws_FnExactReplace.j1]) (Ev.neg (by simp) ?_))))))))
 refine Ev.bind y1 (Ev.bind y2 (Ev.neg (by omega) (Ev.pos rfl (Ev.bind cv (Ev.bind hi (Ev.bind eqr (Ev.pos rfl (Ev.step (fun k => by rw [laws_FnExactReplace.j2]) (Ev.neg (by simp) ?_)))))))))
 exact Ev.bind y2 (Ev.neg (by omega) (Ev.pos rfl (Ev.ret _)))

end

end Go.Proofs.Ytfjoamlgbegpgaa.Q
