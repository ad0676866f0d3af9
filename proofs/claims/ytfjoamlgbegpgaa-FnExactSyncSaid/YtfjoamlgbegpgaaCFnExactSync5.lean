/- Part 5 of what the row of FnExactSync needs: functions of the program as plain Lean functions, their contracts, and lemmas; made by a program of this session out of its texts. -/
import Derived.Test.YtfjoamlgbegpgaaCFnExactSync0
import Derived.Test.YtfjoamlgbegpgaaCFnExactSync1
import Derived.Test.YtfjoamlgbegpgaaCFnExactSync3
import Derived.Test.YtfjoamlgbegpgaaCFnExactSync4
namespace Go.Proofs.Ytfjoamlgbegpgaa.Q
open Go.RowKit Go.Proofs.YtfjoamlgbegpgaaW.PrintWords Go.Proofs.YtfjoamlgbegpgaaW.PrintLast Go.Proofs.YtfjoamlgbegpgaaW.PrintMore
attribute [local go_sem] max2_int min2_int max_two min_two max_three min_three max_four min_four   -- for this text's walks alone
set_option linter.unusedVariables false
set_option linter.unusedSimpArgs false
section
theorem putS_true (n d : ByteArray) : ∀ l : List S80, putS n d true l = l.filter (fun x => !qbb n x)
 | [] => rfl
 | x :: r => by
   rw [putS, List.filter_cons, Bool.true_or, putS_true n d r]
   cases qbb n x <;> simp
theorem qcs (n : ByteArray) (x : S80) : qbb n x = true ↔ x.f0 = n := by
 unfold qbb
 rw [beq_iff_eq, bs_inj]
theorem nameCmp_neg (n : ByteArray) (x : S80) : qbi n x < 0 ↔ Op.bytesLess x.f0.toList n.toList = true := by
 unfold qbi
 rw [cmp_neg, qcn, qcn]
theorem nameCmp_zero (n : ByteArray) (x : S80) : qbi n x = 0 ↔ x.f0 = n := by
 unfold qbi
 rw [cmp_zero, ← qcn, ← qcn, bs_inj]
theorem cntLt_none {l : List S80} (n : ByteArray) (h : ∀ y ∈ l, Op.bytesLess y.f0.toList n.toList = false) : cntLt (qbi n) l = 0 := by
 unfold cntLt
 rw [List.countP_eq_zero]
 intro y hy
 have := h y hy
 simp only [decide_eq_true_eq, nameCmp_neg, this]
 simp
theorem qeo {l : List S80} (n : ByteArray) (h : ∀ y ∈ l, Op.bytesLess n.toList y.f0.toList = true) : l.filter (fun x => !qbb n x) = l := by
 rw [List.filter_eq_self]
 intro y hy
 have := h y hy
 rw [Bool.not_eq_true', Bool.eq_false_iff]
 intro he
 rw [qcs] at he
 rw [he, qdl] at this
 cases this
theorem qec (n d : ByteArray) : ∀ l : List S80, qcq l → putS n d false l = putF l n d
 | [], _ => by
   unfold putF cntLt hitAt
   simp [putS]
 | x :: r, h => by
   have hr : qcq r := (List.pairwise_cons.1 h).2
   have hx := (List.pairwise_cons.1 h).1
   rw [putS]
   cases hl : Op.bytesLess x.f0.toList n.toList with
   | true =>
     have hni : qbb n x = false := by
       rw [Bool.eq_false_iff]
       intro he
       rw [qcs] at he
       rw [he, qdl] at hl
       cases hl
     have hc : cntLt (qbi n) (x :: r) = cntLt (qbi n) r + 1 := by
       unfold cntLt
       exact List.countP_cons_of_pos (p := fun y => decide (qbi n y < 0)) (decide_eq_true ((nameCmp_neg n x).2 hl))
     have hh : hitAt z80 (qbi n) (x :: r) = hitAt z80 (qbi n) r := by
       unfold hitAt
       rw [hc, List.getD_cons_succ, List.length_cons]
       congr 1
       exact decide_eq_decide.2 (by omega)
     rw [hni, show (false || !true) = false from rfl, qec n d r hr]
     unfold putF
     rw [hh, hc]
     cases hitAt z80 (qbi n) r <;> simp
   | false =>
     have hnone : ∀ y ∈ r, Op.bytesLess y.f0.toList n.toList = false := by
       intro y hy
       rw [Bool.eq_false_iff]
       intro hlt
       have := qde (hx y hy) hlt
       rw [hl] at this
       cases this
     have hc : cntLt (qbi n) (x :: r) = 0 := cntLt_none n (fun y hy => by
       rcases List.mem_cons.1 hy with rfl | hy
       · exact hl
       · exact hnone y hy)
     have hh : hitAt z80 (qbi n) (x :: r) = qbb n x := by
       unfold hitAt
       rw [hc, List.getD_cons_zero, decide_eq_true (by simp), Bool.true_and, Bool.eq_iff_iff, decide_eq_true_eq, nameCmp_zero, qcs]
     have hab : ∀ y ∈ r, Op.bytesLess n.toList y.f0.toList = true := by
       intro y hy
       rcases bless_tri x.f0.toList n.toList with h1 | h1 | h1
       · rw [hl] at h1; cases h1
       · rw [← h1]; exact hx y hy
       · exact qde h1 (hx y hy)
     have hput : putS n d true r = r := by rw [putS_true, qeo n hab]
     unfold putF
     rw [hh, hc]
     simp only [Bool.not_false, Bool.false_or, Bool.true_and, if_true, hput]
     cases qbb n x <;> simp
theorem cut_filter (n : ByteArray) (l : List S80) (h : qcq l) (h0 : 0 ≤ idxP (qbb n) l) : l.filter (fun x => !qbb n x) = l.take (idxP (qbb n) l).toNat ++ l.drop ((idxP (qbb n) l).toNat + 1) := by
 have hlt : (idxP (qbb n) l).toNat < l.length := by
   have := idxP_lt (qbb n) l
   omega
 have hat := idxP_at (qbb n) z80 l h0
 generalize (idxP (qbb n) l).toNat = i at *
 rw [List.getD_eq_getElem?_getD, List.getElem?_eq_getElem hlt] at hat
 change qbb n l[i] = true at hat
 rw [qcs] at hat
 have e : l = l.take i ++ (l[i] :: l.drop (i + 1)) := by rw [← List.drop_eq_getElem_cons hlt, List.take_append_drop]
 have hp : qcq (l.take i ++ (l[i] :: l.drop (i + 1))) := by rw [← e]; exact h
 obtain ⟨_, p2, p3⟩ := List.pairwise_append.1 hp
 have q := (List.pairwise_cons.1 p2).1
 conv => lhs; rw [e]
 rw [List.filter_append, List.filter_cons, show qbb n l[i] = true from (qcs n _).2 hat]
 have e1 : (l.take i).filter (fun x => !qbb n x) = l.take i := by
   rw [List.filter_eq_self]
   intro y hy
   have := p3 y hy l[i] List.mem_cons_self
   rw [Bool.not_eq_true', Bool.eq_false_iff]
   intro he
   rw [qcs] at he
   rw [he, hat, qdl] at this
   cases this
 have e2 : (l.drop (i + 1)).filter (fun x => !qbb n x) = l.drop (i + 1) := qeo n (fun y hy => by rw [← hat]; exact q y hy)
 rw [e1]
 simp only [Bool.not_true]
 rw [if_neg (by simp), e2]
def doS (l : List S80) (k : Int) (n t d : ByteArray) : List S80 × Bool :=
 if k = 1 then (putF l n (if 0 ≤ idxP (qbb n) l then (qan l (idxP (qbb n) l)).f1 ++ d else d), true)
 else if 0 ≤ idxP (qbb n) l then
   if k = 2 then (putF (l.take (idxP (qbb n) l).toNat ++ l.drop ((idxP (qbb n) l).toNat + 1)) t (qan l (idxP (qbb n) l)).f1, true)
   else (l.take (idxP (qbb n) l).toNat ++ l.drop ((idxP (qbb n) l).toNat + 1), true)
 else (l, false)
theorem doS_onF (l : List S80) (k : Int) (n t d : ByteArray) (h : formB k n t d = true) : doS l k n t d = onF l k n t d := by
 have hk : k = 1 ∨ k = 2 ∨ k = 3 := by
   unfold formB at h
   by_cases h1 : k = 1
   · exact .inl h1
   · by_cases h2 : k = 2
     · exact .inr (.inl h2)
     · by_cases h3 : k = 3
       · exact .inr (.inr h3)
       · rw [if_neg h1, if_neg h2, if_neg h3] at h
         cases h
 unfold doS onF
 rcases hk with rfl | rfl | rfl <;> simp
theorem doS_ok (l : List S80) (k : Int) (n t d : ByteArray) : (doS l k n t d).2 = (onF l k n t d).2 := by
 unfold doS onF
 by_cases h1 : k = 1
 · simp [h1]
 · by_cases h : 0 ≤ idxP (qbb n) l
   · by_cases h2 : k = 2 <;> by_cases h3 : k = 3 <;> simp [h1, h, h2, h3]
   · simp [h1, h]
theorem spec_l4Do.ev (l : List S80) (k : Int) (n t d : ByteArray) (hr : qcq l) (hl : l.length ≤ 1099511627775) (hs : ∀ x ∈ l, x.f1.size ≤ 1099512000000) (hd : d.size ≤ 1099511627776) : Ev (fun q => spec_l4Do.f q l k n t d) (doS l k n t d) := by
 unfold spec_l4Do.f
 refine Ev.bind (spec_l4At.ev l n (by omega)) ?_
 unfold doS
 have hlt := idxP_lt (qbb n) l
 by_cases h1 : k = 1
 · rw [if_pos h1]
   refine Ev.pos h1 ?_
   by_cases h0 : 0 ≤ idxP (qbb n) l
   · rw [if_pos h0]
     have hsz := hs _ (qdp z80 l _ h0 hlt)
     change (qan l (idxP (qbb n) l)).f1.size ≤ _ at hsz
     refine Ev.pos h0 (Ev.pos h0 (Ev.pos hlt (Ev.pos (by omega) (Ev.bind (spec_l4Put.ev l n _ (by omega)) (Ev.ret' ?_)))))
     rw [qec n _ l hr]
   · rw [if_neg h0]
     refine Ev.neg h0 (Ev.bind (spec_l4Put.ev l n _ (by omega)) (Ev.ret' ?_))
     rw [qec n _ l hr]
 · rw [if_neg h1]
   refine Ev.neg h1 ?_
   by_cases h0 : 0 ≤ idxP (qbb n) l
   · rw [if_pos h0]
     refine Ev.neg (by omega) (Ev.bind (spec_l4Cut.ev l n (by omega)) ?_)
     rw [cut_filter n l hr h0]
     by_cases h2 : k = 2
     · rw [if_pos h2]
       refine Ev.pos h2 (Ev.pos h0 (Ev.pos hlt (Ev.bind (spec_l4Put.ev _ t _ ?_) (Ev.ret' ?_))))
       · rw [List.length_append, List.length_take, List.length_drop]; omega
       · rw [qec t _ _ (risesF_cut hr _)]
     · rw [if_neg h2]
       exact Ev.neg h2 (Ev.ret _)
   · rw [if_neg h0]
     refine Ev.pos (by omega) (Ev.bindS rfl (Ev.pos (by simp; omega) (Ev.ret' ?_)))
     rw [List.nil_append]
theorem doS_small {now : List S80} (hn : ∀ x ∈ now, x.f1.size ≤ 200000) (k : Int) (n t d : ByteArray) (hf : formB k n t d = true) (hd : d.size ≤ 1099511627776) (ho : (doS now k n t d).2 = true) : ∀ x ∈ (doS now k n t d).1, x.f1.size ≤ 1099512000000 := by
 rw [doS_onF now k n t d hf] at ho ⊢
 exact onF_small hn k n t d hd ho
theorem spec_DiskOk.l0_ev (live : List S80) (safe : List S80) (ops : List S73) (ho : ∀ x ∈ ops, x.f3.size ≤ 1099511627776) (hl : ops.length ≤ 200) (d : Nat) : ∀ (i : Nat) (now : List S80), ops.length - i = d → i ≤ ops.length → qbz now = true →
   Ev (fun k => spec_DiskOk.l0 k now i live safe ops) (runB live now (ops.drop i)) := by
 induction d with
 | zero =>
   intro i now hd hi hf
   obtain ⟨_, h60, _⟩ := qdf hf
   refine Ev.step (fun k => by rw [spec_DiskOk.l0]) ?_
   refine Ev.neg (by omega) (Ev.bind (spec_l4Same.ev now live (by omega)) (Ev.ret' ?_))
   rw [List.drop_of_length_le (by omega), runB]
 | succ d ih =>
   intro i now hd hi hf
   obtain ⟨hris, h60, hsz⟩ := qdf hf
   have h1 : i < ops.length := by omega
   refine Ev.step (fun k => by rw [spec_DiskOk.l0]) ?_
   refine Ev.pos (by omega) (Ev.pos (by omega) ?_)
   rw [rdO_nat ops i h1, List.drop_eq_getElem_cons h1, runB]
   have hop := ho _ (List.getElem_mem h1)
   generalize ops[i] = op at *
   refine Ev.bind (spec_l4Do.ev now op.f0 op.f1 op.f2 op.f3 hris (by omega) (fun x hx => by have := hsz x hx; omega) hop) ?_
   cases hok : (onF now op.f0 op.f1 op.f2 op.f3).2 with
   | false =>
     rw [← doS_ok] at hok
     refine Ev.neg (by rw [hok]; simp) (Ev.ret' ?_)
     simp
   | true =>
     have hok' := hok
     rw [← doS_ok] at hok'
     refine Ev.pos hok' (Ev.bind (spec_l4Form.ev _ _ _ _) ?_)
     cases hfm : formB op.f0 op.f1 op.f2 op.f3 with
     | false => exact Ev.neg (by simp) (Ev.ret' (by simp))
     | true =>
       refine Ev.pos rfl (Ev.bind (spec_l4Files.ev' _ (doS_small hsz _ _ _ _ hfm hop hok')) ?_)
       rw [doS_onF now _ _ _ _ hfm]
       cases hfn : qbz (onF now op.f0 op.f1 op.f2 op.f3).1 with
       | false => exact Ev.neg (by simp) (Ev.ret' (by simp))
       | true =>
         refine Ev.pos rfl ?_
         rw [show wrap64 ((i : Int) + 1) = ((i + 1 : Nat) : Int) by rw [qbc (by omega) (by omega)]; omega]
         exact Ev.eq (ih (i + 1) _ (by omega) (by omega) hfn) (by simp)
theorem spec_DiskOk.ev (live safe : List S80) (ops : List S73) (h0 : qem live) (h1 : qem safe) (ho : ∀ x ∈ ops, x.f3.size ≤ 1099511627776) : Ev (fun k => spec_DiskOk.f k live safe ops) (diskB live safe ops) := by
 unfold spec_DiskOk.f diskB
 refine Ev.bind (spec_l4Files.ev' live (fun x hx => by have := h0 x hx; omega)) ?_
 have hj : Ev (fun k => spec_DiskOk.j0 k true live safe ops) false := Ev.step (fun k => by rw [spec_DiskOk.j0]) (Ev.pos rfl (Ev.ret _))
 cases hf0 : qbz live with
 | false => exact Ev.neg (by simp) (Ev.eq hj (by simp))
 | true =>
   refine Ev.pos rfl (Ev.bind (spec_l4Files.ev' safe (fun x hx => by have := h1 x hx; omega)) ?_)
   cases hf1 : qbz safe with
   | false => exact Ev.neg (by simp) (Ev.eq hj (by simp))
   | true =>
     refine Ev.pos rfl ?_
     by_cases hl : (ops.length : Int) > 200
     · rw [decide_eq_true hl]
       exact Ev.eq hj (by rw [decide_eq_false (by omega : ¬ ops.length ≤ 200)]; simp)
     · rw [decide_eq_false hl]
       refine Ev.step (fun k => by rw [spec_DiskOk.j0]) (Ev.neg (by simp) ?_)
       exact Ev.eq (spec_DiskOk.l0_ev live safe ops ho (by omega) _ 0 safe rfl (Nat.zero_le _) hf1) (by rw [decide_eq_true (by omega : ops.length ≤ 200)]; simp)
theorem impl_isDisk.eq (live safe : List S80) (ops : List S73) (h0 : qem live) (h1 : qem safe) (ho : ∀ x ∈ ops, x.f3.size ≤ 1099511627776) : impl_isDisk.f live safe ops = some (diskB live safe ops) := by
 unfold impl_isDisk.f
 rw [if_pos]
 rw [(qdg live).2 h0, (qdg safe).2 h1, Bool.true_and, Bool.true_and]
 unfold smallOB
 rw [List.all_eq_true]
 exact fun x hx => decide_eq_true (ho x hx)

end

section
theorem law_FnExactSync.ev (l0 l1 : List S106) (l2 : List S108) (o0 : okL okT106 l0) (o1 : okL okT106 l1) (o2 : okL okT108 l2) : Ev (fun k => laws_FnExactSync.f k l0 l1 l2) true := by
 unfold laws_FnExactSync.f
 obtain ⟨r, hr, h⟩ := laws_szDisk.sz l0 l1 l2 1048576 (by omega) (by omega) o0 o1 o2
 refine Ev.bind hr ?_
 rcases h with h | ⟨r0, r1, hz⟩
 · exact Ev.pos h (Ev.ret _)
 refine Ev.neg (by omega) ?_
 have cv := laws_toDisk.ev l0 l1 l2 hz
 refine Ev.bind cv ?_
 have n0 := hz.n0
 have n1 := hz.n1
 have n2 := hz.n2
 obtain ⟨a, b, c, h1, h2, la, lb, lc⟩ : ∃ a b c, Ev (fun k => spec_Sync.f k (l0.map qbj) (l1.map qbj) (l2.map qcu)) (a, b, c) ∧ impl_Sync.f (l0.map qbj) (l1.map qbj) (l2.map qcu) = some (a, b, c) ∧ a.length ≤ 1048576 ∧ b.length ≤ 1048576 ∧ c.length ≤ 1048576 := by
   unfold spec_Sync.f impl_Sync.f
   rw [impl_isDisk.eq _ _ _ hz.smallF0 hz.smallF1 hz.smallO, Option.bind_some]
   have hd := spec_DiskOk.ev _ _ _ hz.smallF0 hz.smallF1 hz.smallO
   cases hdk : diskB (l0.map qbj) (l1.map qbj) (l2.map qcu) with
   | false =>
     rw [hdk] at hd
     exact ⟨_, _, _, Ev.bind hd (Ev.neg (by simp) (Ev.ret _)), by rw [Option.bind_some, if_neg (by simp)], by simp, by simp, by simp⟩
   | true =>
     rw [hdk] at hd
     have hc := qdm (l0.map qbj) (by omega)
     refine ⟨l0.map qbj, l0.map qbj, [], Ev.bind hd (Ev.pos rfl ?_), by rw [Option.bind_some, if_pos rfl, hc, Option.bind_some]; rfl, n0, n0, by simp⟩
     exact Ev.bindS rfl (Ev.pos (by rw [List.length_nil]; omega) (Ev.bindS rfl (Ev.pos (by rw [List.length_nil]; omega) (Ev.ret' (by simp)))))
 have eqr := laws_eqDisk.refl a b c (by omega) (by omega) (by omega)
 have eqx := laws_eqDisk.refl (l0.map qbj) (l1.map qbj) (l2.map qcu) (by omega) (by omega) (by omega)
 obtain ⟨xa, xb, xc, xr, x1, x2, x3⟩ := disk_marked (l0.map qbj) (l1.map qbj) (l2.map qcu) (by omega) (by omega) (by omega) 1 (by omega) (by omega)
 obtain ⟨ya, yb, yc, yr, y1, y2, y3⟩ := disk_marked a b c (by omega) (by omega) (by omega) 1 (by omega) (by omega)
 refine Ev.bind h1 (Ev.bind cv (Ev.bindS h2 (Ev.bind eqr (Ev.pos rfl (Ev.bind cv (Ev.bind eqx (Ev.pos rfl (Ev.bind x1 (Ev.neg (by show ¬ xr < 0; omega) (Ev.bind eqr ?_))))))))))
 refine Ev.step (fun k => by rw [laws_FnExactSync.j0]) (Ev.neg (by simp) ?_)
 refine Ev.bind y1 (Ev.bind y2 (Ev.neg (by omega) (Ev.pos rfl (Ev.bind cv (Ev.bindS h2 (Ev.bind eqr (Ev.pos rfl (Ev.bind y2 (Ev.neg (by omega) (Ev.pos rfl (Ev.ret _)))))))))))

end

end Go.Proofs.Ytfjoamlgbegpgaa.Q
