/- Part of the proof of FnReplaced: no statement of its own. -/
import Derived.KernelRfl
import Derived.Test.YtfjoamlgbegpgaaProg
import Derived.Test.YtfjoamlgbegpgaaCFnReplaced3
set_option linter.unusedVariables false
set_option linter.unusedSimpArgs false
namespace Go.Proofs.Ytfjoamlgbegpgaa.PN
open Go Go.Proofs.Ytfjoamlgbegpgaa.PM
variable {G : Sg} {P : Program} {α β L : Type} {C : Cert} {prim : FuncId → Option (List T → List Ob → Option (T × List Ob))}
def Tree.yields (R : L → Prop) : Tree L → Prop
  | .leaf x => R x
  | .fail => False
  | .need c _ k => ∃ h : c, (k h).yields R
  | .ite c _ t e => (∃ h : c, (t h).yields R) ∨ ∃ h : ¬ c, (e h).yields R
  | .call _ x k => ∃ r, x = some r ∧ (k r).yields R
  | .callc _ x _ k => ∃ e r h, (k e r h).yields R
  | .same _ x _ r k => ∃ e h, (k e h).yields R
  | .either _ _ x l r => match x with
    | .inl a => (l a).yields R
    | .inr b => (r b).yields R
variable {R : L → Prop}
theorem runQ_yields {lk : Nat → O G.El} : ∀ {q : Q G.El α} {h : H} {k : α → List Nat → H → Tree L}, (runQ lk q h k).yields R → ∃ a l h', q.runs lk a l ∧ (k a l h').yields R := by
  intro q
  induction q with
  | ret a => intro h k hy; exact ⟨a, [], h, ⟨rfl, rfl⟩, hy⟩
  | fail => intro h k hy; exact hy.elim
  | get o f ih =>
    intro h k hy
    obtain ⟨a, l, h', h1, h2⟩ := ih (lk o) hy
    exact ⟨a, o :: l, h', (says_mono (lk := lk) (q := f (lk o)) (fun a' l' hh => ⟨hh.1, by rw [hh.2]⟩) h1 : (f (lk o)).says lk fun a' l' => a' = a ∧ o :: l' = o :: l), h2⟩
  | need c d f ih =>
    intro h k hy
    obtain ⟨hc, hy⟩ := hy
    obtain ⟨a, l, h', h1, h2⟩ := ih hy
    exact ⟨a, l, h', ⟨hc, h1⟩, h2⟩
  | call ρ x f ih =>
    intro h k hy
    have plain : ∀ h, (Tree.call ρ x fun r => runQ lk (f r) h k).yields R → ∃ a l h', (Q.call ρ x f).runs lk a l ∧ (k a l h').yields R := by
      intro h hy
      obtain ⟨r, hr, hy⟩ := hy
      obtain ⟨a, l, h', h1, h2⟩ := ih r hy
      exact ⟨a, l, h', ⟨r, hr, h1⟩, h2⟩
    cases h with
    | bindr ρ' g =>
      obtain ⟨e, r, hr, hy⟩ := hy
      obtain ⟨a, l, h', h1, h2⟩ := ih (e ▸ r) hy
      exact ⟨a, l, h', ⟨_, hr, h1⟩, h2⟩
    | re ρ' r n =>
      obtain ⟨e, hr, hy⟩ := hy
      obtain ⟨a, l, h', h1, h2⟩ := ih (e ▸ r) hy
      exact ⟨a, l, h', ⟨_, hr, h1⟩, h2⟩
    | all => exact plain _ hy
    | both a b => exact plain _ hy
    | l a => exact plain _ hy
    | r a => exact plain _ hy
    | two a b => exact plain _ hy
    | skip n => exact plain _ hy
  | either β γ x f g ih1 ih2 =>
    intro h k hy
    have hy : ∃ h1 h2, (Tree.either β γ x (fun a => runQ lk (f a) h1 k) (fun b => runQ lk (g b) h2 k)).yields R := by
      cases h with
      | two h1 h2 => exact ⟨h1, h2, hy⟩
      | all => exact ⟨_, _, hy⟩
      | both a b => exact ⟨_, _, hy⟩
      | l a => exact ⟨_, _, hy⟩
      | r b => exact ⟨_, _, hy⟩
      | bindr ρ g => exact ⟨_, _, hy⟩
      | re ρ r n => exact ⟨_, _, hy⟩
      | skip n => exact ⟨_, _, hy⟩
    obtain ⟨h1, h2, hy⟩ := hy
    cases x with
    | inl a => exact ih1 a hy
    | inr b => exact ih2 b hy
theorem forkP_yields {c : Prop} {d : Decidable c} {h : H} {t e : H → Tree L} (hy : (forkP c d h t e).yields R) : (c ∧ ∃ h', (t h').yields R) ∨ (¬ c ∧ ∃ h', (e h').yields R) := by
  cases h with
  | all =>
    rcases hy with ⟨hc, hy⟩ | ⟨hc, hy⟩
    · exact .inl ⟨hc, _, hy⟩
    · exact .inr ⟨hc, _, hy⟩
  | both a b =>
    rcases hy with ⟨hc, hy⟩ | ⟨hc, hy⟩
    · exact .inl ⟨hc, _, hy⟩
    · exact .inr ⟨hc, _, hy⟩
  | l a => obtain ⟨hc, hy⟩ := hy; exact .inl ⟨hc, _, hy⟩
  | r b => obtain ⟨hc, hy⟩ := hy; exact .inr ⟨hc, _, hy⟩
  | two a b => exact hy.elim
  | bindr ρ g => exact hy.elim
  | re ρ r n => exact hy.elim
  | skip n => exact hy.elim
theorem fork_yields {v : V G.El} {h : H} {t e : H → Tree L} (hy : (fork v h t e).yields R) : ∃ b h', boolOf v = some b ∧ (if b = true then t h' else e h').yields R := by
  cases v with
  | bl b => cases b <;> exact ⟨_, h, rfl, hy⟩
  | bp n c d =>
    cases n with
    | false =>
      rcases forkP_yields hy with ⟨hc, h', hy⟩ | ⟨hc, h', hy⟩
      · exact ⟨true, h', by simp [boolOf, hc], hy⟩
      · exact ⟨false, h', by simp [boolOf, hc], hy⟩
    | true =>
      rcases forkP_yields hy with ⟨hc, h', hy⟩ | ⟨hc, h', hy⟩
      · exact ⟨false, h', by simp [boolOf, hc], hy⟩
      · exact ⟨true, h', by simp [boolOf, hc], hy⟩
  | bb n x =>
    cases n with
    | false =>
      rcases forkP_yields hy with ⟨hc, h', hy⟩ | ⟨hc, h', hy⟩
      · exact ⟨true, h', by simp [boolOf, hc], hy⟩
      · exact ⟨false, h', by simp at hc; simp [boolOf, hc], hy⟩
    | true =>
      rcases forkP_yields hy with ⟨hc, h', hy⟩ | ⟨hc, h', hy⟩
      · exact ⟨false, h', by simp [boolOf, hc], hy⟩
      · exact ⟨true, h', by simp at hc; simp [boolOf, hc], hy⟩
  | _ => exact hy.elim
theorem notV_ok {v w : V G.El} (h : notV v = some w) {b : Bool} (hb : boolOf w = some b) : boolOf v = some !b := by
  cases v with
  | bl x => obtain rfl := Option.some.inj h; obtain rfl := Option.some.inj hb; simp [boolOf]
  | bp n c d => obtain rfl := Option.some.inj h; obtain rfl := Option.some.inj hb; cases n <;> simp [boolOf]
  | bb n x => obtain rfl := Option.some.inj h; obtain rfl := Option.some.inj hb; cases n <;> simp [boolOf]
  | _ => cases h
theorem tmps_get {s : S G.El} {t : Nat} (h : t < s.n) : (denS G s).tmps[t]? = some (denV G (s.get t)) := by
  simp only [denS, List.getElem?_map, List.getElem?_range h, Option.map_some, S.get, decide_eq_true h]
theorem wantV_ok {ops : Array Oper} {s : S G.El} {o : Oper} {v : V G.El} {b : Bool} (h : wantV ops s o = some v) (hb : boolOf v = some b) : wantR ops (denS G s).tmps o = some b := by
  unfold wantV at h
  unfold wantR
  cases hg : o.guard with
  | none =>
    rw [hg] at h
    obtain rfl := Option.some.inj h
    exact hb
  | some p =>
    obtain ⟨j, want⟩ := p
    rw [hg] at h
    simp only at h ⊢
    cases hd : (ops[j]?).bind (·.dst) with
    | none => rw [hd] at h; cases h
    | some t =>
      rw [hd] at h
      simp only [Option.bind_some] at h ⊢
      by_cases ht : t < s.n
      · rw [tmps_get ht]
        by_cases hu : s.get t = .tup []
        · rw [hu] at h ⊢
          obtain rfl := Option.some.inj h
          obtain rfl := Option.some.inj hb
          rfl
        · have h' : wantB want (s.get t) = some v := by
            cases hs : s.get t with
            | tup ts =>
              rw [hs] at h
              cases ts with
              | nil => exact absurd hs hu
              | cons a r => exact h
            | _ => rw [hs] at h; exact h
          cases want with
          | true =>
            obtain rfl := Option.some.inj h'
            rw [(boolOf_some hb).1]; simp
          | false =>
            have := notV_ok h' hb
            rw [(boolOf_some this).1]; simp
      · have : s.get t = .dead := by simp [S.get, ht]
        rw [this] at h
        cases want with
        | true => obtain rfl := Option.some.inj h; cases hb
        | false => cases h
theorem wrOk_den (lk : Nat → O G.El) (base : Nat) (wr : List (Nat × O G.El)) : wrOk (lkT G lk) base (denWr G wr) = wrOkV lk base wr := by
  simp only [wrOk, wrOkV, denWr, List.all_map]
  congr 1
  funext p
  simp only [Function.comp]
  rw [born_den]
theorem stepN_ok (ok : SgOk P G) {E : Ev G.El} (hE : EvOk P C prim G E) {ops : Array Oper} {nx i : Nat} {o : Oper} {s : S G.El} {h : H} {k : S G.El → Log → H → Tree L} (hy : (stepN G E ops nx i o s h k).yields R) :
    ∃ s' lg h', stepR P (envT P C prim) ops nx i o (denS G s) = some (denS G s', lg) ∧ (k s' lg h').yields R := by
  unfold stepN at hy
  split at hy
  · exact hy.elim
  · rename_i v hv
    obtain ⟨b, h', hb, hy⟩ := fork_yields hy
    have hw := wantV_ok hv hb
    simp only [stepR, hw]
    cases b with
    | false =>
      simp only [Bool.false_eq_true, if_false] at hy
      exact ⟨putV s o.dst undV, _, h', by rw [putT_den]; rfl, hy⟩
    | true =>
      simp only [if_true] at hy
      by_cases hp : ∃ c a b, o.op = .pick c a b
      · obtain ⟨c, a, b, hp⟩ := hp
        rw [hp] at hy
        simp only at hy
        obtain ⟨bb, h'', hbb, hy⟩ := fork_yields hy
        have hev : evalT (denS G s).tmps c = .sc (.bool bb) := by rw [← eval_den]; exact (boolOf_some hbb).1
        have hop : ∀ base, (opR P (envT P C prim) (denS G s).tmps base o).run (lookIn (denS G s).store) = some (⟨if bb = true then evalT (denS G s).tmps a else evalT (denS G s).tmps b, []⟩, []) := by
          intro base
          obtain ⟨d, op, ty, pos, af, gd⟩ := o
          simp only at hp
          subst hp
          simp only [opR, hev]; rfl
        simp only [hop]
        cases bb with
        | true =>
          simp only [if_true] at hy ⊢
          refine ⟨putV s o.dst (evalV s a), _, h'', ?_, hy⟩
          rw [putT_den, eval_den]; simp [wrOk, putAll]
        | false =>
          simp only [Bool.false_eq_true, if_false] at hy ⊢
          refine ⟨putV s o.dst (evalV s b), _, h'', ?_, hy⟩
          rw [putT_den, eval_den]; simp [wrOk, putAll]
      · have hy : (runQ (lookO s.st) (opQ G E s (nx + room * i) o) h' fun e l h => match wrOkV (lookO s.st) (nx + room * i) e.wr with
            | true => k { putV s o.dst e.val with st := putOs s.st e.wr } ⟨i, l, e.wr.map (·.1)⟩ h
            | false => .fail).yields R := by
          cases ho : o.op with
          | pick c a b => exact absurd ⟨c, a, b, ho⟩ hp
          | _ => rw [ho] at hy; exact hy
        obtain ⟨e, l, h'', hr, hy⟩ := runQ_yields hy
        have hop := opQ_ok ok hE hr
        rw [lk_den] at hop
        simp only [hop]
        have hwr := wrOk_den (lookO s.st) (nx + room * i) e.wr
        rw [lk_den] at hwr
        cases hwo : wrOkV (lookO s.st) (nx + room * i) e.wr with
        | false => rw [hwo] at hy; exact hy.elim
        | true =>
          rw [hwo] at hy hwr
          refine ⟨_, _, h'', ?_, hy⟩
          simp only [denE, hwr, if_true]
          have hput := putT_den s o.dst e.val
          have h1 : denS G { putV s o.dst e.val with st := putOs s.st e.wr } = { denS G (putV s o.dst e.val) with store := denWr G (putOs s.st e.wr) } := rfl
          rw [h1, hput, putAll_den]
          simp [denWr, denS, Function.comp]
theorem runOpsN_ok (ok : SgOk P G) {E : Ev G.El} (hE : EvOk P C prim G E) {ops : Array Oper} {nx : Nat} : ∀ {l : List Oper} {i : Nat} {s : S G.El} {h : H} {k : S G.El → List Log → H → Tree L}, (runOpsN G E ops nx i l s h k).yields R →
    ∃ s' lgs h', runOps P (envT P C prim) ops nx i l (denS G s) = some (denS G s', lgs) ∧ (k s' lgs h').yields R
  | [], i, s, h, k, hy => ⟨s, [], h, rfl, hy⟩
  | o :: r, i, s, h, k, hy => by
    simp only [runOpsN] at hy
    obtain ⟨s1, l1, h1, hs, hy⟩ := stepN_ok ok hE hy
    obtain ⟨s2, l2, h2, hs2, hy⟩ := runOpsN_ok ok hE hy
    refine ⟨s2, l1 :: l2, h2, ?_, hy⟩
    simp only [runOps, hs, hs2]
theorem regionN_ok (ok : SgOk P G) {E : Ev G.El} (hE : EvOk P C prim G E) {ps : List (List Nat)} {ops : Array Oper} {draw : Bool} {s : S G.El} {h : H} {k : S G.El → H → Tree L} (hy : (regionN G E ps ops draw s h k).yields R) :
    ∃ s' h', regionR P (envT P C prim) ps ops draw (denS G s) = some (denS G s') ∧ (k s' h').yields R := by
  unfold regionN at hy
  obtain ⟨s1, l1, h1, hs, hy⟩ := runOpsN_ok ok hE hy
  have hnx : (denS G s).nx = s.nx := rfl
  cases hd : draw && !logsR ps (l1.filter fun l => !l.bare) with
  | true => rw [hd] at hy; exact hy.elim
  | false =>
    rw [hd] at hy
    refine ⟨_, h1, ?_, hy⟩
    simp only [regionR, hnx, hs, hd, Bool.false_eq_true, if_false]
    rfl
end Go.Proofs.Ytfjoamlgbegpgaa.PN
namespace Go.Proofs.Ytfjoamlgbegpgaa.PN
open Go Go.Proofs.Ytfjoamlgbegpgaa.PM
variable {G : Sg} {P : Program} {α β γ : Type} {lk : Nat → O G.El}
theorem mapQ_nil {f : α → Q G.El β} (hf : ∀ x y l, (f x).runs lk y l → l = []) : ∀ {xs : List α} {ys : List β} {l : List Nat}, (mapQ f xs).runs lk ys l → l = []
  | [], ys, l, h => (runs_ret.1 h).2
  | x :: r, ys, l, h => by
    simp only [mapQ, runs_bind, runs_pure] at h
    obtain ⟨y, l1, l2, h1, ⟨zs, l3, l4, h2, ⟨_, rfl⟩, rfl⟩, rfl⟩ := h
    rw [hf x y l1 h1, mapQ_nil hf h2]; rfl
theorem mapQ_map {f : α → Q G.El β} {a : α → γ} {b : β → γ} (hf : ∀ x y l, (f x).runs lk y l → b y = a x) : ∀ {xs : List α} {ys : List β} {l : List Nat}, (mapQ f xs).runs lk ys l → ys.map b = xs.map a
  | [], ys, l, h => by obtain ⟨rfl, rfl⟩ := runs_ret.1 h; rfl
  | x :: r, ys, l, h => by
    simp only [mapQ, runs_bind, runs_pure] at h
    obtain ⟨y, l1, l2, h1, ⟨zs, l3, l4, h2, ⟨rfl, rfl⟩, rfl⟩, rfl⟩ := h
    rw [List.map_cons, List.map_cons, hf x y l1 h1, mapQ_map hf h2]
theorem canN_v (i : N) : (canN i).v = i.v := by
  unfold canN
  split
  · rename_i h; exact (is0_v h).symm
  · rfl
theorem l_v (n : Nat) : (N.l n).v = n := rfl
theorem d_v (m n : Nat) : (N.d m n).v = n := rfl
theorem denV_agg {v : V G.El} {l : List T} (h : denV G v = .agg l) : ∃ cs, v = .agg cs := by
  cases v with
  | agg cs => exact ⟨cs, rfl⟩
  | bp n c d => cases n <;> cases h
  | bb n x => cases n <;> cases h
  | _ => cases h
theorem canC_ok {nm : Nat} {look : Nat → O G.El} {v w : V G.El} {l : List Nat} (h : (canC nm look v).runs lk w l) : l = [] ∧ denV G w = denV G v ∧ den1 G w = den1 G v := by
  cases v with
  | bl b => obtain ⟨rfl, rfl⟩ := runs_ret.1 h; exact ⟨rfl, rfl, rfl⟩
  | bp n c d => cases n <;> · obtain ⟨rfl, rfl⟩ := runs_ret.1 h; exact ⟨rfl, rfl, rfl⟩
  | bb n x => cases n <;> · obtain ⟨rfl, rfl⟩ := runs_ret.1 h; exact ⟨rfl, rfl, rfl⟩
  | il k n => obtain ⟨rfl, rfl⟩ := runs_ret.1 h; exact ⟨rfl, rfl, rfl⟩
  | id k m n => obtain ⟨rfl, rfl⟩ := runs_ret.1 h; exact ⟨rfl, rfl, rfl⟩
  | ptr o i j =>
    obtain ⟨rfl, rfl⟩ := runs_ret.1 h
    refine ⟨rfl, ?_, ?_⟩ <;> simp [denV, denA, den1, canN_v]
  | win o full off len =>
    have two : ∀ {w : V G.El} {l : List Nat}, (Q.ret (.win o false (canN off) (.d 0 len.v)) : Q G.El (V G.El)).runs lk w l → l = [] ∧ denV G w = denV G (.win o full off len) ∧ den1 G w = den1 G (.win o full off len) := by
      intro w l h
      obtain ⟨rfl, rfl⟩ := runs_ret.1 h
      refine ⟨rfl, ?_, ?_⟩ <;> simp [denV, denA, den1, canN_v, l_v, d_v]
    simp only [canC] at h
    split at h
    · rename_i al mw kp ver t xs last hl
      split at h
      · rename_i hf
        simp only [Bool.and_eq_true] at hf
        simp only [runs_bind, runs_ndEq, runs_pure] at h
        obtain ⟨_, _, _, ⟨h1, rfl⟩, ⟨rfl, rfl⟩, rfl⟩ := h
        have h0 := is0_v hf.2
        refine ⟨rfl, ?_, ?_⟩ <;> simp [denV, denA, den1, rowsOf_length, h0, h1, l_v, d_v]
      · exact two h
    · exact two h
  | _ => obtain ⟨rfl, rfl⟩ := runs_ret.1 h; exact ⟨rfl, rfl, rfl⟩
theorem canA_ok {nm : Nat} {look : Nat → O G.El} {v w : V G.El} {l : List Nat} (h : (canA nm look v).runs lk w l) : l = [] ∧ denV G w = denV G v ∧ denA G w = denA G v := by
  by_cases hv : ∃ cs, v = .agg cs
  · obtain ⟨cs, rfl⟩ := hv
    simp only [canA, runs_bind, runs_pure] at h
    obtain ⟨ys, l1, _, h1, ⟨rfl, rfl⟩, rfl⟩ := h
    have h2 := mapQ_nil (fun x y l h => (canC_ok h).1) h1
    have h3 := mapQ_map (a := den1 G) (b := den1 G) (fun x y l h => by rw [(canC_ok h).2.2, den1_cell1]) h1
    subst h2
    exact ⟨rfl, congrArg T.agg h3, congrArg T.agg h3⟩
  · have e : canA nm look v = canC nm look v := by cases v <;> first | rfl | exact absurd ⟨_, rfl⟩ hv
    rw [e] at h
    obtain ⟨h1, h2, h3⟩ := canC_ok h
    refine ⟨h1, h2, ?_⟩
    have hw : ∀ cs, w ≠ .agg cs := by
      rintro cs rfl
      exact hv (denV_agg (h2.symm : denV G v = T.agg (cs.map (den1 G))))
    rw [denA_not_agg hw, denA_not_agg fun cs e => hv ⟨cs, e⟩, h3]
theorem canV_ok {look : Nat → O G.El} {v w : V G.El} {l : List Nat} (h : (canV look v).runs lk w l) : l = [] ∧ denV G w = denV G v := by
  by_cases hv : ∃ ts, v = .tup ts
  · obtain ⟨ts, rfl⟩ := hv
    simp only [canV, runs_bind, runs_pure] at h
    obtain ⟨ys, l1, _, h1, ⟨rfl, rfl⟩, rfl⟩ := h
    have h2 := mapQ_nil (fun x y l h => (canA_ok h).1) h1
    have h3 := mapQ_map (a := denA G) (b := denA G) (fun x y l h => (canA_ok h).2.2) h1
    subst h2
    exact ⟨rfl, congrArg T.tup h3⟩
  · have e : canV look v = canA 0 look v := by cases v <;> first | rfl | exact absurd ⟨_, rfl⟩ hv
    rw [e] at h
    exact ⟨(canA_ok h).1, (canA_ok h).2.1⟩
theorem canO_ok {nm : Nat → Nat} {look : Nat → O G.El} {x w : O G.El} {l : List Nat} (h : (canO nm look x).runs lk w l) : l = [] ∧ denO G w = denO G x := by
  cases x with
  | row a m k v t xs last => obtain ⟨rfl, rfl⟩ := runs_ret.1 h; exact ⟨rfl, rfl⟩
  | gone => obtain ⟨rfl, rfl⟩ := runs_ret.1 h; exact ⟨rfl, rfl⟩
  | box a m v k g cs =>
    simp only [canO, runs_bind, runs_pure] at h
    obtain ⟨ys, l1, _, h1, ⟨rfl, rfl⟩, rfl⟩ := h
    have h2 := mapQ_nil (fun x y l h => (canC_ok h).1) h1
    have h3 := mapQ_map (a := fun p : V G.El × Nat => den1 G p.1) (b := den1 G) (fun x y l h => by rw [(canC_ok h).2.2, den1_cell1]) h1
    subst h2
    have h4 : cs.zipIdx.map (fun p => den1 G p.1) = cs.map (den1 G) := by
      have : (fun p : V G.El × Nat => den1 G p.1) = den1 G ∘ Prod.fst := rfl
      rw [this, ← List.map_map, List.zipIdx_map_fst]
    refine ⟨rfl, ?_⟩
    simp only [denO, h3, h4]
variable {look : Nat → O G.El}
theorem refsBox {al mw : Bool} {ver k : Nat} {g : Bool} {cs : List (V G.El)} : [wrapT g (cs.map (den1 G))].flatMap refs = (cellsO (.box al mw ver k g cs : O G.El)).flatMap refs1V := by
  simp only [List.flatMap_cons, List.flatMap_nil, List.append_nil, cellsO]
  cases g with
  | true =>
    simp only [oneOr, Bool.true_or, wrapT, refs, List.flatMap_map]
    exact flatMap_same fun c _ => refs1_den c
  | false =>
    match cs with
    | [] => rfl
    | [c] =>
      show refs (den1 G c) = [c].flatMap refs1V
      simp only [List.flatMap_cons, List.flatMap_nil, List.append_nil]
      rw [← refs1_den]
      cases hd : den1 G c with
      | agg l => exact absurd hd (den1_agg c l)
      | tup l => exact absurd hd (den1_tup c l)
      | _ => rfl
    | _ :: _ :: _ => rfl
theorem reachO_den : ∀ (n : Nat) (os done : List Nat), reachN (lkT G look) n os done = reachO look n os done
  | 0, os, done => by cases os <;> rfl
  | n + 1, [], done => rfl
  | n + 1, o :: r, done => by
    simp only [reachN, reachO, lkT, alive_den]
    cases hc : done.contains o || !(look o).alive with
    | true => rw [if_pos rfl]; exact reachO_den n r done
    | false =>
      rw [if_neg (by simp)]
      have : (if (denO G (look o)).row then [] else (denO G (look o)).xs.flatMap refs) = (cellsO (look o)).flatMap refs1V := by
        cases hx : look o with
        | row a m k v t xs last => rfl
        | gone => rfl
        | box a m v k g cs => exact refsBox
      rw [this]
      exact reachO_den n _ _
theorem validO_den (src : Src) : validB (lkT G look) src = validO look src := by
  simp only [validB, validO, lkT, alive_den, ver_den]
theorem srcO_den (K : List Nat) : srcN K (lkT G look) (fun _ => 0) = srcO K look := by
  funext l
  simp only [srcN, srcO, validO_den]
  cases validO look l <;> rfl
def selT (look : Nat → Ob) (m : Bool) (t : T) : T := match m with
  | false => t
  | true => match t with
    | .nil => .sl [] []
    | .win o off len => let x := look o
      if x.alive && x.row && decide (off + len ≤ x.xs.length) then .sl ((x.xs.drop off).take len) (if x.may then [(o, x.ver)] else []) else .dead
    | t => t
theorem pickTmps_get {keep : List (Nat × Bool)} {look : Nat → Ob} : ∀ (l : List T) (j i : Nat), (pickTmps keep look j l)[i]? = (l[i]?).map fun t => match keep.find? (·.1 == j + i) with
    | none => .dead
    | some p => selT look p.2 t
  | [], j, i => by simp [pickTmps]
  | t :: r, j, 0 => by
    simp only [pickTmps, List.getElem?_cons_zero, Option.map_some, Nat.add_zero]
    cases keep.find? (·.1 == j) with
    | none => rfl
    | some p =>
      obtain ⟨q, m⟩ := p
      cases m with
      | false => rfl
      | true => cases t <;> rfl
  | t :: r, j, i + 1 => by
    simp only [pickTmps, List.getElem?_cons_succ]
    rw [pickTmps_get r (j + 1) i, Nat.add_assoc, Nat.add_comm 1 i]
theorem pickQ_ok {kt : Nat → Nat} {s : S G.El} : ∀ {keep : List (Nat × Nat)} {ts : List (Nat × V G.El)} {l : List Nat}, (pickQ look kt s keep).runs lk ts l →
    l = [] ∧ ts.map (fun p => (p.1, denV G p.2)) = keep.map (fun p => (p.1, selT (lkT G look) (p.2 == 1) (denV G (s.get p.1)))) ∧ ∀ p ∈ keep, p.1 < s.n
  | [], ts, l, h => by obtain ⟨rfl, rfl⟩ := runs_ret.1 h; exact ⟨rfl, rfl, fun p hp => by cases hp⟩
  | (q, m) :: r, ts, l, h => by
    simp only [pickQ, runs_bind, runs_grd, runs_pure, decide_eq_true_eq] at h
    obtain ⟨_, _, _, ⟨hq, rfl⟩, ⟨v, l3, _, hv, ⟨tl, l5, _, ht, ⟨rfl, rfl⟩, rfl⟩, rfl⟩, rfl⟩ := h
    obtain ⟨rfl, h1, h2⟩ := pickQ_ok ht
    have key : l3 = [] ∧ denV G v = selT (lkT G look) (m == 1) (denV G (s.get q)) := by
      cases hm : m == 1 with
      | false => rw [hm] at hv; obtain ⟨rfl, rfl⟩ := runs_pure.1 hv; exact ⟨rfl, rfl⟩
      | true =>
        rw [hm] at hv
        simp only at hv
        cases hg : s.get q with
        | nil => rw [hg] at hv; obtain ⟨rfl, rfl⟩ := runs_pure.1 hv; exact ⟨rfl, rfl⟩
        | win o full off len =>
          rw [hg] at hv
          simp only at hv
          have hT : ∀ r, (if (denO G (look o)).alive && (denO G (look o)).row && decide (off.v + len.v ≤ (denO G (look o)).xs.length) then T.sl (((denO G (look o)).xs.drop off.v).take len.v) (if (denO G (look o)).may then [(o, (denO G (look o)).ver)] else []) else .dead) = r → selT (lkT G look) true (denV G (.win o full off len)) = r := fun r h => h
          split at hv
          · rename_i mw kp ver t xs last hl
            simp only [runs_bind, runs_pure] at hv
            obtain ⟨ys, _, _, h4, ⟨rfl, rfl⟩, rfl⟩ := hv
            obtain ⟨rfl, h5, rfl⟩ := winQ_ok h4
            refine ⟨rfl, (hT _ ?_).symm⟩
            rw [hl, lenT, winT]
            simp only [denO, Bool.and_true, Bool.true_and, decide_eq_true h5, if_true]
            cases mw <;> rfl
          · rename_i hl
            obtain ⟨rfl, rfl⟩ := runs_pure.1 hv
            refine ⟨rfl, (hT _ ?_).symm⟩
            cases hx : look o with
            | row al mw kp ver t xs last =>
              cases al with
              | true => exact absurd hx (hl _ _ _ _ _ _)
              | false => simp [denO]; rfl
            | box al mw ver k g cs => simp [denO]; rfl
            | gone => simp [denO, Ob.gone]; rfl
        | bp n c d => rw [hg] at hv; obtain ⟨rfl, rfl⟩ := runs_pure.1 hv; cases n <;> exact ⟨rfl, rfl⟩
        | bb n x => rw [hg] at hv; obtain ⟨rfl, rfl⟩ := runs_pure.1 hv; cases n <;> exact ⟨rfl, rfl⟩
        | _ => rw [hg] at hv; obtain ⟨rfl, rfl⟩ := runs_pure.1 hv; exact ⟨rfl, rfl⟩
    obtain ⟨rfl, key⟩ := key
    refine ⟨rfl, ?_, ?_⟩
    · rw [List.map_cons, List.map_cons, h1, key]
    · intro p hp
      rcases List.mem_cons.1 hp with rfl | hp
      · exact hq
      · exact h2 p hp
theorem setTm_den (s : S G.El) (q : Nat) (v : V G.El) (h : q < s.n) (st : List (Nat × O G.El)) (nx : Nat) : denS G { s with tm := (q, v) :: s.tm, st := st, nx := nx } = { denS G s with tmps := (denS G s).tmps.set q (denV G v), store := denWr G st, nx := nx } := by
  have := putT_den s (some q) v
  simp only [putV, decide_eq_true h, putT] at this
  have h1 := congrArg St.tmps this
  simp only [denS] at h1 ⊢
  simp only [St.mk.injEq, and_true]
  exact h1
theorem den_nil {v : V G.El} (h : denV G v = .nil) : v = .nil := by
  cases v with
  | nil => rfl
  | bp n c d => cases n <;> cases h
  | bb n x => cases n <;> cases h
  | _ => cases h
theorem freshS_ok {kt : Nat → Nat} : ∀ {keep : List (Nat × Nat)} {s s' : S G.El} {l : List Nat}, (freshS G kt keep s).runs lk s' l → l = [] ∧ freshR keep (denS G s) = denS G s' ∧ s'.n = s.n ∧ s'.m = s.m
  | [], s, s', l, h => by obtain ⟨rfl, rfl⟩ := runs_ret.1 h; exact ⟨rfl, rfl, rfl, rfl⟩
  | (q, k) :: r, s, s', l, h => by
    simp only [freshS] at h
    simp only [freshR]
    by_cases hk : k < 2
    · rw [decide_eq_true hk] at h
      rw [if_pos hk]
      exact freshS_ok h
    · rw [decide_eq_false hk] at h
      rw [if_neg hk]
      have same : (∀ x, s.get q ≠ .nil ∨ x = ()) → s.get q ≠ .nil → fresh1 q (k - 2) (denS G s) = denS G s := by
        intro _ hne
        unfold fresh1
        by_cases hq : q < s.n
        · rw [tmps_get hq]
          split
          · rename_i he
            exact absurd (den_nil (Option.some.inj he)) hne
          · rfl
        · have : (denS G s).tmps[q]? = none := by
            rw [List.getElem?_eq_none_iff]; simp only [denS, List.length_map, List.length_range]; omega
          rw [this]
      simp only at h
      split at h
      · rename_i hg
        simp only [runs_bind, widthQ, runs_grd, beq_iff_eq] at h
        obtain ⟨_, _, _, ⟨hw, rfl⟩, h1, rfl⟩ := h
        have hq : q < s.n := by
          by_cases hq : q < s.n
          · exact hq
          · simp [S.get, hq] at hg
        obtain ⟨rfl, h2, h3, h4⟩ := freshS_ok h1
        refine ⟨rfl, ?_, h3, h4⟩
        rw [← h2, setTm_den s q _ hq, putAll_den]
        congr 1
        unfold fresh1
        rw [tmps_get hq, hg]
        simp only [denV, denA, den1, denWr, List.map_cons, List.map_nil, denO, rowsOf, hw, N.v]
        rfl
      · rename_i hg
        have := same (fun x => .inr rfl) (fun e => hg e)
        rw [this]
        exact freshS_ok h
end Go.Proofs.Ytfjoamlgbegpgaa.PN
namespace Go.Proofs.Ytfjoamlgbegpgaa.PN
open Go Go.Proofs.Ytfjoamlgbegpgaa.PM
variable {G : Sg} {P : Program} {α β γ : Type} {lk : Nat → O G.El} {look : Nat → O G.El}
theorem findK_find {δ : Type} (g : Nat × γ → δ) : ∀ (l : List (Nat × γ)) (i : Nat), findK (l.map fun p => (p.1, g p)) i = (l.find? (fun p => p.1 == i)).map g
  | [], i => rfl
  | p :: r, i => by
    simp only [List.map_cons, findK, List.find?_cons]
    by_cases h : p.1 = i
    · simp [h]
    · have hb : (p.1 == i) = false := by simpa using h
      rw [if_neg h, hb]
      exact findK_find g r i
theorem find_map {δ : Type} (g : Nat × γ → δ) (l : List (Nat × γ)) (i : Nat) : (l.map fun p => (p.1, g p)).find? (fun p => p.1 == i) = (l.find? (fun p => p.1 == i)).map fun p => (p.1, g p) := by
  induction l with
  | nil => rfl
  | cons p r ih =>
    simp only [List.map_cons, List.find?_cons]
    cases hp : p.1 == i with
    | true => rfl
    | false => exact ih
theorem rising_keys : ∀ {l : List (Nat × Nat)} {p : Nat × Nat}, risingB (p :: l) = true → ∀ q ∈ l, p.1 < q.1
  | [], p, h, q, hq => by cases hq
  | a :: r, p, h, q, hq => by
    simp only [risingB, Bool.and_eq_true, decide_eq_true_eq] at h
    rcases List.mem_cons.1 hq with rfl | hq
    · exact h.1
    · exact Nat.lt_trans h.1 (rising_keys h.2 q hq)
theorem rising_tail {l : List (Nat × Nat)} {p : Nat × Nat} (h : risingB (p :: l) = true) : risingB l = true := by
  cases l with
  | nil => rfl
  | cons a r => simp only [risingB, Bool.and_eq_true] at h; exact h.2
theorem findK_none {δ : Type} : ∀ {l : List (Nat × δ)} {i : Nat}, (∀ p ∈ l, p.1 ≠ i) → findK l i = none
  | [], i, h => rfl
  | (k, x) :: r, i, h => by
    simp only [findK, if_neg (h (k, x) (by simp))]
    exact findK_none fun p hp => h p (by simp [hp])
theorem flat_keys {δ : Type} (f : δ → List Nat) : ∀ (n a : Nat) (keep : List (Nat × Nat)) (ts : List (Nat × δ)), ts.map (·.1) = keep.map (·.1) → risingB keep = true → (∀ p ∈ keep, a ≤ p.1 ∧ p.1 < a + n) →
    (List.range' a n).flatMap (fun i => match findK ts i with | some x => f x | none => []) = ts.flatMap fun p => f p.2
  | 0, a, keep, ts, hk, hr, hb => by
    cases keep with
    | nil => cases ts with
      | nil => rfl
      | cons t r => simp at hk
    | cons p r => have := hb p (by simp); omega
  | n + 1, a, keep, ts, hk, hr, hb => by
    rw [List.range'_succ, List.flatMap_cons]
    cases keep with
    | nil =>
      cases ts with
      | nil =>
        simp only [findK, List.nil_append, List.flatMap_nil]
        exact flat_keys f n (a + 1) [] [] rfl rfl fun p hp => by cases hp
      | cons t r => simp at hk
    | cons p r =>
      cases ts with
      | nil => simp at hk
      | cons t q =>
        obtain ⟨k, x⟩ := t
        simp only [List.map_cons, List.cons.injEq] at hk
        obtain ⟨rfl, hk⟩ := hk
        have hp := hb p (by simp)
        have hlt := rising_keys hr
        by_cases ha : p.1 = a
        · have h1 : findK ((p.1, x) :: q) a = some x := by simp [findK, ha]
          rw [h1, List.flatMap_cons]
          congr 1
          have h2 : (List.range' (a + 1) n).flatMap (fun i => match findK ((p.1, x) :: q) i with | some x => f x | none => []) = (List.range' (a + 1) n).flatMap (fun i => match findK q i with | some x => f x | none => []) := by
            refine flatMap_same fun i hi => ?_
            have : p.1 ≠ i := by have := (List.mem_range'_1.1 hi).1; omega
            simp only [findK, if_neg this]
          rw [h2]
          exact flat_keys f n (a + 1) r q hk (rising_tail hr) fun z hz => by have := hlt z hz; have := hb z (by simp [hz]); omega
        · have hge : a + 1 ≤ p.1 := by omega
          have h1 : findK ((p.1, x) :: q) a = none := by
            refine findK_none fun z hz => ?_
            rcases List.mem_cons.1 hz with rfl | hz
            · exact ha
            · have : z.1 ∈ r.map (·.1) := by rw [← hk]; exact List.mem_map_of_mem hz
              obtain ⟨y, hy, hyz⟩ := List.mem_map.1 this
              have := hlt y hy
              rw [← hyz]; omega
          rw [h1, List.nil_append]
          exact flat_keys f n (a + 1) (p :: r) ((p.1, x) :: q) (by simp [hk]) hr fun z hz => by
            have h3 := hb z hz
            rcases List.mem_cons.1 hz with rfl | hz
            · omega
            · have := hlt z hz; omega
theorem mapV_dead {f : Nat → Option Nat} {sg : Src → Option Src} : mapV f sg .dead = .dead := rfl
theorem normS_ok {kt : Nat → Nat} {keep : List (Nat × Nat)} {s s' : S G.El} {l : List Nat} (h : (normS G kt keep s).runs lk s' l) : normR keep (denS G s) = denS G s' := by
  simp only [normS, runs_bind, runs_grd] at h
  obtain ⟨_, _, _, ⟨hr, rfl⟩, ⟨s1, _, _, h1, ⟨ts, _, _, h2, ⟨us, _, _, h3, ⟨os, _, _, h4, h5, rfl⟩, rfl⟩, rfl⟩, rfl⟩, rfl⟩ := h
  obtain ⟨rfl, rfl⟩ := runs_pure.1 h5
  obtain ⟨rfl, hf, hn, hm⟩ := freshS_ok h1
  obtain ⟨rfl, hts, hlt⟩ := pickQ_ok h2
  have hus : us.map (fun p => (p.1, denV G p.2)) = ts.map (fun p => (p.1, denV G p.2)) := by
    refine mapQ_map (a := fun p : Nat × V G.El => (p.1, denV G p.2)) (b := fun p : Nat × V G.El => (p.1, denV G p.2)) ?_ h3
    intro p q l hq
    simp only [runs_bind, runs_pure] at hq
    obtain ⟨v, l1, _, hv, ⟨rfl, rfl⟩, rfl⟩ := hq
    simp only [Prod.mk.injEq, true_and]
    cases hp : p.2 with
    | tup tt => rw [hp] at hv; obtain ⟨rfl, rfl⟩ := runs_pure.1 hv; rfl
    | _ => rw [hp] at hv; exact (canA_ok hv).2.1
  let st := denS G s1
  let keepB : List (Nat × Bool) := keep.map fun p => (p.1, p.2 == 1)
  let lT := lkT G (lookO s1.st)
  have hlT : lookIn st.store = lT := (lk_den s1).symm
  have hTS : pickTmps keepB lT 0 st.tmps = (List.range s1.n).map fun i => (findK (ts.map fun p => (p.1, denV G p.2)) i).getD .dead := by
    apply List.ext_getElem?
    intro i
    rw [pickTmps_get, List.getElem?_map]
    by_cases hi : i < s1.n
    · rw [tmps_get hi, List.getElem?_range hi]
      simp only [Option.map_some, Nat.zero_add]
      rw [hts, findK_find (fun p : Nat × Nat => selT (lkT G (lookO s1.st)) (p.2 == 1) (denV G (s1.get p.1))), find_map (fun p : Nat × Nat => p.2 == 1)]
      cases hfd : keep.find? (fun p => p.1 == i) with
      | none => rfl
      | some p =>
        have : p.1 = i := by simpa using List.find?_some hfd
        subst this
        rfl
    · have e1 : st.tmps[i]? = none := by rw [List.getElem?_eq_none_iff]; simp only [st, denS, List.length_map, List.length_range]; omega
      have e2 : (List.range s1.n)[i]? = none := by rw [List.getElem?_eq_none_iff, List.length_range]; omega
      rw [e1, e2]; rfl
  have hkeys : ts.map (·.1) = keep.map (·.1) := by
    have := congrArg (List.map Prod.fst) hts
    simpa [List.map_map, Function.comp_def] using this
  have hRefs : (pickTmps keepB lT 0 st.tmps).flatMap refs = ts.flatMap fun p => refsV p.2 := by
    rw [hTS, List.flatMap_map, List.range_eq_range']
    have h6 := flat_keys (fun v : V G.El => refsV v) s1.n 0 keep ts hkeys hr (fun p hp => ⟨Nat.zero_le _, by have := hlt p hp; omega⟩)
    rw [← h6]
    refine flatMap_same fun i _ => ?_
    rw [findK_map]
    cases findK ts i with
    | none => rfl
    | some v => exact refs_den v
  have hK : (List.range st.m ++ (reachN lT 64 (List.range st.m ++ (pickTmps keepB lT 0 st.tmps).flatMap refs) []).filter fun o => !decide (o < st.m)) =
      (List.range s1.m ++ (reachO (lookO s1.st) 64 (List.range s1.m ++ ts.flatMap fun p => refsV p.2) []).filter fun o => !decide (o < s1.m)) := by
    rw [hRefs, reachO_den]; rfl
  show normB keepB (freshR keep (denS G s)) = _
  rw [hf]
  show normB keepB st = _
  simp only [normB, hlT]
  rw [hK, srcO_den]
  generalize hKK : (List.range s1.m ++ (reachO (lookO s1.st) 64 (List.range s1.m ++ ts.flatMap fun p => refsV p.2) []).filter fun o => !decide (o < s1.m)) = K at h4 ⊢
  rw [hTS]
  have hmm : st.m = s1.m := rfl
  simp only [denS, St.mk.injEq, hmm]
  refine ⟨?_, ?_, trivial, trivial⟩
  · rw [List.map_map]
    refine List.map_congr_left fun i _ => ?_
    simp only [Function.comp]
    rw [← hus, findK_map, lookV, findK_map]
    cases findK us i with
    | none => rfl
    | some v => exact (mapV_den v).symm
  · have := mapQ_map (a := fun p : Nat × Nat => (p.2, ({ mapOb (posIn K) (srcO K (lookO s1.st)) (lT p.1) with ver := 0 } : Ob))) (b := fun p : Nat × O G.El => (p.1, denO G p.2)) ?_ h4
    · simp only [denWr]; rw [this]
    · intro p q l hq
      simp only [runs_bind, runs_pure] at hq
      obtain ⟨x, l1, _, hx, ⟨rfl, rfl⟩, rfl⟩ := hq
      obtain ⟨_, hx⟩ := canO_ok hx
      simp only [Prod.mk.injEq, true_and]
      rw [setVer_den _ _ (.inr rfl), mapO_den, hx]
theorem resQ_ok (ok : SgOk P G) {fn : Func} {s : S G.El} {v : V G.El} {l : List Nat} (h : (resQ G fn s).runs (lookO s.st) v l) : (resR P fn (denS G s)).run (lookIn (denS G s).store) = some (denV G v, l) := by
  simp only [resQ, runs_bind] at h
  obtain ⟨vs, l1, l2, h1, h2, rfl⟩ := h
  rw [← lk_den]
  have h3 : (mapR (fun r => match r with
    | .tmp t => Rd.ret (((denS G s).tmps[t]?).getD .dead)
    | .cell a t => loadR P t (((denS G s).tmps[a]?).getD .dead)) fn.results.toList).run (lkT G (lookO s.st)) = some (vs.map (denA G), l1) := by
    have := mapQ_ok (a := fun r : ResultVar => r) (b := denA G) (g := fun r => match r with
      | .tmp t => Rd.ret (((denS G s).tmps[t]?).getD .dead)
      | .cell a t => loadR P t (((denS G s).tmps[a]?).getD .dead)) (fun r y l hr => ?_) h1
    · rwa [List.map_id'] at this
    · cases r with
      | tmp t =>
        simp only [runs_bind, runs_grd, runs_pure] at hr
        obtain ⟨_, _, _, ⟨ha, rfl⟩, ⟨rfl, rfl⟩, rfl⟩ := hr
        show (Rd.ret (((denS G s).tmps[t]?).getD .dead)).run _ = _
        rw [← get_den, denV_okA ha]; rfl
      | cell a t =>
        obtain ⟨h4, h5⟩ := loadQ_ok ok hr
        show (loadR P t (((denS G s).tmps[a]?).getD .dead)).run _ = _
        rw [← get_den]; exact h4
  have hA : ∀ v ∈ vs, okA v = true := by
    refine mapQ_all (p := fun v => okA v = true) (fun r y l hr => ?_) h1
    cases r with
    | tmp t =>
      simp only [runs_bind, runs_grd, runs_pure] at hr
      obtain ⟨_, _, _, ⟨ha, rfl⟩, ⟨rfl, rfl⟩, rfl⟩ := hr
      exact ha
    | cell a t => exact (loadQ_ok ok hr).2
  simp only [resR]
  refine bind_some.2 ⟨_, l1, l2, h3, ?_, rfl⟩
  match vs, h2, hA with
  | [v1], h2, hA =>
    obtain ⟨rfl, rfl⟩ := runs_pure.1 h2
    rw [denV_okA (hA _ (by simp))]; rfl
  | [], h2, hA => obtain ⟨rfl, rfl⟩ := runs_pure.1 h2; rfl
  | a :: b :: r, h2, hA => obtain ⟨rfl, rfl⟩ := runs_pure.1 h2; rfl
def denOut (G : Sg) (p : V G.El × Nat × List (Nat × O G.El)) : T × Nat × List (Nat × Ob) := (denV G p.1, p.2.1, denWr G p.2.2)
theorem outCellQ_ok {own : Bool} {m : Nat} {k : Option Nat} {v : V G.El} {nx : Nat} {r : V G.El × Nat × List (Nat × O G.El)} {l : List Nat} (h : (outCellQ own m look k v nx).runs lk r l) :
    l = [] ∧ outCell own m (lkT G look) (k.map G.w) (denV G v) nx = some (denOut G r) ∧ isCell r.1 = true ∧ denV G v = den1 G v := by
  unfold outCellQ at h
  split at h
  · rename_i e
    cases own with
    | true => obtain ⟨rfl, rfl⟩ := runs_pure.1 h; exact ⟨rfl, rfl, rfl, rfl⟩
    | false => obtain ⟨rfl, rfl⟩ := runs_pure.1 h; exact ⟨rfl, rfl, rfl, rfl⟩
  · rename_i e o full off len
    cases ho : own || decide (o < m) with
    | true =>
      rw [ho] at h
      obtain ⟨rfl, rfl⟩ := runs_pure.1 h
      refine ⟨rfl, ?_, rfl, rfl⟩
      simp only [Option.map_some, denV, denA, den1, outCell, ho, if_true]; rfl
    | false =>
      rw [ho] at h
      simp only at h
      split at h
      · rename_i mw kp ver t xs last hl
        simp only [runs_bind, runs_pure] at h
        obtain ⟨ys, _, _, h4, ⟨rfl, rfl⟩, rfl⟩ := h
        obtain ⟨rfl, h5, rfl⟩ := winQ_ok h4
        refine ⟨rfl, ?_, rfl, rfl⟩
        simp only [Option.map_some, denV, denA, den1, outCell, ho, Bool.false_eq_true, if_false]
        simp only [lkT, hl, lenT, winT]
        simp only [denO, Bool.and_true, Bool.true_and, decide_eq_true h5, if_true]
        cases mw <;> rfl
      · exact (runs_fail.1 h).elim
  · rename_i e t xs src
    simp only [runs_bind, runs_grd, runs_pure] at h
    obtain ⟨_, _, _, ⟨h1, rfl⟩, ⟨rfl, rfl⟩, rfl⟩ := h
    refine ⟨rfl, ?_, rfl, rfl⟩
    simp only [Option.map_some, denV, denA, den1, outCell, validO_den, h1, if_true]; rfl
  · rename_i e src
    simp only [runs_bind, runs_grd, runs_pure] at h
    obtain ⟨_, _, _, ⟨h1, rfl⟩, ⟨rfl, rfl⟩, rfl⟩ := h
    refine ⟨rfl, ?_, rfl, rfl⟩
    simp only [Option.map_some, denV, denA, den1, outCell, validO_den, h1, if_true]; rfl
  · rename_i a b c
    obtain ⟨rfl, rfl⟩ := runs_pure.1 h; exact ⟨rfl, rfl, rfl, rfl⟩
  · obtain ⟨rfl, rfl⟩ := runs_pure.1 h; exact ⟨rfl, rfl, rfl, rfl⟩
  · obtain ⟨rfl, rfl⟩ := runs_pure.1 h; exact ⟨rfl, rfl, rfl, rfl⟩
  · rename_i a b c
    obtain ⟨rfl, rfl⟩ := runs_pure.1 h; cases a <;> exact ⟨rfl, rfl, rfl, rfl⟩
  · rename_i a b
    obtain ⟨rfl, rfl⟩ := runs_pure.1 h; cases a <;> exact ⟨rfl, rfl, rfl, rfl⟩
  · obtain ⟨rfl, rfl⟩ := runs_pure.1 h; exact ⟨rfl, rfl, rfl, rfl⟩
  · obtain ⟨rfl, rfl⟩ := runs_pure.1 h; exact ⟨rfl, rfl, rfl, rfl⟩
  · obtain ⟨rfl, rfl⟩ := runs_pure.1 h; exact ⟨rfl, rfl, rfl, rfl⟩
  · exact (runs_fail.1 h).elim
theorem outCellsQ_ok {own : Bool} {m : Nat} : ∀ {ks : List (Option Nat)} {vs : List (V G.El)} {nx : Nat} {r : List (V G.El) × Nat × List (Nat × O G.El)} {l : List Nat}, (outCellsQ own m look ks vs nx).runs lk r l →
    l = [] ∧ outCells own m (lkT G look) (ks.map (Option.map G.w)) (vs.map (den1 G)) nx = some (r.1.map (den1 G), r.2.1, denWr G r.2.2)
  | [], [], nx, r, l, h => by obtain ⟨rfl, rfl⟩ := runs_ret.1 h; exact ⟨rfl, rfl⟩
  | k :: ks, t :: ts, nx, r, l, h => by
    simp only [outCellsQ, runs_bind, runs_pure] at h
    obtain ⟨p, l1, _, h1, ⟨q, l3, _, h2, ⟨rfl, rfl⟩, rfl⟩, rfl⟩ := h
    obtain ⟨rfl, h3, h4, h5⟩ := outCellQ_ok h1
    obtain ⟨rfl, h6⟩ := outCellsQ_ok h2
    refine ⟨rfl, ?_⟩
    simp only [List.map_cons, outCells]
    rw [← h5, h3]
    simp only [denOut, h6]
    simp [denWr, denV_isCell h4]
  | [], _ :: _, nx, r, l, h => (runs_fail.1 h).elim
  | _ :: _, [], nx, r, l, h => (runs_fail.1 h).elim
theorem outOneQ_ok (ok : SgOk P G) {own : Bool} {m : Nat} {ty : TypeId} {v : V G.El} {nx : Nat} {r : V G.El × Nat × List (Nat × O G.El)} {l : List Nat} (h : (outOneQ G own m look ty v nx).runs lk r l) :
    l = [] ∧ outOne P own m (lkT G look) ty (denV G v) nx = some (denOut G r) ∧ okA r.1 = true ∧ denV G v = denA G v := by
  simp only [outOneQ, runs_bind, runs_opt] at h
  obtain ⟨inf, _, _, ⟨hi, rfl⟩, ⟨ks, _, _, ⟨hk, rfl⟩, h2, rfl⟩, rfl⟩ := h
  have hc := (ok.ti _ _ hi).cs _ hk
  unfold outOne
  rw [hc]
  simp only
  by_cases hv : ∃ cs, v = .agg cs
  · obtain ⟨cs, rfl⟩ := hv
    simp only [runs_bind, runs_pure] at h2
    obtain ⟨p, l1, _, h3, ⟨rfl, rfl⟩, rfl⟩ := h2
    obtain ⟨rfl, h4⟩ := outCellsQ_ok h3
    refine ⟨rfl, ?_, rfl, rfl⟩
    simp only [denV, denA, h4, Option.map_some]; rfl
  · have h3 : (out1Q own m look ks v nx).runs lk r l := by
      cases v with
      | agg cs => exact absurd ⟨cs, rfl⟩ hv
      | _ => exact h2
    match ks, h3, hc with
    | [k], h3, hc =>
      obtain ⟨rfl, h4, h5, h6⟩ := outCellQ_ok h3
      have hA : denV G v = denA G v := by rw [h6, denA_not_agg fun cs e => hv ⟨cs, e⟩]
      refine ⟨rfl, ?_, okA_isCell h5, hA⟩
      have : ∀ t, (∀ cs, t ≠ .agg cs) → (match t with | .agg cs => (outCells own m (lkT G look) ([k].map (Option.map G.w)) cs nx).map fun p => (T.agg p.1, p.2) | t => (match [k].map (Option.map G.w) with | [k] => outCell own m (lkT G look) k t nx | _ => none)) = outCell own m (lkT G look) (k.map G.w) t nx := by
        intro t ht
        cases t with
        | agg cs => exact absurd rfl (ht cs)
        | _ => rfl
      rw [← h4]
      exact this _ (by rw [h6]; exact den1_agg v)
    | [], h3, hc => exact (runs_fail.1 h3).elim
    | _ :: _ :: _, h3, hc => exact (runs_fail.1 h3).elim
theorem outManyQ_ok (ok : SgOk P G) {own : Bool} {m : Nat} : ∀ {tys : List TypeId} {vs : List (V G.El)} {nx : Nat} {r : List (V G.El) × Nat × List (Nat × O G.El)} {l : List Nat}, (outManyQ G own m look tys vs nx).runs lk r l →
    l = [] ∧ outMany P own m (lkT G look) tys (vs.map (denA G)) nx = some (r.1.map (denA G), r.2.1, denWr G r.2.2)
  | [], [], nx, r, l, h => by obtain ⟨rfl, rfl⟩ := runs_ret.1 h; exact ⟨rfl, rfl⟩
  | ty :: tys, t :: ts, nx, r, l, h => by
    simp only [outManyQ, runs_bind, runs_pure] at h
    obtain ⟨p, l1, _, h1, ⟨q, l3, _, h2, ⟨rfl, rfl⟩, rfl⟩, rfl⟩ := h
    obtain ⟨rfl, h3, h4, h5⟩ := outOneQ_ok ok h1
    obtain ⟨rfl, h6⟩ := outManyQ_ok ok h2
    refine ⟨rfl, ?_⟩
    simp only [List.map_cons, outMany]
    rw [← h5, h3]
    simp only [denOut, h6]
    simp [denWr, denV_okA h4]
  | [], _ :: _, nx, r, l, h => (runs_fail.1 h).elim
  | _ :: _, [], nx, r, l, h => (runs_fail.1 h).elim
theorem outAllQ_ok (ok : SgOk P G) {own : Bool} {m : Nat} {tys : List TypeId} {v : V G.El} {nx : Nat} {r : V G.El × Nat × List (Nat × O G.El)} {l : List Nat} (h : (outAllQ G own m look tys v nx).runs lk r l) :
    l = [] ∧ outAll P own m (lkT G look) tys (denV G v) nx = some (denOut G r) := by
  have many : ∀ tys : List TypeId, (outMQ G own m look tys v nx).runs lk r l →
      l = [] ∧ (match denV G v with | .tup rs => (outMany P own m (lkT G look) tys rs nx).map fun p => (T.tup p.1, p.2) | _ => none) = some (denOut G r) := by
    intro tys h
    cases v with
    | tup rs =>
      simp only [outMQ, runs_bind, runs_pure] at h
      obtain ⟨p, l1, _, h3, ⟨rfl, rfl⟩, rfl⟩ := h
      obtain ⟨rfl, h4⟩ := outManyQ_ok ok h3
      refine ⟨rfl, ?_⟩
      simp only [denV, h4, Option.map_some]; rfl
    | _ => exact (runs_fail.1 h).elim
  match tys, h with
  | [ty], h => obtain ⟨h1, h2, _⟩ := outOneQ_ok ok h; exact ⟨h1, h2⟩
  | [], h => exact many [] h
  | a :: b :: t, h => exact many _ h
theorem giveQ_ok (ok : SgOk P G) {fn : Func} {own : Bool} {m : Nat} {s : S G.El} {r : V G.El × List (O G.El)} {l : List Nat} (h : (giveQ G fn own m s).runs (lookO s.st) r l) :
    giveR P fn own m (denS G s) = some (denV G r.1, r.2.map (denO G)) := by
  simp only [giveQ, runs_bind] at h
  obtain ⟨v, l1, _, h1, ⟨q, l3, _, h2, ⟨w, l5, _, h3, ⟨os, l7, _, h4, h5, rfl⟩, rfl⟩, rfl⟩, rfl⟩ := h
  obtain ⟨rfl, rfl⟩ := runs_pure.1 h5
  have h1' := resQ_ok ok h1
  obtain ⟨rfl, h2'⟩ := outAllQ_ok ok h2
  obtain ⟨rfl, h3'⟩ := canV_ok h3
  simp only [giveR, h1']
  rw [lk_den] at h2'
  have hnx : (denS G s).nx = s.nx := rfl
  rw [hnx, h2']
  simp only [denOut]
  have hl : lookIn (putAll (denS G s).store (denWr G q.2.2)) = lkT G (lookO (putOs s.st q.2.2)) := by
    funext o
    have : putAll (denS G s).store (denWr G q.2.2) = denWr G (putOs s.st q.2.2) := (putAll_den q.2.2 s.st).symm
    rw [this]; exact lookIn_den _ o
  rw [hl, refs_den, reachO_den, srcO_den]
  generalize (List.range m ++ (reachO (lookO (putOs s.st q.2.2)) 64 (List.range m ++ refsV q.1) []).filter fun o => !decide (o < m)) = K at h4 ⊢
  simp only [Option.some.injEq, Prod.mk.injEq]
  refine ⟨by rw [mapV_den, h3'], ?_⟩
  refine (mapQ_map (a := fun o : Nat => ({ mapOb (posIn K) (srcO K (lookO (putOs s.st q.2.2))) (lkT G (lookO (putOs s.st q.2.2)) o) with ver := 0 } : Ob)) (b := denO G) ?_ h4).symm
  intro o x l hx
  simp only [runs_bind, runs_pure] at hx
  obtain ⟨y, l1, _, hy, ⟨rfl, rfl⟩, rfl⟩ := hx
  obtain ⟨_, hy⟩ := canO_ok hy
  rw [setVer_den _ _ (.inr rfl), mapO_den, hy]
end Go.Proofs.Ytfjoamlgbegpgaa.PN
namespace Go.Proofs.Ytfjoamlgbegpgaa.PN
open Go Go.Proofs.Ytfjoamlgbegpgaa.PM
variable {P : Program} {C : Cert} {prim : FuncId → Option (List T → List Ob → Option (T × List Ob))} {β : Type}
noncomputable def atK (P : Program) (C : Cert) (prim : FuncId → Option (List T → List Ob → Option (T × List Ob))) (cert : FCert) (rid : Nat) : Code → St → (RS → β) → Option β
  | .region id ops draw, s, K => if id = rid then some (regionK P (envT P C prim) (cert.predsOf id) ops draw s K) else none
  | .seq a b, s, K => match atK P C prim cert rid a s (seqK P C prim cert b K) with
    | some r => some r
    | none => atK P C prim cert rid b s K
  | .cond _ a b, s, K => match atK P C prim cert rid a s K with
    | some r => some r
    | none => atK P C prim cert rid b s K
  | .block id b, s, K => atK P C prim cert rid b s (blockK id K)
  | .loop b, s, K => atK P C prim cert rid b s (nextK P C prim cert b K)
  | _, _, _ => none
def ids : Code → List Nat
  | .region id _ _ => [id]
  | .seq a b => ids a ++ ids b
  | .cond _ a b => ids a ++ ids b
  | .block _ b => ids b
  | .loop b => ids b
  | _ => []
def distinct : List Nat → Bool
  | [] => true
  | a :: r => !r.contains a && distinct r
theorem distinct_append : ∀ {a b : List Nat}, distinct (a ++ b) = true → distinct a = true ∧ distinct b = true ∧ ∀ x ∈ a, x ∉ b
  | [], b, h => ⟨rfl, h, fun x hx => by cases hx⟩
  | y :: r, b, h => by
    simp only [List.cons_append, distinct, Bool.and_eq_true, Bool.not_eq_true', List.contains_eq_mem] at h ⊢
    obtain ⟨h1, h2⟩ := h
    obtain ⟨h3, h4, h5⟩ := distinct_append h2
    simp only [List.mem_append, decide_eq_false_iff_not, not_or] at h1 ⊢
    refine ⟨⟨h1.1, h3⟩, h4, fun x hx => ?_⟩
    rcases List.mem_cons.1 hx with rfl | hx
    · exact h1.2
    · exact h5 x hx
theorem atK_none {cert : FCert} {rid : Nat} : ∀ {c : Code} {s : St} {K : RS → β}, rid ∉ ids c → atK P C prim cert rid c s K = none
  | .region id ops draw, s, K, h => by
    have : ¬ id = rid := fun e => h (by simp [ids, e])
    simp only [atK, if_neg this]
  | .seq a b, s, K, h => by
    simp only [ids, List.mem_append, not_or] at h
    simp only [atK, atK_none h.1, atK_none h.2]
  | .cond c a b, s, K, h => by
    simp only [ids, List.mem_append, not_or] at h
    simp only [atK, atK_none h.1, atK_none h.2]
  | .block id b, s, K, h => by simp only [atK]; exact atK_none h
  | .loop b, s, K, h => by simp only [atK]; exact atK_none h
  | .skip, s, K, h => rfl
  | .exit id, s, K, h => rfl
  | .ret, s, K, h => rfl
  | .rangeFunc _ _ _ _, s, K, h => rfl
  | .scope _, s, K, h => rfl
  | .label _, s, K, h => rfl
  | .goto _, s, K, h => rfl
  | .refuse _, s, K, h => rfl
theorem atK_some {cert : FCert} {rid : Nat} : ∀ {c : Code} {s : St} {K : RS → β}, rid ∈ ids c → ∃ r, atK P C prim cert rid c s K = some r
  | .region id ops draw, s, K, h => by
    have : id = rid := by simp only [ids, List.mem_singleton] at h; exact h.symm
    exact ⟨_, by simp only [atK, if_pos this]; rfl⟩
  | .seq a b, s, K, h => by
    simp only [ids, List.mem_append] at h
    by_cases ha : rid ∈ ids a
    · obtain ⟨r, hr⟩ := atK_some (cert := cert) (s := s) (K := seqK P C prim cert b K) ha
      exact ⟨r, by simp only [atK, hr]⟩
    · rcases h with h | h
      · exact absurd h ha
      · obtain ⟨r, hr⟩ := atK_some (cert := cert) (s := s) (K := K) h
        exact ⟨r, by simp only [atK, atK_none ha, hr]⟩
  | .cond c a b, s, K, h => by
    simp only [ids, List.mem_append] at h
    by_cases ha : rid ∈ ids a
    · obtain ⟨r, hr⟩ := atK_some (cert := cert) (s := s) (K := K) ha
      exact ⟨r, by simp only [atK, hr]⟩
    · rcases h with h | h
      · exact absurd h ha
      · obtain ⟨r, hr⟩ := atK_some (cert := cert) (s := s) (K := K) h
        exact ⟨r, by simp only [atK, atK_none ha, hr]⟩
  | .block id b, s, K, h => by simp only [atK]; exact atK_some h
  | .loop b, s, K, h => by simp only [atK]; exact atK_some h
  | .skip, s, K, h => by cases h
  | .exit id, s, K, h => by cases h
  | .ret, s, K, h => by cases h
  | .rangeFunc _ _ _ _, s, K, h => by cases h
  | .scope _, s, K, h => by cases h
  | .label _, s, K, h => by cases h
  | .goto _, s, K, h => by cases h
  | .refuse _, s, K, h => by cases h
section
variable {X : Cx} {body : Code} {K0 : RS → β} {OUT : β} {R : Lf X.G.El → Prop}
def Ctx (P : Program) (C : Cert) (prim : FuncId → Option (List T → List Ob → Option (T × List Ob))) (cert : FCert) (body : Code) (K0 : RS → β) (c : Code) (K : RS → β) : Prop :=
  ∀ rid s r, rid ∈ ids c → atK P C prim cert rid body s K0 = some r → atK P C prim cert rid c s K = some r
theorem exec_ok (ok : SgOk P X.G) (hE : EvOk P C prim X.G X.E) (hR : ∀ rid s, R (.at rid s) → atK P C prim X.cert rid body (denS X.G s) K0 = some OUT) :
    ∀ {c : Code} {K : RS → β} {s : S X.G.El} {h : H} {k : PN.K X}, distinct (ids c) = true → Ctx P C prim X.cert body K0 c K → (∀ ex s' h', (k ex s' h').yields R → K (some (ex, denS X.G s')) = OUT) →
      (exec X c s h k).yields R → execK P C prim X.cert c (denS X.G s) K = OUT
  | .skip, K, s, h, k, hd, hc, hk, hy => by rw [execK_skip]; exact hk _ _ _ hy
  | .region id ops draw, K, s, h, k, hd, hc, hk, hy => by
    rw [execK_region]
    simp only [exec] at hy
    cases hf : findK X.cert.keep id with
    | none =>
      rw [hf] at hy
      obtain ⟨s', h', hr, hy⟩ := regionN_ok ok hE hy
      rw [clearK_none, regionK_eq hr]
      exact hk _ _ _ hy
    | some kp =>
      rw [hf] at hy
      obtain ⟨s', l, h', hr, hy⟩ := runQ_yields hy
      have hn := normS_ok hr
      rw [clearK_some, hn]
      have h1 := hc id (denS X.G s') OUT (by simp [ids]) (hR id s' hy)
      simpa [atK] using h1
  | .seq a b, K, s, h, k, hd, hc, hk, hy => by
    rw [execK_seq]
    obtain ⟨d1, d2, d3⟩ := distinct_append hd
    have cb : Ctx P C prim X.cert body K0 b K := by
      intro rid st r hm hr
      have := hc rid st r (by simp [ids, hm]) hr
      simp only [atK] at this
      have hna : rid ∉ ids a := fun ha => d3 rid ha hm
      rw [atK_none hna] at this
      exact this
    have ca : Ctx P C prim X.cert body K0 a (seqK P C prim X.cert b K) := by
      intro rid st r hm hr
      have := hc rid st r (by simp [ids, hm]) hr
      simp only [atK] at this
      obtain ⟨r', hr'⟩ := atK_some (P := P) (C := C) (prim := prim) (cert := X.cert) (s := st) (K := seqK P C prim X.cert b K) hm
      rw [hr'] at this ⊢
      exact this
    refine exec_ok ok hE hR d1 ca (fun ex s' h' hy' => ?_) hy
    cases ex with
    | normal => rw [seqK_normal]; exact exec_ok ok hE hR d2 cb hk hy'
    | exit i => rw [seqK_exit]; exact hk _ _ _ hy'
    | ret => rw [seqK_ret]; exact hk _ _ _ hy'
  | .cond c a b, K, s, h, k, hd, hc, hk, hy => by
    rw [execK_cond]
    obtain ⟨d1, d2, d3⟩ := distinct_append hd
    have cb : Ctx P C prim X.cert body K0 b K := by
      intro rid st r hm hr
      have := hc rid st r (by simp [ids, hm]) hr
      simp only [atK] at this
      have hna : rid ∉ ids a := fun ha => d3 rid ha hm
      rw [atK_none hna] at this
      exact this
    have ca : Ctx P C prim X.cert body K0 a K := by
      intro rid st r hm hr
      have := hc rid st r (by simp [ids, hm]) hr
      simp only [atK] at this
      obtain ⟨r', hr'⟩ := atK_some (P := P) (C := C) (prim := prim) (cert := X.cert) (s := st) (K := K) hm
      rw [hr'] at this ⊢
      exact this
    obtain ⟨t, h', hb, hy⟩ := fork_yields hy
    have : evalT (denS X.G s).tmps c = .sc (.bool t) := by rw [← eval_den]; exact (boolOf_some hb).1
    rw [this, condK_bool]
    cases t with
    | true => rw [if_pos rfl] at hy ⊢; exact exec_ok ok hE hR d1 ca hk hy
    | false => rw [if_neg (by simp)] at hy ⊢; exact exec_ok ok hE hR d2 cb hk hy
  | .block id b, K, s, h, k, hd, hc, hk, hy => by
    rw [execK_block]
    refine exec_ok ok hE hR hd (fun rid st r hm hr => hc rid st r hm hr) (fun ex s' h' hy' => ?_) hy
    cases ex with
    | normal => rw [blockK_normal]; exact hk _ _ _ hy'
    | exit i => rw [blockK_exit]; exact hk _ _ _ hy'
    | ret => rw [blockK_ret]; exact hk _ _ _ hy'
  | .loop b, K, s, h, k, hd, hc, hk, hy => by
    rw [execK_next]
    refine exec_ok ok hE hR hd (fun rid st r hm hr => hc rid st r hm hr) (fun ex s' h' hy' => ?_) hy
    cases ex with
    | normal => exact hy'.elim
    | exit i => rw [nextK_exit]; exact hk _ _ _ hy'
    | ret => rw [nextK_ret]; exact hk _ _ _ hy'
  | .exit id, K, s, h, k, hd, hc, hk, hy => by rw [execK_exit]; exact hk _ _ _ hy
  | .ret, K, s, h, k, hd, hc, hk, hy => by rw [execK_ret]; exact hk _ _ _ hy
  | .rangeFunc _ _ _ _, K, s, h, k, hd, hc, hk, hy => hy.elim
  | .scope _, K, s, h, k, hd, hc, hk, hy => hy.elim
  | .label _, K, s, h, k, hd, hc, hk, hy => hy.elim
  | .goto _, K, s, h, k, hd, hc, hk, hy => hy.elim
  | .refuse _, K, s, h, k, hd, hc, hk, hy => hy.elim
theorem resume_none {rid : Nat} : ∀ {c : Code} {s : S X.G.El} {h : H} {k : PN.K X}, resume X rid c s h k = none → rid ∉ ids c
  | .region id ops draw, s, h, k, hn => by
    simp only [resume] at hn
    split at hn
    · cases hn
    · rename_i hne; simp only [ids, List.mem_singleton]; exact fun e => hne e.symm
  | .seq a b, s, h, k, hn => by
    simp only [resume] at hn
    split at hn
    · cases hn
    · rename_i ha
      simp only [ids, List.mem_append, not_or]
      exact ⟨resume_none ha, resume_none hn⟩
  | .cond c a b, s, h, k, hn => by
    simp only [resume] at hn
    split at hn
    · cases hn
    · rename_i ha
      simp only [ids, List.mem_append, not_or]
      exact ⟨resume_none ha, resume_none hn⟩
  | .block id b, s, h, k, hn => by simp only [resume] at hn; exact resume_none (c := b) hn
  | .loop b, s, h, k, hn => by simp only [resume] at hn; exact resume_none (c := b) hn
  | .skip, s, h, k, hn => by simp [ids]
  | .exit id, s, h, k, hn => by simp [ids]
  | .ret, s, h, k, hn => by simp [ids]
  | .rangeFunc _ _ _ _, s, h, k, hn => by simp [ids]
  | .scope _, s, h, k, hn => by simp [ids]
  | .label _, s, h, k, hn => by simp [ids]
  | .goto _, s, h, k, hn => by simp [ids]
  | .refuse _, s, h, k, hn => by simp [ids]
theorem resume_ok (ok : SgOk P X.G) (hE : EvOk P C prim X.G X.E) (hR : ∀ rid s, R (.at rid s) → atK P C prim X.cert rid body (denS X.G s) K0 = some OUT) {rid : Nat} :
    ∀ {c : Code} {K : RS → β} {s : S X.G.El} {h : H} {k : PN.K X} {t : Tree (Lf X.G.El)}, distinct (ids c) = true → Ctx P C prim X.cert body K0 c K → (∀ ex s' h', (k ex s' h').yields R → K (some (ex, denS X.G s')) = OUT) →
      resume X rid c s h k = some t → t.yields R → atK P C prim X.cert rid c (denS X.G s) K = some OUT
  | .region id ops draw, K, s, h, k, t, hd, hc, hk, ht, hy => by
    simp only [resume] at ht
    split at ht
    · rename_i hid
      obtain rfl := Option.some.inj ht
      obtain ⟨s', h', hr, hy⟩ := regionN_ok ok hE hy
      simp only [atK, if_pos hid]
      rw [regionK_eq hr]
      exact congrArg some (hk _ _ _ hy)
    · cases ht
  | .seq a b, K, s, h, k, t, hd, hc, hk, ht, hy => by
    obtain ⟨d1, d2, d3⟩ := distinct_append hd
    have cb : Ctx P C prim X.cert body K0 b K := by
      intro rid st r hm hr
      have := hc rid st r (by simp [ids, hm]) hr
      simp only [atK] at this
      have hna : rid ∉ ids a := fun ha => d3 rid ha hm
      rw [atK_none hna] at this
      exact this
    have ca : Ctx P C prim X.cert body K0 a (seqK P C prim X.cert b K) := by
      intro rid st r hm hr
      have := hc rid st r (by simp [ids, hm]) hr
      simp only [atK] at this
      obtain ⟨r', hr'⟩ := atK_some (P := P) (C := C) (prim := prim) (cert := X.cert) (s := st) (K := seqK P C prim X.cert b K) hm
      rw [hr'] at this ⊢
      exact this
    simp only [resume] at ht
    simp only [atK]
    split at ht
    · rename_i t' ha
      obtain rfl := Option.some.inj ht
      have := resume_ok ok hE hR (K := seqK P C prim X.cert b K) d1 ca (fun ex s' h' hy' => ?_) ha hy
      · rw [this]
      · cases ex with
        | normal => rw [seqK_normal]; exact exec_ok ok hE hR d2 cb hk hy'
        | exit i => rw [seqK_exit]; exact hk _ _ _ hy'
        | ret => rw [seqK_ret]; exact hk _ _ _ hy'
    · rename_i ha
      rw [atK_none (resume_none ha)]
      exact resume_ok ok hE hR d2 cb hk ht hy
  | .cond c a b, K, s, h, k, t, hd, hc, hk, ht, hy => by
    obtain ⟨d1, d2, d3⟩ := distinct_append hd
    have cb : Ctx P C prim X.cert body K0 b K := by
      intro rid st r hm hr
      have := hc rid st r (by simp [ids, hm]) hr
      simp only [atK] at this
      have hna : rid ∉ ids a := fun ha => d3 rid ha hm
      rw [atK_none hna] at this
      exact this
    have ca : Ctx P C prim X.cert body K0 a K := by
      intro rid st r hm hr
      have := hc rid st r (by simp [ids, hm]) hr
      simp only [atK] at this
      obtain ⟨r', hr'⟩ := atK_some (P := P) (C := C) (prim := prim) (cert := X.cert) (s := st) (K := K) hm
      rw [hr'] at this ⊢
      exact this
    simp only [resume] at ht
    simp only [atK]
    split at ht
    · rename_i t' ha
      obtain rfl := Option.some.inj ht
      rw [resume_ok ok hE hR d1 ca hk ha hy]
    · rename_i ha
      rw [atK_none (resume_none ha)]
      exact resume_ok ok hE hR d2 cb hk ht hy
  | .block id b, K, s, h, k, t, hd, hc, hk, ht, hy => by
    simp only [resume] at ht
    simp only [atK]
    refine resume_ok ok hE hR hd (fun rid st r hm hr => hc rid st r hm hr) (fun ex s' h' hy' => ?_) ht hy
    cases ex with
    | normal => rw [blockK_normal]; exact hk _ _ _ hy'
    | exit i => rw [blockK_exit]; exact hk _ _ _ hy'
    | ret => rw [blockK_ret]; exact hk _ _ _ hy'
  | .loop b, K, s, h, k, t, hd, hc, hk, ht, hy => by
    simp only [resume] at ht
    simp only [atK]
    have cb : Ctx P C prim X.cert body K0 b (nextK P C prim X.cert b K) := fun rid st r hm hr => hc rid st r hm hr
    refine resume_ok ok hE hR hd cb (fun ex s' h' hy' => ?_) ht hy
    cases ex with
    | normal =>
      rw [nextK_normal, execK_next]
      refine exec_ok ok hE hR hd cb (fun ex s'' h'' hy'' => ?_) hy'
      cases ex with
      | normal => exact hy''.elim
      | exit i => rw [nextK_exit]; exact hk _ _ _ hy''
      | ret => rw [nextK_ret]; exact hk _ _ _ hy''
    | exit i => rw [nextK_exit]; exact hk _ _ _ hy'
    | ret => rw [nextK_ret]; exact hk _ _ _ hy'
  | .skip, K, s, h, k, t, hd, hc, hk, ht, hy => by cases ht
  | .exit id, K, s, h, k, t, hd, hc, hk, ht, hy => by cases ht
  | .ret, K, s, h, k, t, hd, hc, hk, ht, hy => by cases ht
  | .rangeFunc _ _ _ _, K, s, h, k, t, hd, hc, hk, ht, hy => by cases ht
  | .scope _, K, s, h, k, t, hd, hc, hk, ht, hy => by cases ht
  | .label _, K, s, h, k, t, hd, hc, hk, ht, hy => by cases ht
  | .goto _, K, s, h, k, t, hd, hc, hk, ht, hy => by cases ht
  | .refuse _, K, s, h, k, t, hd, hc, hk, ht, hy => by cases ht
end
theorem lay_yields {Rr Lb L : Type} {f : Rr → L} {g : Lb → L} {D : Lb → Option Rr} {R : L → Prop} {r : Rr} (hf : R (f r)) (hg : ∀ x, D x = some r → R (g x)) : ∀ {t : PT Rr Lb}, t.run D = some r → (t.lay f g).yields R := by
  intro t
  induction t with
  | ret r' => intro h; obtain rfl := Option.some.inj h; exact hf
  | jump x => intro h; exact hg x h
  | fail => intro h; cases h
  | need c k ih =>
    intro h
    simp only [PT.run] at h
    split at h
    · rename_i hc; exact ⟨hc, ih hc h⟩
    · cases h
  | need' c' c hcc k ih =>
    intro h
    simp only [PT.run] at h
    split at h
    · rename_i hc; exact ⟨hcc.1 hc, ih _ h⟩
    · cases h
  | triv c hc k ih => intro h; exact ⟨hc, ih h⟩
  | ite c t e ih1 ih2 =>
    intro h
    simp only [PT.run] at h
    split at h
    · rename_i hc; exact .inl ⟨hc, ih1 hc h⟩
    · rename_i hc; exact .inr ⟨hc, ih2 hc h⟩
  | ite' c' c hcc t e ih1 ih2 =>
    intro h
    simp only [PT.run] at h
    split at h
    · rename_i hc; exact .inl ⟨hcc.1 hc, ih1 _ h⟩
    · rename_i hc; exact .inr ⟨fun hx => hc (hcc.2 hx), ih2 _ h⟩
  | call ρ x k ih =>
    intro h
    simp only [PT.run, Option.bind_eq_some_iff] at h
    obtain ⟨y, hy, h⟩ := h
    exact ⟨y, hy, ih y h⟩
  | callh ρ x k ih =>
    intro h
    simp only [PT.run] at h
    cases x with
    | none => cases h
    | some a => exact ⟨rfl, a, rfl, ih a rfl h⟩
  | recall ρ x r hx k ih => intro h; exact ⟨rfl, hx, ih h⟩
  | either β γ x l r ih1 ih2 =>
    intro h
    cases x with
    | inl a => exact ih1 a h
    | inr b => exact ih2 b h
def startS {G : Sg} (n : Nat) (args : List (V G.El)) (objs : List (O G.El)) : S G.El := ⟨n, undV, args.zipIdx.map fun p => (p.2, p.1), objs.zipIdx.map fun p => (p.2, p.1), objs.length, objs.length⟩
theorem findK_zip {γ : Type} : ∀ (l : List γ) (j i : Nat), findK ((l.zipIdx j).map fun p => (p.2, p.1)) (j + i) = l[i]?
  | [], j, i => by simp [findK]
  | a :: r, j, 0 => by simp [List.zipIdx_cons, findK]
  | a :: r, j, i + 1 => by
    rw [List.zipIdx_cons, List.map_cons]
    simp only [findK]
    rw [if_neg (by omega)]
    have := findK_zip r (j + 1) i
    rw [show j + 1 + i = j + (i + 1) by omega] at this
    rw [this]; rfl
theorem startS_den {G : Sg} {n : Nat} {args : List (V G.El)} {objs : List (O G.El)} (hn : args.length ≤ n) : denS G (startS n args objs) =
    ⟨args.map (denV G) ++ List.replicate (n - (args.map (denV G)).length) undT, (objs.map (denO G)).zipIdx.map fun p => (p.2, p.1), (objs.map (denO G)).length, (objs.map (denO G)).length⟩ := by
  simp only [denS, startS, St.mk.injEq, List.length_map, and_self, and_true]
  constructor
  · apply List.ext_getElem?
    intro i
    rw [List.getElem?_map]
    have hz := findK_zip args 0 i
    rw [Nat.zero_add] at hz
    by_cases hi : i < n
    · rw [List.getElem?_range hi]
      simp only [Option.map_some, lookV, hz]
      by_cases ha : i < args.length
      · rw [List.getElem?_append_left (by simpa using ha), List.getElem?_map, List.getElem?_eq_getElem ha]; rfl
      · rw [List.getElem?_append_right (by simp; omega), List.getElem?_eq_none (by omega : args.length ≤ i), List.getElem?_replicate]
        simp only [List.length_map]
        rw [if_pos (by omega)]; rfl
    · have e1 : (List.range n)[i]? = none := by rw [List.getElem?_eq_none_iff, List.length_range]; omega
      rw [e1]
      symm
      rw [Option.map_none, List.getElem?_eq_none_iff]
      simp; omega
  · simp [denWr, List.zipIdx_map, Function.comp_def]
def outL {G : Sg} {Rr : Type} (o : Rr → V G.El × List (O G.El)) (r : Rr) : Lf G.El := .ret (o r).1 (o r).2
def jumpL {G : Sg} {Lb : Type} (st : Lb → Nat × S G.El) (x : Lb) : Lf G.El := .at (st x).1 (st x).2
theorem labels_ok {G : Sg} {f : FuncId} {fn : Func} {c : Code} {m : Nat} {Rr Lb : Type} {E : Nat → Ev G.El} {kt : Nat → Nat → Nat} {D : Nat → Lb → Option Rr} {blk : Nat → Lb → PT Rr Lb} {stt : Lb → Nat × S G.El} {hint : Lb → H} {o : Rr → V G.El × List (O G.El)}
    (ok : SgOk P G) (hE : ∀ k, EvOk P C prim G (E k)) (hids : distinct (ids c) = true) (D0 : ∀ x, D 0 x = none) (DS : ∀ k x, D (k + 1) x = (blk k x).run (D k))
    (hT : ∀ k x, resume ⟨G, E k, C f, kt⟩ (stt x).1 c (stt x).2 (hint x) (endK ⟨G, E k, C f, kt⟩ fn m) = some ((blk k x).lay (outL o) (jumpL stt))) (r : Rr) :
    ∀ k x, D k x = some r → atK P C prim (C f) (stt x).1 c (denS G (stt x).2) (giveK P fn (C f).own m) = some (some (denV G (o r).1, (o r).2.map (denO G))) := by
  intro k
  induction k with
  | zero => intro x h; rw [D0] at h; cases h
  | succ k ih =>
    intro x h
    rw [DS] at h
    let R : Lf G.El → Prop := fun lf => match lf with
      | .ret v os => some (denV G v, os.map (denO G)) = some (denV G (o r).1, (o r).2.map (denO G))
      | .at rid s => atK P C prim (C f) rid c (denS G s) (giveK P fn (C f).own m) = some (some (denV G (o r).1, (o r).2.map (denO G)))
    have hy : ((blk k x).lay (outL o) (jumpL stt)).yields R := lay_yields (R := R) rfl (fun y hy => ih y hy) h
    refine resume_ok (X := ⟨G, E k, C f, kt⟩) (body := c) (K0 := giveK P fn (C f).own m) (R := R) ok (hE k) (fun rid s hr => hr) hids (fun rid s r hm hr => hr) (fun ex s' h' hy' => ?_) (hT k x) hy
    have key : ∀ (hy : (runQ (lookO s'.st) (giveQ G fn (C f).own m s') h' fun p _ _ => .leaf (.ret p.1 p.2)).yields R), giveR P fn (C f).own m (denS G s') = some (denV G (o r).1, (o r).2.map (denO G)) := by
      intro hy
      obtain ⟨p, l, h'', hg, hy⟩ := runQ_yields hy
      rw [giveQ_ok ok hg]; exact hy
    cases ex with
    | normal => rw [giveK_normal]; exact key hy'
    | exit i => exact hy'.elim
    | ret => rw [giveK_ret]; exact key hy'
theorem fn_ok {G : Sg} {f : FuncId} {fn : Func} {c : Code} {Rr Lb : Type} {E : Nat → Ev G.El} {kt : Nat → Nat → Nat} {D : Nat → Lb → Option Rr} {blk : Nat → Lb → PT Rr Lb} {start : PT Rr Lb} {stt : Lb → Nat × S G.El} {hint : Lb → H} {h0 : H} {o : Rr → V G.El × List (O G.El)} {args : List (V G.El)} {objs : List (O G.El)} {s0 : S G.El} {k : Nat} {r : Rr}
    (ok : SgOk P G) (hE : ∀ k, EvOk P C prim G (E k)) (hp : prim f = none) (hf : P.funcs[f]? = some fn) (hb : fn.body = some c) (ho : okCode (C f) c = true) (hids : distinct (ids c) = true)
    (hs : s0 = startS fn.ntmps args objs) (hn : args.length ≤ fn.ntmps) (D0 : ∀ x, D 0 x = none) (DS : ∀ k x, D (k + 1) x = (blk k x).run (D k))
    (hT : ∀ k x, resume ⟨G, E k, C f, kt⟩ (stt x).1 c (stt x).2 (hint x) (endK ⟨G, E k, C f, kt⟩ fn objs.length) = some ((blk k x).lay (outL o) (jumpL stt)))
    (h0T : PN.exec ⟨G, E k, C f, kt⟩ c s0 h0 (endK ⟨G, E k, C f, kt⟩ fn objs.length) = start.lay (outL o) (jumpL stt)) (h : start.run (D k) = some r) :
    callT P C prim f (args.map (denV G)) (objs.map (denO G)) = some (denV G (o r).1, (o r).2.map (denO G)) := by
  have hL := labels_ok (P := P) (C := C) (prim := prim) ok hE hids D0 DS hT r
  rw [callK_eq hp hf hb ho, ← startS_den hn, ← hs, List.length_map]
  let R : Lf G.El → Prop := fun lf => match lf with
    | .ret v os => some (denV G v, os.map (denO G)) = some (denV G (o r).1, (o r).2.map (denO G))
    | .at rid s => atK P C prim (C f) rid c (denS G s) (giveK P fn (C f).own objs.length) = some (some (denV G (o r).1, (o r).2.map (denO G)))
  have hy : (start.lay (outL o) (jumpL stt)).yields R := lay_yields (R := R) rfl (fun y hy => hL k y hy) h
  rw [← h0T] at hy
  refine exec_ok (X := ⟨G, E k, C f, kt⟩) (body := c) (K0 := giveK P fn (C f).own objs.length) (R := R) ok (hE k) (fun rid s hr => hr) hids (fun rid s r hm hr => hr) (fun ex s' h' hy' => ?_) hy
  have key : ∀ (hy : (runQ (lookO s'.st) (giveQ G fn (C f).own objs.length s') h' fun p _ _ => .leaf (.ret p.1 p.2)).yields R), giveR P fn (C f).own objs.length (denS G s') = some (denV G (o r).1, (o r).2.map (denO G)) := by
    intro hy
    obtain ⟨p, l, h'', hg, hy⟩ := runQ_yields hy
    rw [giveQ_ok ok hg]; exact hy
  cases ex with
  | normal => rw [giveK_normal]; exact key hy'
  | exit i => exact hy'.elim
  | ret => rw [giveK_ret]; exact key hy'
end Go.Proofs.Ytfjoamlgbegpgaa.PN
namespace Go.Proofs.Ytfjoamlgbegpgaa.PN
open Go Go.Proofs.Ytfjoamlgbegpgaa.PM
variable {P : Program} {C : Cert} {prim : FuncId → Option (List T → List Ob → Option (T × List Ob))} {G : Sg} {β : Type} {lk : Nat → O G.El} {r : β} {l : List Nat}
theorem argI_runs {k : IntKind} {v : V G.El} {f : Int → Q G.El β} (h : (argI k v f).runs lk r l) : ∃ a, denV G v = .sc (.int k a) ∧ (f a).runs lk r l := by
  cases v with
  | il k' n =>
    simp only [argI] at h
    by_cases hk : k' = k
    · subst hk; rw [decide_eq_true rfl] at h; exact ⟨n, rfl, h⟩
    · rw [decide_eq_false hk] at h; exact h.elim
  | id k' m n =>
    simp only [argI] at h
    by_cases hk : k' = k
    · subst hk; rw [decide_eq_true rfl] at h; exact ⟨n, rfl, h⟩
    · rw [decide_eq_false hk] at h; exact h.elim
  | _ => exact h.elim
theorem argB_runs {v : V G.El} {f : Bool → Q G.El β} (h : (argB v f).runs lk r l) : ∃ a, denV G v = .sc (.bool a) ∧ (f a).runs lk r l := by
  cases v with
  | bl b => exact ⟨b, rfl, h⟩
  | bp n c d => cases n <;> exact ⟨_, rfl, h⟩
  | bb n x => cases n <;> exact ⟨_, rfl, h⟩
  | _ => exact h.elim
theorem argS_runs {v : V G.El} {f : ByteArray → Q G.El β} (h : (argS v f).runs lk r l) : ∃ a, denV G v = .sc (.string a) ∧ (f a).runs lk r l := by
  cases v with
  | s x => exact ⟨x, rfl, h⟩
  | _ => exact h.elim
theorem argL_runs {e : Nat} {v : V G.El} {f : List (G.El e) → Q G.El β} (h : (argL e v f).runs lk r l) : ∃ xs, denV G v = .sl (List.map (G.enc e) xs) [] ∧ (f xs).runs lk r l := by
  cases v with
  | sl t xs src =>
    cases src with
    | nil =>
      simp only [argL] at h
      split at h
      · rename_i he; subst he; exact ⟨xs, rfl, h⟩
      · exact h.elim
    | cons a q => exact h.elim
  | s0 src =>
    cases src with
    | nil => exact ⟨[], rfl, h⟩
    | cons a q => exact h.elim
  | _ => exact h.elim
theorem argA_runs {v : V G.El} {f : List (V G.El) → Q G.El β} (h : (argA v f).runs lk r l) : ∃ cs, denV G v = .agg (cs.map (den1 G)) ∧ (f cs).runs lk r l := by
  cases v with
  | agg cs => exact ⟨cs, rfl, h⟩
  | _ => exact h.elim
theorem denV_cell1 (v : V G.El) : denV G (cell1 v) = den1 G v := by
  cases v with
  | bp n c d => cases n <;> rfl
  | bb n x => cases n <;> rfl
  | _ => rfl
theorem argH_runs {cs : List (V G.El)} {f : V G.El → List (V G.El) → Q G.El β} (h : (argH cs f).runs lk r l) : ∃ y q, cs.map (den1 G) = denV G y :: q.map (den1 G) ∧ (f y q).runs lk r l := by
  cases cs with
  | nil => exact h.elim
  | cons y q => exact ⟨cell1 y, q, by rw [denV_cell1]; rfl, h⟩
theorem argT_runs {cs : List (V G.El)} {f : Q G.El β} (h : (argT cs f).runs lk r l) : cs.map (den1 G) = [] ∧ f.runs lk r l := by
  cases cs with
  | nil => exact ⟨rfl, h⟩
  | cons y q => exact h.elim
theorem lH_runs {γ : Type} {cs : List γ} {f : γ → List γ → Q G.El β} (h : (lH cs f).runs lk r l) : ∃ y q, cs = y :: q ∧ (f y q).runs lk r l := by
  cases cs with
  | nil => exact h.elim
  | cons y q => exact ⟨y, q, rfl, h⟩
theorem lT_runs {γ : Type} {cs : List γ} {f : Q G.El β} (h : (lT cs f).runs lk r l) : cs = [] ∧ f.runs lk r l := by
  cases cs with
  | nil => exact ⟨rfl, h⟩
  | cons y q => exact h.elim
theorem argPH_runs {cs : List (V G.El)} {f : V G.El → List (V G.El) → Q G.El β} (h : (argPH cs f).runs lk r l) : ∃ y q, cs.map denP = denV G y :: q.map denP ∧ (f y q).runs lk r l := by
  cases cs with
  | nil => exact h.elim
  | cons y q =>
    simp only [argPH] at h
    cases y with
    | ptr o i j => exact ⟨_, q, rfl, h⟩
    | _ => exact h.elim
theorem argPT_runs {cs : List (V G.El)} {f : Q G.El β} (h : (argT cs f).runs lk r l) : cs.map denP = [] ∧ f.runs lk r l := by
  cases cs with
  | nil => exact ⟨rfl, h⟩
  | cons y q => exact h.elim
theorem argR_runs {e : Nat} {x : O G.El} {f : List (G.El e) → Q G.El β} (h : (argR e x f).runs lk r l) : ∃ xs, denO G x = Ob.mkRow (G.w e) (List.map (G.enc e) xs) ∧ (f xs).runs lk r l := by
  cases x with
  | row a m k v t xs last =>
    cases a <;> cases m <;> first | exact h.elim | skip
    cases v with
    | succ n => exact h.elim
    | zero =>
      simp only [argR] at h
      split at h
      · rename_i he; subst he; exact ⟨_, rfl, h⟩
      · exact h.elim
  | _ => exact h.elim
theorem argW_runs {o n : Nat} {v : V G.El} {f : Q G.El β} (h : (argW o n v f).runs lk r l) : denV G v = .win o 0 n ∧ f.runs lk r l := by
  cases v with
  | win o' full off len =>
    simp only [argW] at h
    cases hb : o' == o && off.is0 with
    | false => rw [hb] at h; exact h.elim
    | true =>
      rw [hb] at h
      simp only [runs_bind, runs_nd] at h
      obtain ⟨_, _, _, ⟨hl, rfl⟩, h, rfl⟩ := h
      simp only [Bool.and_eq_true, beq_iff_eq] at hb
      refine ⟨?_, h⟩
      show T.win o' off.v len.v = _
      rw [hb.1, is0_v hb.2, hl]
  | _ => exact h.elim
theorem argP_runs {o : Nat} {v : V G.El} {f : Nat → Nat → Q G.El β} (h : (argP o v f).runs lk r l) : ∃ a b, denV G v = .win o a b ∧ (f a b).runs lk r l := by
  cases v with
  | win o' full off len =>
    simp only [argP] at h
    cases hb : o' == o with
    | false => rw [hb] at h; exact h.elim
    | true =>
      rw [hb] at h
      have : o' = o := by simpa using hb
      exact ⟨off.v, len.v, by rw [← this]; rfl, h⟩
  | _ => exact h.elim
theorem argQ_runs {o : Nat} {v : V G.El} {f : Nat → Q G.El β} (h : (argQ o v f).runs lk r l) : ∃ b, denV G v = .win o 0 b ∧ (f b).runs lk r l := by
  cases v with
  | win o' full off len =>
    simp only [argQ] at h
    cases hb : o' == o && off.is0 with
    | false => rw [hb] at h; exact h.elim
    | true =>
      rw [hb] at h
      simp only [Bool.and_eq_true, beq_iff_eq] at hb
      exact ⟨len.v, by rw [← hb.1]; show T.win o' off.v len.v = _; rw [is0_v hb.2], h⟩
  | _ => exact h.elim
theorem argNil_runs {v : V G.El} {f : Q G.El β} (h : (argNil v f).runs lk r l) : denV G v = .nil ∧ f.runs lk r l := by
  cases v with
  | nil => exact ⟨rfl, h⟩
  | _ => exact h.elim
theorem argDead_runs {v : V G.El} {f : Q G.El β} (h : (argDead v f).runs lk r l) : denV G v = .dead ∧ f.runs lk r l := by
  cases v with
  | dead => exact ⟨rfl, h⟩
  | _ => exact h.elim
theorem argV_runs {o j : Nat} {v : V G.El} {f : Q G.El β} (h : (argV o j v f).runs lk r l) : denV G v = .ptr o 0 j ∧ f.runs lk r l := by
  cases v with
  | ptr o' i j' =>
    simp only [argV] at h
    cases hb : o' == o && i.is0 && j' == j with
    | false => rw [hb] at h; exact h.elim
    | true =>
      rw [hb] at h
      simp only [Bool.and_eq_true, beq_iff_eq] at hb
      refine ⟨?_, h⟩
      show T.ptr o' i.v j' = _
      rw [hb.1.1, is0_v hb.1.2, hb.2]
  | _ => exact h.elim
theorem argE_runs {o j : Nat} {v : V G.El} {f : Nat → Q G.El β} (h : (argE o j v f).runs lk r l) : ∃ i, denV G v = .ptr o i j ∧ (f i).runs lk r l := by
  cases v with
  | ptr o' i j' =>
    simp only [argE] at h
    cases hb : o' == o && j' == j with
    | false => rw [hb] at h; exact h.elim
    | true =>
      rw [hb] at h
      simp only [Bool.and_eq_true, beq_iff_eq] at hb
      exact ⟨i.v, by rw [← hb.1, ← hb.2]; rfl, h⟩
  | _ => exact h.elim
theorem argF_runs {g : FuncId} {v : V G.El} {f : List (V G.El) → Q G.El β} (h : (argF g v f).runs lk r l) : ∃ cs : List (V G.El), denV G v = .fn g (cs.map denP) ∧ (f cs).runs lk r l := by
  cases v with
  | fn g' caps =>
    simp only [argF] at h
    cases hb : g' == g with
    | false => rw [hb] at h; exact h.elim
    | true =>
      rw [hb] at h
      have : g' = g := by simpa using hb
      exact ⟨caps, by rw [← this]; rfl, h⟩
  | _ => exact h.elim
theorem argX_runs {k : Nat} {agg : Bool} {x : O G.El} {f : List (V G.El) → Q G.El β} (h : (argX k agg x f).runs lk r l) : ∃ cs, denO G x = Ob.mkBox k (wrapT agg (cs.map (den1 G))) ∧ (f cs).runs lk r l := by
  cases x with
  | box a m v k' g cs =>
    cases a <;> cases m <;> first | exact h.elim | skip
    cases v with
    | succ n => exact h.elim
    | zero =>
      simp only [argX] at h
      cases hb : k' == k && (g == agg) && oneOr g cs with
      | false => rw [hb] at h; exact h.elim
      | true =>
        rw [hb] at h
        simp only [Bool.and_eq_true, beq_iff_eq] at hb
        obtain ⟨⟨rfl, rfl⟩, _⟩ := hb
        exact ⟨cs, rfl, h⟩
  | _ => exact h.elim
theorem either_l {γ δ : Type} {a : γ} {f : γ → Q G.El β} {g : δ → Q G.El β} (h : (Q.either γ δ (.inl a) f g).runs lk r l) : (f a).runs lk r l := h
theorem either_r {γ δ : Type} {a : δ} {f : γ → Q G.El β} {g : δ → Q G.El β} (h : (Q.either γ δ (.inr a) f g).runs lk r l) : (g a).runs lk r l := h
theorem call_runs {ρ : Type} {x : Option ρ} {f : ρ → Q G.El β} (h : (Q.call ρ x f).runs lk r l) : ∃ y, x = some y ∧ (f y).runs lk r l := h
def SumOk (P : Program) (C : Cert) (prim : FuncId → Option (List T → List Ob → Option (T × List Ob))) (G : Sg) (f : FuncId) (s : List (V G.El) → List (O G.El) → Q G.El (V G.El × List (O G.El))) : Prop :=
  ∀ (args : List (V G.El)) (objs : List (O G.El)) (lk : Nat → O G.El) (r : V G.El × List (O G.El)) (l : List Nat), (s args objs).runs lk r l →
    l = [] ∧ callT P C prim f (args.map (denV G)) (objs.map (denO G)) = some (denV G r.1, r.2.map (denO G))
def SumsOk (P : Program) (C : Cert) (prim : FuncId → Option (List T → List Ob → Option (T × List Ob))) (G : Sg) (l : List (Nat × (List (V G.El) → List (O G.El) → Q G.El (V G.El × List (O G.El))))) : Prop := ∀ f s, findU l f = some s → SumOk P C prim G f s
theorem sums_nil : SumsOk P C prim G [] := fun f s h => by cases h
theorem sums_cons {f : Nat} {s : List (V G.El) → List (O G.El) → Q G.El (V G.El × List (O G.El))} {l : List (Nat × (List (V G.El) → List (O G.El) → Q G.El (V G.El × List (O G.El))))} (h1 : SumOk P C prim G f s) (h2 : SumsOk P C prim G l) : SumsOk P C prim G ((f, s) :: l) := by
  intro g t h
  simp only [findU] at h
  split at h
  · rename_i he; subst he; obtain rfl := Option.some.inj h; exact h1
  · exact h2 g t h
theorem sum_or {f : Nat} {s t : List (V G.El) → List (O G.El) → Q G.El (V G.El × List (O G.El))} (h1 : SumOk P C prim G f s) : SumOk P C prim G f s := h1
theorem env_ok {l : List (Nat × (List (V G.El) → List (O G.El) → Q G.El (V G.El × List (O G.El))))} (h : SumsOk P C prim G l) : EvOk P C prim G (envOf C l) := by
  refine ⟨fun f => rfl, fun f args objs lk r q hr => ?_⟩
  simp only [envOf] at hr
  cases hf : findU l f with
  | none => rw [hf] at hr; exact hr.elim
  | some s => rw [hf] at hr; exact h f s hf args objs lk r q hr
theorem fn_ok0 {f : FuncId} {fn : Func} {c : Code} {Rr : Type} {E : Nat → Ev G.El} {kt : Nat → Nat → Nat} {start : PT Rr Empty} {h0 : H} {o : Rr → V G.El × List (O G.El)} {args : List (V G.El)} {objs : List (O G.El)} {s0 : S G.El} {k : Nat} {r : Rr}
    (ok : SgOk P G) (hE : ∀ k, EvOk P C prim G (E k)) (hp : prim f = none) (hf : P.funcs[f]? = some fn) (hb : fn.body = some c) (ho : okCode (C f) c = true) (hids : distinct (ids c) = true)
    (hs : s0 = startS fn.ntmps args objs) (hn : args.length ≤ fn.ntmps)
    (h0T : PN.exec ⟨G, E k, C f, kt⟩ c s0 h0 (endK ⟨G, E k, C f, kt⟩ fn objs.length) = start.lay (outL o) (jumpL (Empty.elim : Empty → Nat × S G.El))) (h : start.run (Empty.elim) = some r) :
    callT P C prim f (args.map (denV G)) (objs.map (denO G)) = some (denV G (o r).1, (o r).2.map (denO G)) :=
  fn_ok (D := fun _ => Empty.elim) (blk := fun _ => Empty.elim) (stt := Empty.elim) (hint := Empty.elim) ok hE hp hf hb ho hids hs hn (fun x => x.elim) (fun _ x => x.elim) (fun _ x => x.elim) h0T h
theorem cI_some {k : IntKind} {v : V G.El} {f : Int → Option β} (h : cI k v f = some r) : ∃ a, den1 G v = .sc (.int k a) ∧ f a = some r := by
  cases v with
  | il k' n =>
    simp only [cI] at h
    by_cases hk : k' = k
    · subst hk; rw [decide_eq_true rfl] at h; exact ⟨n, rfl, h⟩
    · rw [decide_eq_false hk] at h; cases h
  | id k' m n =>
    simp only [cI] at h
    by_cases hk : k' = k
    · subst hk; rw [decide_eq_true rfl] at h; exact ⟨n, rfl, h⟩
    · rw [decide_eq_false hk] at h; cases h
  | _ => cases h
theorem cB_some {v : V G.El} {f : Bool → Option β} (h : cB v f = some r) : ∃ a, den1 G v = .sc (.bool a) ∧ f a = some r := by
  cases v with
  | bl b => exact ⟨b, rfl, h⟩
  | bp n c d => cases n <;> exact ⟨_, rfl, h⟩
  | bb n x => cases n <;> exact ⟨_, rfl, h⟩
  | _ => cases h
theorem cS_some {v : V G.El} {f : ByteArray → Option β} (h : cS v f = some r) : ∃ a, den1 G v = .sc (.string a) ∧ f a = some r := by
  cases v with
  | s x => exact ⟨x, rfl, h⟩
  | _ => cases h
theorem cL_some {e : Nat} {v : V G.El} {f : List (G.El e) → Option β} (h : cL e v f = some r) : ∃ xs, den1 G v = .sl (List.map (G.enc e) xs) [] ∧ f xs = some r := by
  cases v with
  | sl t xs src =>
    cases src with
    | nil =>
      simp only [cL] at h
      split at h
      · rename_i he; subst he; exact ⟨xs, rfl, h⟩
      · cases h
    | cons a q => cases h
  | s0 src =>
    cases src with
    | nil => exact ⟨[], rfl, h⟩
    | cons a q => cases h
  | _ => cases h
def TisOk (P : Program) (G : Sg) (l : List (Nat × TI G.El)) : Prop := ∀ t i, findK l t = some i → TiOk P G t i
theorem tis_nil : TisOk P G [] := fun t i h => by cases h
theorem tis_cons {t : Nat} {i : TI G.El} {l : List (Nat × TI G.El)} (h1 : TiOk P G t i) (h2 : TisOk P G l) : TisOk P G ((t, i) :: l) := by
  intro g j h
  simp only [findK] at h
  split at h
  · rename_i he; subst he; obtain rfl := Option.some.inj h; exact h1
  · exact h2 g j h
theorem some_all {α : Type} {a b : α} {p : α → Prop} (h : p a) (e : some a = some b) : p b := by obtain rfl := Option.some.inj e; exact h
theorem none_all {α : Type} {b : α} {p : Prop} (e : none = some b) : p := by cases e
theorem ofStr_u8 (s : ByteArray) : (bytesL s).map (fun x => T.sc (.int .u8 x)) = s.data.toList.map fun b => T.sc (.int .u8 (b.toNat : Int)) := by unfold bytesL; rw [List.map_map]; rfl
theorem toStr_u8 (xs : List Int) : bytesOf (xs.map (fun x => T.sc (.int .u8 x))) = some (strOf xs).data.toList := by
  have := bytesOf_map xs
  unfold strOf
  exact this
end Go.Proofs.Ytfjoamlgbegpgaa.PN
namespace Go.Proofs.Ytfjoamlgbegpgaa.P
open Go Go.Proofs.Ytfjoamlgbegpgaa.PM Go.Proofs.Ytfjoamlgbegpgaa.PN Go.Proofs
set_option maxRecDepth 100000
set_option linter.unusedVariables false
def El : Nat → Type
  | 0 => Int
  | 1 => S80
  | 2 => S73
  | 3 => ByteArray
  | 4 => Int
  | _ + 5 => Unit
def tis : List (Nat × TI El) := [
  (2, ⟨1, false, 8, .int .i64, some (.il .i64 0), some [none], none⟩),
  (3, ⟨1, false, 8, .int .i64, some (.il .i64 0), some [none], none⟩),
  (4, ⟨1, false, 1, .bool, some (.bl false), some [none], none⟩),
  (5, ⟨1, false, 1, .int .u8, some (.il .u8 0), some [none], none⟩),
  (9, ⟨1, false, 16, .string, some (.s (⟨#[]⟩ : ByteArray)), some [none], none⟩),
  (28, ⟨1, false, 24, .slice 80 1, some (.nil), some [some 1], none⟩),
  (29, ⟨1, false, 24, .slice 73 2, some (.nil), some [some 2], none⟩),
  (31, ⟨3, true, 72, .struct [(0, 28), (1, 28), (2, 29)], some (.agg [.nil, .nil, .nil]), some [some 1, some 1, some 2], none⟩),
  (38, ⟨1, false, 24, .slice 5 0, some (.nil), some [some 0], none⟩),
  (40, ⟨1, false, 24, .slice 2 4, some (.nil), some [some 4], none⟩),
  (51, ⟨1, false, 8, .int .u64, some (.il .u64 0), some [none], none⟩),
  (73, ⟨4, true, 56, .struct [(0, 2), (1, 9), (2, 9), (3, 9)], some (.agg [.il .i64 0, .s (⟨#[]⟩ : ByteArray), .s (⟨#[]⟩ : ByteArray), .s (⟨#[]⟩ : ByteArray)]), some [none, none, none, none], none⟩),
  (80, ⟨2, true, 32, .struct [(0, 9), (1, 9)], some (.agg [.s (⟨#[]⟩ : ByteArray), .s (⟨#[]⟩ : ByteArray)]), some [none, none], some [(0, 9), (1, 9)]⟩),
  (81, ⟨1, false, 8, .other, none, some [none], none⟩),
  (89, ⟨1, false, 24, .slice 9 3, some (.nil), some [some 3], none⟩),
  (120, ⟨2, true, 32, .struct [(0, 38), (1, 3)], some (.agg [.nil, .il .i64 0]), some [some 0, none], none⟩)]
def G : Sg where
  El := El
  w := fun t => match t with | 0 => (1) | 1 => (2) | 2 => (4) | 3 => (1) | 4 => (1) | _ + 5 => 0
  aggE := fun t => match t with | 0 => (false) | 1 => (true) | 2 => (true) | 3 => (false) | 4 => (false) | _ + 5 => true
  flat := fun t => match t with | 0 => (true) | 1 => (true) | 2 => (true) | 3 => (true) | 4 => (true) | _ + 5 => true
  inh := fun t => match t with | 0 => ((default : Int)) | 1 => ((default : S80)) | 2 => ((default : S73)) | 3 => ((default : ByteArray)) | 4 => ((default : Int)) | _ + 5 => ()
  cells := fun t => match t with | 0 => (fun (x : Int) => [.id .u8 0 x]) | 1 => (fun (x : S80) => [.s x.f0, .s x.f1]) | 2 => (fun (x : S73) => [.id .i64 0 x.f0, .s x.f1, .s x.f2, .s x.f3]) | 3 => (fun (x : ByteArray) => [.s x]) | 4 => (fun (x : Int) => [.id .i64 0 x]) | _ + 5 => fun _ => []
  mkE := fun t => match t with | 0 => (fun cs => match cs with | [c0] => cI .u8 c0 fun a0 => some (a0 : Int) | _ => none) | 1 => (fun cs => match cs with | [c0, c1] => cS c0 fun a0 => cS c1 fun a1 => some (⟨a0, a1⟩ : S80) | _ => none) | 2 => (fun cs => match cs with | [c0, c1, c2, c3] => cI .i64 c0 fun a0 => cS c1 fun a1 => cS c2 fun a2 => cS c3 fun a3 => some (⟨a0, a1, a2, a3⟩ : S73) | _ => none) | 3 => (fun cs => match cs with | [c0] => cS c0 fun a0 => some (a0 : ByteArray) | _ => none) | 4 => (fun cs => match cs with | [c0] => cI .i64 c0 fun a0 => some (a0 : Int) | _ => none) | _ + 5 => fun _ => none
  ofStr := fun t => match t with | 0 => (fun s => some (bytesL s)) | 1 => (fun _ => none) | 2 => (fun _ => none) | 3 => (fun _ => none) | 4 => (fun _ => none) | _ + 5 => fun _ => none
  toStr := fun t => match t with | 0 => (fun xs => some (strOf xs)) | 1 => (fun _ => none) | 2 => (fun _ => none) | 3 => (fun _ => none) | 4 => (fun _ => none) | _ + 5 => fun _ => none
  ti := findK tis
  enc := fun t => match t with | 0 => (fun (x : Int) => T.sc (.int .u8 x)) | 1 => (e80) | 2 => (e73) | 3 => (fun (x : ByteArray) => T.sc (.string x)) | 4 => (fun (x : Int) => T.sc (.int .i64 x)) | _ + 5 => fun _ => T.agg []
def cc6 : FCert := ⟨[], true, [(22, [(0, 0), (4, 0), (5, 0), (13, 0), (14, 0), (15, 0), (19, 0)]), (26, [(0, 0), (4, 0), (5, 0), (13, 0), (14, 0), (15, 0), (19, 0), (20, 0), (21, 0)])], []⟩
def cc13 : FCert := ⟨[], true, [(5, [(1, 0), (3, 1), (4, 0)])], []⟩
def cc17 : FCert := ⟨[], true, [], []⟩
def cc18 : FCert := ⟨[], true, [], []⟩
def cc19 : FCert := ⟨[], true, [], []⟩
def cc22 : FCert := ⟨[], true, [(5, [(1, 0), (2, 0), (3, 0), (6, 0), (8, 0), (25, 0), (26, 0), (27, 0)])], []⟩
def cc24 : FCert := ⟨[], true, [], [(3, [[], [], [1], [], [], [1, 2, 4], [], [1, 2, 4, 5]])]⟩
def cc25 : FCert := ⟨[], false, [], [(6, [[], [], [], [], [0, 3], [], []])]⟩
def cc26 : FCert := ⟨[], true, [], []⟩
def cc27 : FCert := ⟨[], true, [], []⟩
def cc28 : FCert := ⟨[], true, [], [(3, [[], [], [], [0, 2], [], [], [], [0, 2, 3, 4, 6], [], [0, 2, 3, 4, 6, 7]])]⟩
def cc43 : FCert := ⟨[], true, [(5, [(0, 0), (3, 0), (4, 0)])], [(7, [[], [], [], [], [2], [2, 4], [], [], [], [], [], [], [], [2, 4, 5], [], [2, 4, 5, 13], [], [], [], [2, 4, 5], [], [2, 4, 5, 19], [], [], []])]⟩
def cc44 : FCert := ⟨[], true, [], [(11, [[], [], [], [], [], [], [], [5], [2, 5, 7], []])]⟩
def cc45 : FCert := ⟨[], true, [], []⟩
def cc46 : FCert := ⟨[], true, [(4, [(0, 0), (1, 0), (5, 0)])], [(6, [[], [], [], [2], [], [], [], [6], []])]⟩
def cc49 : FCert := ⟨[], true, [(5, [(1, 0), (3, 1), (27, 0), (28, 0), (29, 0)])], []⟩
def cc52 : FCert := ⟨[], true, [(2, [(0, 0), (1, 0), (5, 0)])], []⟩
def cc53 : FCert := ⟨[], true, [], []⟩
def cc54 : FCert := ⟨[], true, [], []⟩
def cc55 : FCert := ⟨[], false, [(3, [(0, 0), (2, 0), (3, 0), (4, 0)])], [(7, [[], [], [], [0, 2], [], [], [], [], [0, 2, 3, 7], []])]⟩
def cc56 : FCert := ⟨[], true, [], []⟩
def cc58 : FCert := ⟨[], true, [], []⟩
def cc59 : FCert := ⟨[], true, [], []⟩
def cc60 : FCert := ⟨[], true, [], []⟩
def cc61 : FCert := ⟨[], true, [], [(13, [[], [], [], [], [], [], [], [5], [], [2, 5, 7], [], []])]⟩
def cc62 : FCert := ⟨[], true, [(3, [(0, 0), (3, 0), (6, 0), (7, 0), (8, 0)])], [(6, [[], [], [1], [], [], [], [], [], [], [], [], [], [], [], [], [1, 2], [], [1, 2, 15], [], [1, 2], [], [], []])]⟩
def cc63 : FCert := ⟨[], true, [], []⟩
def cc64 : FCert := ⟨[], true, [], []⟩
def cc65 : FCert := ⟨[], true, [], []⟩
def cc66 : FCert := ⟨[], true, [], [(1, [[], [], [], [0, 2], [], [], [], [0, 2, 3, 4, 6], [], [], [], [0, 2, 3, 4, 6, 7, 8, 10], [], [0, 2, 3, 4, 6, 7, 8, 10, 11]])]⟩
def cc67 : FCert := ⟨[], true, [(9, [(3, 0), (6, 0), (10, 0), (40, 0), (41, 0), (42, 0)])], []⟩
def cc79 : FCert := ⟨[], true, [], [(1, [[], [], [1], [], [], [1, 2, 4], [], [], [], [1, 2, 4, 5, 6, 8], [], [1, 2, 4, 5, 6, 8, 9]])]⟩
def cc84 : FCert := ⟨[], true, [], []⟩
def cc85 : FCert := ⟨[], true, [(4, [(0, 0), (1, 0), (2, 0), (7, 0), (8, 0), (9, 0)])], []⟩
def cc86 : FCert := ⟨[], true, [(3, [(0, 0), (1, 0), (5, 0), (6, 0)])], []⟩
def cc89 : FCert := ⟨[], true, [], []⟩
def cc90 : FCert := ⟨[], true, [(4, [(0, 0), (1, 0), (12, 0), (13, 0)])], [(6, [[], [], [], [2], [], [], [], [6], []])]⟩
def cc93 : FCert := ⟨[], true, [(2, [(0, 0), (1, 0), (7, 0), (8, 0)])], []⟩
def cc94 : FCert := ⟨[], true, [], []⟩
def cc95 : FCert := ⟨[], true, [], []⟩
def cc96 : FCert := ⟨[], true, [], []⟩
def cc97 : FCert := ⟨[], true, [], []⟩
def cc99 : FCert := ⟨[], true, [], []⟩
def cc100 : FCert := ⟨[true], true, [], []⟩
def cc101 : FCert := ⟨[], true, [], []⟩
def cc102 : FCert := ⟨[], true, [], [(1, [[], [], [], [], [], [], [], [], [7], []]), (4, [[], [], [], [], [], [], [], [], [], [3, 7], [3, 7, 9], [3, 7, 9, 10], []])]⟩
def cc103 : FCert := ⟨[true, false, true], true, [], []⟩
def cc104 : FCert := ⟨[], true, [], []⟩
def cc118 : FCert := ⟨[], true, [(3, [(0, 0), (1, 0), (2, 0), (8, 0), (9, 0), (10, 0)])], []⟩
def cc119 : FCert := ⟨[], true, [], []⟩
def cc120 : FCert := ⟨[], true, [], []⟩
def cc121 : FCert := ⟨[true, false, true], true, [], []⟩
def cc132 : FCert := ⟨[], true, [], []⟩
def CC0 : Cert := fun f => if f = 6 then cc6 else if f = 13 then cc13 else if f = 17 then cc17 else if f = 18 then cc18 else if f = 19 then cc19 else if f = 22 then cc22 else if f = 24 then cc24 else if f = 25 then cc25 else if f = 26 then cc26 else if f = 27 then cc27 else if f = 28 then cc28 else if f = 43 then cc43 else if f = 44 then cc44 else if f = 45 then cc45 else if f = 46 then cc46 else if f = 49 then cc49 else if f = 52 then cc52 else if f = 53 then cc53 else if f = 54 then cc54 else if f = 55 then cc55 else if f = 56 then cc56 else if f = 58 then cc58 else if f = 59 then cc59 else if f = 60 then cc60 else if f = 61 then cc61 else if f = 62 then cc62 else if f = 63 then cc63 else if f = 64 then cc64 else if f = 65 then cc65 else if f = 66 then cc66 else if f = 67 then cc67 else if f = 79 then cc79 else if f = 84 then cc84 else if f = 85 then cc85 else if f = 86 then cc86 else if f = 89 then cc89 else if f = 90 then cc90 else if f = 93 then cc93 else if f = 94 then cc94 else if f = 95 then cc95 else if f = 96 then cc96 else if f = 97 then cc97 else if f = 99 then cc99 else if f = 100 then cc100 else if f = 101 then cc101 else if f = 102 then cc102 else if f = 103 then cc103 else if f = 104 then cc104 else if f = 118 then cc118 else if f = 119 then cc119 else if f = 120 then cc120 else if f = 121 then cc121 else if f = 132 then cc132 else ⟨[], false, [], []⟩
def f19.start (k : Nat) (a0_0 : List Int) : PT (Bool) Empty := .ret (decide (1048576 < ((a0_0.length : Nat) : Int)))
def f19.o (a0_0 : List Int) : (Bool) → V El × List (O El) := fun r => (.bb false r, [])
def sf19 (k : Nat) : List (V G.El) → List (O G.El) → Q G.El (V G.El × List (O G.El)) := fun as0' os0' => lH as0' fun v0 as1' => lT as1' <| lT os0' <| argL 0 v0 fun a0_0 => .call _ (f19 k a0_0) fun r => .ret (.bb false r, [])
def f54.start (k : Nat) (a0_0 : List Int) : PT ((List Int) × Int) Empty := .ret (a0_0, 0)
def f54.o (a0_0 : List Int) : ((List Int) × Int) → V El × List (O El) := fun r => (.ptr 0 (.l 0) 0, [.box true true 0 2 true [.sl 0 r.1 [], .id .i64 0 r.2]])
def sf54 (k : Nat) : List (V G.El) → List (O G.El) → Q G.El (V G.El × List (O G.El)) := fun as0' os0' => lH as0' fun v0 as1' => lT as1' <| lT os0' <| argL 0 v0 fun a0_0 => .call _ (f54 k a0_0) fun r => .ret (.ptr 0 (.l 0) 0, [.box true true 0 2 true [.sl 0 r.1 [], .id .i64 0 r.2]])
def f102.start (k : Nat) (o0_0 : List Int) (o0_1 : Int) : PT (Int × Int) Empty := .ite (((o0_0.length : Nat) : Int) ≤ o0_1) (fun h1 => .ret (0, o0_1)) (fun h1 => .need (0 ≤ (IntKind.i64.wrap ((IntKind.i64.wrap (o0_1 + 1)) - 1))) fun h2 => .need ((IntKind.i64.wrap ((IntKind.i64.wrap (o0_1 + 1)) - 1)) < ((o0_0.length : Nat) : Int)) fun h3 => .ret ((IntKind.i64.wrap (at' o0_0 (IntKind.i64.wrap ((IntKind.i64.wrap (o0_1 + 1)) - 1)))), (IntKind.i64.wrap (o0_1 + 1))))
def f102.o (o0_0 : List Int) (o0_1 : Int) : (Int × Int) → V El × List (O El) := fun r => (.id .i64 0 r.1, [.box true true 0 2 true [.sl 0 o0_0 [], .id .i64 0 r.2]])
def sf102 (k : Nat) : List (V G.El) → List (O G.El) → Q G.El (V G.El × List (O G.El)) := fun as0' os0' => lH as0' fun v0 as1' => lT as1' <| lH os0' fun x0 os1' => lT os1' <| argX 2 true x0 fun b1' => argH b1' fun y2' r2' => argH r2' fun y3' r3' => argT r3' <| argL 0 y2' fun o0_0 => argI .i64 y3' fun o0_1 => argV 0 0 v0 <| .call _ (f102 k o0_0 o0_1) fun r => .ret (.id .i64 0 r.1, [.box true true 0 2 true [.sl 0 o0_0 [], .id .i64 0 r.2]])
def f63.start (k : Nat) (a1_0 : Int) (o0_0 : List Int) (o0_1 : Int) : PT (Int × Int) Empty := .ite (a1_0 ≤ 1) (fun h1 => .ret (0, o0_1)) (fun h1 => .ite (a1_0 ≤ 256) (fun h2 => .call _ (f102 k o0_0 o0_1) fun t1 => .need (a1_0 ≠ 0) fun h3 => .ret ((t1.1.tmod a1_0), t1.2)) (fun h2 => .call _ (f102 k o0_0 o0_1) fun t2 => .call _ (f102 k o0_0 t2.2) fun t3 => .need (a1_0 ≠ 0) fun h4 => .ret (((IntKind.i64.wrap ((IntKind.i64.wrap (t2.1 * 256)) + t3.1)).tmod a1_0), t3.2)))
def f63.o (a1_0 : Int) (o0_0 : List Int) (o0_1 : Int) : (Int × Int) → V El × List (O El) := fun r => (.id .i64 0 r.1, [.box true true 0 2 true [.sl 0 o0_0 [], .id .i64 0 r.2]])
def sf63 (k : Nat) : List (V G.El) → List (O G.El) → Q G.El (V G.El × List (O G.El)) := fun as0' os0' => lH as0' fun v0 as1' => lH as1' fun v1 as2' => lT as2' <| lH os0' fun x0 os1' => lT os1' <| argX 2 true x0 fun b1' => argH b1' fun y2' r2' => argH r2' fun y3' r3' => argT r3' <| argL 0 y2' fun o0_0 => argI .i64 y3' fun o0_1 => argV 0 0 v0 <| argI .i64 v1 fun a1_0 => .call _ (f63 k a1_0 o0_0 o0_1) fun r => .ret (.id .i64 0 r.1, [.box true true 0 2 true [.sl 0 o0_0 [], .id .i64 0 r.2]])
def f95.start (k : Nat) (a1_0 : Int) (a2_0 : Int) (o0_0 : List Int) (o0_1 : Int) : PT (Int × Int) Empty := .need (a1_0 ≠ 0) fun h1 => .ite (a2_0 < (IntKind.i64.wrap (1 + (IntKind.i64.wrap (((o0_0.length : Nat) : Int).tdiv a1_0))))) (fun h2 => .call _ (f63 k a2_0 o0_0 o0_1) fun t1 => .ret ((IntKind.i64.wrap (1 + t1.1)), t1.2)) (fun h2 => .call _ (f63 k (IntKind.i64.wrap (1 + (IntKind.i64.wrap (((o0_0.length : Nat) : Int).tdiv a1_0)))) o0_0 o0_1) fun t2 => .ret ((IntKind.i64.wrap (1 + t2.1)), t2.2))
def f95.o (a1_0 : Int) (a2_0 : Int) (o0_0 : List Int) (o0_1 : Int) : (Int × Int) → V El × List (O El) := fun r => (.id .i64 0 r.1, [.box true true 0 2 true [.sl 0 o0_0 [], .id .i64 0 r.2]])
def sf95 (k : Nat) : List (V G.El) → List (O G.El) → Q G.El (V G.El × List (O G.El)) := fun as0' os0' => lH as0' fun v0 as1' => lH as1' fun v1 as2' => lH as2' fun v2 as3' => lT as3' <| lH os0' fun x0 os1' => lT os1' <| argX 2 true x0 fun b1' => argH b1' fun y2' r2' => argH r2' fun y3' r3' => argT r3' <| argL 0 y2' fun o0_0 => argI .i64 y3' fun o0_1 => argV 0 0 v0 <| argI .i64 v1 fun a1_0 => argI .i64 v2 fun a2_0 => .call _ (f95 k a1_0 a2_0 o0_0 o0_1) fun r => .ret (.id .i64 0 r.1, [.box true true 0 2 true [.sl 0 o0_0 [], .id .i64 0 r.2]])
def f56.start (k : Nat) (a1_0 : Int) (o0_0 : List Int) (o0_1 : Int) : PT (Bool × Int) Empty := .call _ (f63 k a1_0 o0_0 o0_1) fun t1 => .ret ((decide (t1.1 = (IntKind.i64.wrap (a1_0 - 1)))), t1.2)
def f56.o (a1_0 : Int) (o0_0 : List Int) (o0_1 : Int) : (Bool × Int) → V El × List (O El) := fun r => (.bb false r.1, [.box true true 0 2 true [.sl 0 o0_0 [], .id .i64 0 r.2]])
def sf56 (k : Nat) : List (V G.El) → List (O G.El) → Q G.El (V G.El × List (O G.El)) := fun as0' os0' => lH as0' fun v0 as1' => lH as1' fun v1 as2' => lT as2' <| lH os0' fun x0 os1' => lT os1' <| argX 2 true x0 fun b1' => argH b1' fun y2' r2' => argH r2' fun y3' r3' => argT r3' <| argL 0 y2' fun o0_0 => argI .i64 y3' fun o0_1 => argV 0 0 v0 <| argI .i64 v1 fun a1_0 => .call _ (f56 k a1_0 o0_0 o0_1) fun r => .ret (.bb false r.1, [.box true true 0 2 true [.sl 0 o0_0 [], .id .i64 0 r.2]])
def f84.start (k : Nat) (a0_0 : ByteArray) : PT (Bool) Empty := .ite (1 ≤ ((a0_0.size : Nat) : Int)) (fun h1 => .triv (1 ≤ ((a0_0.size : Nat) : Int)) h1 <| .triv (1 ≤ ((a0_0.size : Nat) : Int)) h1 <| .triv (1 ≤ ((a0_0.size : Nat) : Int)) h1 <| .ret (decide (((a0_0.size : Nat) : Int) ≤ 100))) (fun h1 => .triv (¬ (1 ≤ ((a0_0.size : Nat) : Int))) h1 <| .triv (¬ (1 ≤ ((a0_0.size : Nat) : Int))) h1 <| .triv (¬ (1 ≤ ((a0_0.size : Nat) : Int))) h1 <| .ret false)
def f84.o (a0_0 : ByteArray) : (Bool) → V El × List (O El) := fun r => (.bb false r, [])
def sf84 (k : Nat) : List (V G.El) → List (O G.El) → Q G.El (V G.El × List (O G.El)) := fun as0' os0' => lH as0' fun v0 as1' => lT as1' <| lT os0' <| argS v0 fun a0_0 => .call _ (f84 k a0_0) fun r => .ret (.bb false r, [])
inductive f43.L where
  | l5 (x0 : List S80) (x3 : Int) (x4 : Int)
def f43.st : f43.L → Nat × S El
  | .l5 x0 x3 x4 => (5, ⟨49, .dead, [(0, .sl 1 x0 []), (3, .id .i64 4 x3), (4, .id .i64 5 x4)], [], 0, 0⟩)
def f43.hint : f43.L → H
  | .l5 .. => (.both (.skip (.both (.l (.l (.both (.l (.l (.l (.l (.l (.l (.l (.l (.l (.l (.l (.l (.l (.l .all)))))))))))))) (.r (.r (.r (.r (.r (.r (.r (.r (.r (.r (.r (.l (.r (.l .all))))))))))))))))) (.r (.r (.r (.r .all)))))) .all)
def f43.blk (k : Nat) : f43.L → PT (Bool) f43.L
  | .l5 x0 x3 x4 => .ite (x4 < ((x0.length : Nat) : Int)) (fun h2 => .need (0 ≤ x4) fun h3 => .triv (x4 < ((x0.length : Nat) : Int)) h2 <| .call _ (f84 k ((at' x0 x4).f0)) fun t1 => .ite (t1 = true) (fun h4 => .triv (t1 = true) h4 <| .triv (t1 = true) h4 <| .ite (0 < x4) (fun h5 => .triv (0 < x4) h5 <| .triv (0 < x4) h5 <| .triv (0 ≤ x4) h3 <| .triv (x4 < ((x0.length : Nat) : Int)) h2 <| .triv (0 < x4) h5 <| .triv (0 < x4) h5 <| .triv (0 < x4) h5 <| .triv (0 < x4) h5 <| .triv (0 < x4) h5 <| .triv (0 < x4) h5 <| .need (0 ≤ (IntKind.i64.wrap (x4 - 1))) fun h6 => .need ((IntKind.i64.wrap (x4 - 1)) < ((x0.length : Nat) : Int)) fun h7 => .triv (0 < x4) h5 <| .triv (0 < x4) h5 <| .triv (0 < x4) h5 <| .triv (t1 = true) h4 <| .triv (0 < x4) h5 <| .triv (t1 = true) h4 <| .ite ((strLt ((at' x0 x4).f0) ((at' x0 (IntKind.i64.wrap (x4 - 1))).f0) || strEq ((at' x0 x4).f0) ((at' x0 (IntKind.i64.wrap (x4 - 1))).f0)) = true) (fun h8 => .ret false) (fun h8 => .triv (0 ≤ x4) h3 <| .triv (x4 < ((x0.length : Nat) : Int)) h2 <| .jump (.l5 x0 (IntKind.i64.wrap (x3 + ((((at' x0 x4).f1).size : Nat) : Int))) (IntKind.i64.wrap (x4 + 1))))) (fun h5 => .triv (¬ (0 < x4)) h5 <| .triv (¬ (0 < x4)) h5 <| .triv (¬ (0 < x4)) h5 <| .triv (¬ (0 < x4)) h5 <| .triv (¬ (0 < x4)) h5 <| .triv (¬ (0 < x4)) h5 <| .triv (¬ (0 < x4)) h5 <| .triv (¬ (0 < x4)) h5 <| .triv (¬ (0 < x4)) h5 <| .triv (¬ (0 < x4)) h5 <| .triv (¬ (0 < x4)) h5 <| .triv (t1 = true) h4 <| .triv (¬ (0 < x4)) h5 <| .triv (t1 = true) h4 <| .triv (0 ≤ x4) h3 <| .triv (x4 < ((x0.length : Nat) : Int)) h2 <| .jump (.l5 x0 (IntKind.i64.wrap (x3 + ((((at' x0 x4).f1).size : Nat) : Int))) (IntKind.i64.wrap (x4 + 1))))) (fun h4 => .triv (¬ (t1 = true)) h4 <| .triv (¬ (t1 = true)) h4 <| .triv (¬ (t1 = true)) h4 <| .triv (¬ (t1 = true)) h4 <| .ret false)) (fun h2 => .ret (decide (x3 ≤ 200000)))
def f43.D (k : Nat) : f43.L → Option (Bool)
  | .l5 x0 x3 x4 => f43.l5 k x0 x3 x4
def f43.start (k : Nat) (a0_0 : List S80) : PT (Bool) f43.L := .ite (60 < ((a0_0.length : Nat) : Int)) (fun h1 => .ret false) (fun h1 => .jump (.l5 a0_0 0 0))
def f43.o (a0_0 : List S80) : (Bool) → V El × List (O El) := fun r => (.bb false r, [])
def sf43 (k : Nat) : List (V G.El) → List (O G.El) → Q G.El (V G.El × List (O G.El)) := fun as0' os0' => lH as0' fun v0 as1' => lT as1' <| lT os0' <| argL 1 v0 fun a0_0 => .call _ (f43 k a0_0) fun r => .ret (.bb false r, [])
inductive f52.L where
  | l2 (x0 : List S80) (x1 : ByteArray) (x5 : Int)
def f52.st : f52.L → Nat × S El
  | .l2 x0 x1 x5 => (2, ⟨20, .dead, [(0, .sl 1 x0 []), (1, .s x1), (5, .id .i64 6 x5)], [], 0, 0⟩)
def f52.hint : f52.L → H
  | .l2 .. => .all
def f52.blk (k : Nat) : f52.L → PT (Int) f52.L
  | .l2 x0 x1 x5 => .ite (x5 < ((x0.length : Nat) : Int)) (fun h1 => .need (0 ≤ x5) fun h2 => .triv (x5 < ((x0.length : Nat) : Int)) h1 <| .ite ((strEq ((at' x0 x5).f0) x1) = true) (fun h3 => .ret x5) (fun h3 => .jump (.l2 x0 x1 (IntKind.i64.wrap (x5 + 1))))) (fun h1 => .ret (-1))
def f52.D (k : Nat) : f52.L → Option (Int)
  | .l2 x0 x1 x5 => f52.l2 k x0 x1 x5
def f52.start (k : Nat) (a0_0 : List S80) (a1_0 : ByteArray) : PT (Int) f52.L := .jump (.l2 a0_0 a1_0 0)
def f52.o (a0_0 : List S80) (a1_0 : ByteArray) : (Int) → V El × List (O El) := fun r => (.id .i64 0 r, [])
def sf52 (k : Nat) : List (V G.El) → List (O G.El) → Q G.El (V G.El × List (O G.El)) := fun as0' os0' => lH as0' fun v0 as1' => lH as1' fun v1 as2' => lT as2' <| lT os0' <| argL 1 v0 fun a0_0 => argS v1 fun a1_0 => .call _ (f52 k a0_0 a1_0) fun r => .ret (.id .i64 0 r, [])
inductive f85.L where
  | l4 (q0 : List S80) (x0 : List S80) (x1 : ByteArray) (x2 : ByteArray) (x8 : Bool) (x9 : Int)
def f85.st : f85.L → Nat × S El
  | .l4 q0 x0 x1 x2 x8 x9 => (4, ⟨57, .dead, [(0, .sl 1 x0 []), (1, .s x1), (2, .s x2), (7, .win 0 true (.l 0) (.d 0 q0.length)), (8, .bb false x8), (9, .id .i64 10 x9)], [(0, .row true true true 0 1 q0 none)], 1, 0⟩)
def f85.hint : f85.L → H
  | .l4 .. => (.both (.both (.l (.l (.l (.l (.l (.l (.l .all))))))) (.r (.r (.r (.r (.r (.r (.r .all)))))))) .all)
def f85.blk (k : Nat) : f85.L → PT ((List S80)) f85.L
  | .l4 q0 x0 x1 x2 x8 x9 => .ite (x9 < ((x0.length : Nat) : Int)) (fun h1 => .ite (x8 = true) (fun h2 => .triv (x8 = true) h2 <| .triv (x8 = true) h2 <| .triv (x8 = true) h2 <| .triv (x8 = true) h2 <| .triv (x8 = true) h2 <| .triv (x8 = true) h2 <| .triv (x8 = true) h2 <| .need (0 ≤ x9) fun h3 => .triv (x9 < ((x0.length : Nat) : Int)) h1 <| .ite ((strEq ((at' x0 x9).f0) x1) = true) (fun h4 => .triv (q0.length = q0.length) rfl <| .jump (.l4 q0 x0 x1 x2 x8 (IntKind.i64.wrap (x9 + 1)))) (fun h4 => .triv (0 ≤ x9) h3 <| .triv (x9 < ((x0.length : Nat) : Int)) h1 <| .triv (1 = ([(⟨(at' x0 x9).f0, (at' x0 x9).f1⟩ : S80)] : List S80).length) tv <| .triv (q0.length = q0.length) rfl <| .need ((q0.length + 1) * 32 ≤ 70368744177664) fun h5 => .need ((q0.length + 1) ≤ 70368744177664) fun h6 => .triv ((q0.length + 1) = (q0 ++ ([(⟨(at' x0 x9).f0, (at' x0 x9).f1⟩ : S80)] : List S80)).length) tv <| .jump (.l4 (q0 ++ ([(⟨(at' x0 x9).f0, (at' x0 x9).f1⟩ : S80)] : List S80)) x0 x1 x2 x8 (IntKind.i64.wrap (x9 + 1))))) (fun h2 => .triv (¬ (x8 = true)) h2 <| .triv (¬ (x8 = true)) h2 <| .need (0 ≤ x9) fun h7 => .triv (x9 < ((x0.length : Nat) : Int)) h1 <| .triv (¬ (x8 = true)) h2 <| .triv (¬ (x8 = true)) h2 <| .triv (¬ (x8 = true)) h2 <| .triv (¬ (x8 = true)) h2 <| .triv (¬ (x8 = true)) h2 <| .ite ((strLt ((at' x0 x9).f0) x1) = true) (fun h8 => .triv (0 ≤ x9) h7 <| .triv (x9 < ((x0.length : Nat) : Int)) h1 <| .ite ((strEq ((at' x0 x9).f0) x1) = true) (fun h9 => .triv (q0.length = q0.length) rfl <| .jump (.l4 q0 x0 x1 x2 x8 (IntKind.i64.wrap (x9 + 1)))) (fun h9 => .triv (0 ≤ x9) h7 <| .triv (x9 < ((x0.length : Nat) : Int)) h1 <| .triv (1 = ([(⟨(at' x0 x9).f0, (at' x0 x9).f1⟩ : S80)] : List S80).length) tv <| .triv (q0.length = q0.length) rfl <| .need ((q0.length + 1) * 32 ≤ 70368744177664) fun h10 => .need ((q0.length + 1) ≤ 70368744177664) fun h11 => .triv ((q0.length + 1) = (q0 ++ ([(⟨(at' x0 x9).f0, (at' x0 x9).f1⟩ : S80)] : List S80)).length) tv <| .jump (.l4 (q0 ++ ([(⟨(at' x0 x9).f0, (at' x0 x9).f1⟩ : S80)] : List S80)) x0 x1 x2 x8 (IntKind.i64.wrap (x9 + 1))))) (fun h8 => .triv (1 = ([(⟨x1, x2⟩ : S80)] : List S80).length) tv <| .triv (q0.length = q0.length) rfl <| .need ((q0.length + 1) * 32 ≤ 70368744177664) fun h12 => .need ((q0.length + 1) ≤ 70368744177664) fun h13 => .triv (0 ≤ x9) h7 <| .triv (x9 < ((x0.length : Nat) : Int)) h1 <| .ite ((strEq ((at' x0 x9).f0) x1) = true) (fun h14 => .triv ((q0.length + 1) = (q0 ++ ([(⟨x1, x2⟩ : S80)] : List S80)).length) tv <| .jump (.l4 (q0 ++ ([(⟨x1, x2⟩ : S80)] : List S80)) x0 x1 x2 true (IntKind.i64.wrap (x9 + 1)))) (fun h14 => .triv (0 ≤ x9) h7 <| .triv (x9 < ((x0.length : Nat) : Int)) h1 <| .triv (1 = ([(⟨(at' x0 x9).f0, (at' x0 x9).f1⟩ : S80)] : List S80).length) tv <| .triv ((q0.length + 1) = (q0 ++ ([(⟨x1, x2⟩ : S80)] : List S80)).length) tv <| .need (((q0.length + 1) + 1) * 32 ≤ 70368744177664) fun h15 => .need (((q0.length + 1) + 1) ≤ 70368744177664) fun h16 => .triv (((q0.length + 1) + 1) = ((q0 ++ ([(⟨x1, x2⟩ : S80)] : List S80)) ++ ([(⟨(at' x0 x9).f0, (at' x0 x9).f1⟩ : S80)] : List S80)).length) tv <| .jump (.l4 ((q0 ++ ([(⟨x1, x2⟩ : S80)] : List S80)) ++ ([(⟨(at' x0 x9).f0, (at' x0 x9).f1⟩ : S80)] : List S80)) x0 x1 x2 true (IntKind.i64.wrap (x9 + 1))))))) (fun h1 => .ite (x8 = true) (fun h17 => .triv (q0.length = q0.length) rfl <| .ret q0) (fun h17 => .triv (1 = ([(⟨x1, x2⟩ : S80)] : List S80).length) tv <| .triv (q0.length = q0.length) rfl <| .need ((q0.length + 1) * 32 ≤ 70368744177664) fun h18 => .need ((q0.length + 1) ≤ 70368744177664) fun h19 => .triv ((q0.length + 1) = (q0 ++ ([(⟨x1, x2⟩ : S80)] : List S80)).length) tv <| .ret (q0 ++ ([(⟨x1, x2⟩ : S80)] : List S80))))
def f85.D (k : Nat) : f85.L → Option ((List S80))
  | .l4 q0 x0 x1 x2 x8 x9 => f85.l4 k q0 x0 x1 x2 x8 x9
def f85.start (k : Nat) (a0_0 : List S80) (a1_0 : ByteArray) (a2_0 : ByteArray) : PT ((List S80)) f85.L := .triv (0 = ([] : List S80).length) tv <| .jump (.l4 ([] : List S80) a0_0 a1_0 a2_0 false 0)
def f85.o (a0_0 : List S80) (a1_0 : ByteArray) (a2_0 : ByteArray) : ((List S80)) → V El × List (O El) := fun r => (.win 0 true (.l 0) (.d 0 r.length), [.row true true true 0 1 r none])
def sf85 (k : Nat) : List (V G.El) → List (O G.El) → Q G.El (V G.El × List (O G.El)) := fun as0' os0' => lH as0' fun v0 as1' => lH as1' fun v1 as2' => lH as2' fun v2 as3' => lT as3' <| lT os0' <| argL 1 v0 fun a0_0 => argS v1 fun a1_0 => argS v2 fun a2_0 => .call _ (f85 k a0_0 a1_0 a2_0) fun r => .ret (.win 0 true (.l 0) (.d 0 r.length), [.row true true true 0 1 r none])
inductive f86.L where
  | l3 (q0 : List S80) (x0 : List S80) (x1 : ByteArray) (x6 : Int)
def f86.st : f86.L → Nat × S El
  | .l3 q0 x0 x1 x6 => (3, ⟨29, .dead, [(0, .sl 1 x0 []), (1, .s x1), (5, .win 0 true (.l 0) (.d 0 q0.length)), (6, .id .i64 7 x6)], [(0, .row true true true 0 1 q0 none)], 1, 0⟩)
def f86.hint : f86.L → H
  | .l3 .. => .all
def f86.blk (k : Nat) : f86.L → PT ((List S80)) f86.L
  | .l3 q0 x0 x1 x6 => .ite (x6 < ((x0.length : Nat) : Int)) (fun h1 => .need (0 ≤ x6) fun h2 => .triv (x6 < ((x0.length : Nat) : Int)) h1 <| .ite ((strEq ((at' x0 x6).f0) x1) = true) (fun h3 => .triv (q0.length = q0.length) rfl <| .jump (.l3 q0 x0 x1 (IntKind.i64.wrap (x6 + 1)))) (fun h3 => .triv (0 ≤ x6) h2 <| .triv (x6 < ((x0.length : Nat) : Int)) h1 <| .triv (1 = ([(⟨(at' x0 x6).f0, (at' x0 x6).f1⟩ : S80)] : List S80).length) tv <| .triv (q0.length = q0.length) rfl <| .need ((q0.length + 1) * 32 ≤ 70368744177664) fun h4 => .need ((q0.length + 1) ≤ 70368744177664) fun h5 => .triv ((q0.length + 1) = (q0 ++ ([(⟨(at' x0 x6).f0, (at' x0 x6).f1⟩ : S80)] : List S80)).length) tv <| .jump (.l3 (q0 ++ ([(⟨(at' x0 x6).f0, (at' x0 x6).f1⟩ : S80)] : List S80)) x0 x1 (IntKind.i64.wrap (x6 + 1))))) (fun h1 => .triv (q0.length = q0.length) rfl <| .ret q0)
def f86.D (k : Nat) : f86.L → Option ((List S80))
  | .l3 q0 x0 x1 x6 => f86.l3 k q0 x0 x1 x6
def f86.start (k : Nat) (a0_0 : List S80) (a1_0 : ByteArray) : PT ((List S80)) f86.L := .triv (0 = ([] : List S80).length) tv <| .jump (.l3 ([] : List S80) a0_0 a1_0 0)
def f86.o (a0_0 : List S80) (a1_0 : ByteArray) : ((List S80)) → V El × List (O El) := fun r => (.win 0 true (.l 0) (.d 0 r.length), [.row true true true 0 1 r none])
def sf86 (k : Nat) : List (V G.El) → List (O G.El) → Q G.El (V G.El × List (O G.El)) := fun as0' os0' => lH as0' fun v0 as1' => lH as1' fun v1 as2' => lT as2' <| lT os0' <| argL 1 v0 fun a0_0 => argS v1 fun a1_0 => .call _ (f86 k a0_0 a1_0) fun r => .ret (.win 0 true (.l 0) (.d 0 r.length), [.row true true true 0 1 r none])
def f44.start (k : Nat) (a0_0 : List S80) (a1_0 : Int) (a1_1 : ByteArray) (a1_2 : ByteArray) (a1_3 : ByteArray) : PT (Bool × (List S80)) Empty := .call _ (f52 k a0_0 a1_1) fun t1 => .ite (a1_0 = 1) (fun h1 => .ite (0 ≤ t1) (fun h2 => .triv (0 ≤ t1) h2 <| .need (t1 < ((a0_0.length : Nat) : Int)) fun h3 => .need (((at' a0_0 t1).f1).size + a1_3.size ≤ 9223372036854775807) fun h4 => .call _ (f85 k a0_0 a1_1 ((at' a0_0 t1).f1 ++ a1_3)) fun t2 => .triv (t2.length = t2.length) rfl <| .ret (true, t2)) (fun h2 => .call _ (f85 k a0_0 a1_1 a1_3) fun t3 => .triv (t3.length = t3.length) rfl <| .ret (true, t3))) (fun h1 => .ite (t1 < 0) (fun h5 => .triv (0 = ([] : List S80).length) tv <| .need (a0_0.length * 32 ≤ 70368744177664) fun h6 => .need (a0_0.length ≤ 70368744177664) fun h7 => .triv (a0_0.length = a0_0.length) rfl <| .ret (false, a0_0)) (fun h5 => .call _ (f86 k a0_0 a1_1) fun t4 => .ite (a1_0 = 2) (fun h8 => .need (0 ≤ t1) fun h9 => .need (t1 < ((a0_0.length : Nat) : Int)) fun h10 => .triv (t4.length = t4.length) rfl <| .call _ (f85 k t4 a1_2 ((at' a0_0 t1).f1)) fun t5 => .triv (t5.length = t5.length) rfl <| .ret (true, t5)) (fun h8 => .triv (t4.length = t4.length) rfl <| .ret (true, t4))))
def f44.o (a0_0 : List S80) (a1_0 : Int) (a1_1 : ByteArray) (a1_2 : ByteArray) (a1_3 : ByteArray) : (Bool × (List S80)) → V El × List (O El) := fun r => (.tup [.win 0 true (.l 0) (.d 0 r.2.length), .bb false r.1], [.row true true true 0 1 r.2 none])
def sf44 (k : Nat) : List (V G.El) → List (O G.El) → Q G.El (V G.El × List (O G.El)) := fun as0' os0' => lH as0' fun v0 as1' => lH as1' fun v1 as2' => lT as2' <| lT os0' <| argL 1 v0 fun a0_0 => argA v1 fun b1' => argH b1' fun y2' r2' => argH r2' fun y3' r3' => argH r3' fun y4' r4' => argH r4' fun y5' r5' => argT r5' <| argI .i64 y2' fun a1_0 => argS y3' fun a1_1 => argS y4' fun a1_2 => argS y5' fun a1_3 => .call _ (f44 k a0_0 a1_0 a1_1 a1_2 a1_3) fun r => .ret (.tup [.win 0 true (.l 0) (.d 0 r.2.length), .bb false r.1], [.row true true true 0 1 r.2 none])
def f58.start (k : Nat) (a0_0 : Int) (a1_0 : Int) (a2_0 : Int) : PT (Bool) Empty := .ite (a1_0 ≤ a0_0) (fun h1 => .triv (a1_0 ≤ a0_0) h1 <| .triv (a1_0 ≤ a0_0) h1 <| .triv (a1_0 ≤ a0_0) h1 <| .ret (decide (a0_0 ≤ a2_0))) (fun h1 => .triv (¬ (a1_0 ≤ a0_0)) h1 <| .triv (¬ (a1_0 ≤ a0_0)) h1 <| .triv (¬ (a1_0 ≤ a0_0)) h1 <| .ret false)
def f58.o (a0_0 : Int) (a1_0 : Int) (a2_0 : Int) : (Bool) → V El × List (O El) := fun r => (.bb false r, [])
def sf58 (k : Nat) : List (V G.El) → List (O G.El) → Q G.El (V G.El × List (O G.El)) := fun as0' os0' => lH as0' fun v0 as1' => lH as1' fun v1 as2' => lH as2' fun v2 as3' => lT as3' <| lT os0' <| argI .i64 v0 fun a0_0 => argI .i64 v1 fun a1_0 => argI .i64 v2 fun a2_0 => .call _ (f58 k a0_0 a1_0 a2_0) fun r => .ret (.bb false r, [])
def f45.start (k : Nat) (a0_0 : Int) (a0_1 : ByteArray) (a0_2 : ByteArray) (a0_3 : ByteArray) : PT (Bool) Empty := .call _ (f58 k a0_0 1 3) fun t1 => .ite (t1 = true) (fun h1 => .triv (t1 = true) h1 <| .triv (t1 = true) h1 <| .call _ (f84 k a0_1) fun t2 => .triv (t1 = true) h1 <| .triv (t1 = true) h1 <| .ite (t2 = true) (fun h2 => .ite (a0_0 = 2) (fun h3 => .call _ (f84 k a0_2) fun t3 => .ite (t3 = true) (fun h4 => .triv (t3 = true) h4 <| .triv (t3 = true) h4 <| .triv (t3 = true) h4 <| .ret (strEq a0_3 (⟨#[]⟩ : ByteArray))) (fun h4 => .triv (¬ (t3 = true)) h4 <| .triv (¬ (t3 = true)) h4 <| .triv (¬ (t3 = true)) h4 <| .ret false)) (fun h3 => .ite ((strEq a0_2 (⟨#[]⟩ : ByteArray)) = true) (fun h5 => .triv ((strEq a0_2 (⟨#[]⟩ : ByteArray)) = true) h5 <| .triv ((strEq a0_2 (⟨#[]⟩ : ByteArray)) = true) h5 <| .triv ((strEq a0_2 (⟨#[]⟩ : ByteArray)) = true) h5 <| .ite (a0_0 = 1) (fun h6 => .triv (a0_0 = 1) h6 <| .triv (a0_0 = 1) h6 <| .triv ((strEq a0_2 (⟨#[]⟩ : ByteArray)) = true) h5 <| .triv (a0_0 = 1) h6 <| .triv ((strEq a0_2 (⟨#[]⟩ : ByteArray)) = true) h5 <| .ret true) (fun h6 => .triv (¬ (a0_0 = 1)) h6 <| .triv (¬ (a0_0 = 1)) h6 <| .triv ((strEq a0_2 (⟨#[]⟩ : ByteArray)) = true) h5 <| .triv (¬ (a0_0 = 1)) h6 <| .triv ((strEq a0_2 (⟨#[]⟩ : ByteArray)) = true) h5 <| .ret (strEq a0_3 (⟨#[]⟩ : ByteArray)))) (fun h5 => .triv (¬ ((strEq a0_2 (⟨#[]⟩ : ByteArray)) = true)) h5 <| .triv (¬ ((strEq a0_2 (⟨#[]⟩ : ByteArray)) = true)) h5 <| .triv (¬ ((strEq a0_2 (⟨#[]⟩ : ByteArray)) = true)) h5 <| .triv (¬ ((strEq a0_2 (⟨#[]⟩ : ByteArray)) = true)) h5 <| .triv (¬ ((strEq a0_2 (⟨#[]⟩ : ByteArray)) = true)) h5 <| .ret false))) (fun h2 => .ret false)) (fun h1 => .triv (¬ (t1 = true)) h1 <| .triv (¬ (t1 = true)) h1 <| .triv (¬ (t1 = true)) h1 <| .triv (¬ (t1 = true)) h1 <| .ret false)
def f45.o (a0_0 : Int) (a0_1 : ByteArray) (a0_2 : ByteArray) (a0_3 : ByteArray) : (Bool) → V El × List (O El) := fun r => (.bb false r, [])
def sf45 (k : Nat) : List (V G.El) → List (O G.El) → Q G.El (V G.El × List (O G.El)) := fun as0' os0' => lH as0' fun v0 as1' => lT as1' <| lT os0' <| argA v0 fun b1' => argH b1' fun y2' r2' => argH r2' fun y3' r3' => argH r3' fun y4' r4' => argH r4' fun y5' r5' => argT r5' <| argI .i64 y2' fun a0_0 => argS y3' fun a0_1 => argS y4' fun a0_2 => argS y5' fun a0_3 => .call _ (f45 k a0_0 a0_1 a0_2 a0_3) fun r => .ret (.bb false r, [])
inductive f46.L where
  | l4 (x0 : List S80) (x1 : List S80) (x5 : Int)
def f46.st : f46.L → Nat × S El
  | .l4 x0 x1 x5 => (4, ⟨26, .dead, [(0, .sl 1 x0 []), (1, .sl 1 x1 []), (5, .id .i64 6 x5)], [], 0, 0⟩)
def f46.hint : f46.L → H
  | .l4 .. => .all
def f46.blk (k : Nat) : f46.L → PT (Bool) f46.L
  | .l4 x0 x1 x5 => .ite (x5 < ((x0.length : Nat) : Int)) (fun h2 => .need (0 ≤ x5) fun h3 => .triv (x5 < ((x0.length : Nat) : Int)) h2 <| .triv (0 ≤ x5) h3 <| .need (x5 < ((x1.length : Nat) : Int)) fun h4 => .ite ((strEq ((at' x0 x5).f0) ((at' x1 x5).f0) && strEq ((at' x0 x5).f1) ((at' x1 x5).f1)) = true) (fun h5 => .jump (.l4 x0 x1 (IntKind.i64.wrap (x5 + 1)))) (fun h5 => .ret false)) (fun h2 => .ret true)
def f46.D (k : Nat) : f46.L → Option (Bool)
  | .l4 x0 x1 x5 => f46.l4 k x0 x1 x5
def f46.start (k : Nat) (a0_0 : List S80) (a1_0 : List S80) : PT (Bool) f46.L := .ite (((a0_0.length : Nat) : Int) = ((a1_0.length : Nat) : Int)) (fun h1 => .jump (.l4 a0_0 a1_0 0)) (fun h1 => .ret false)
def f46.o (a0_0 : List S80) (a1_0 : List S80) : (Bool) → V El × List (O El) := fun r => (.bb false r, [])
def sf46 (k : Nat) : List (V G.El) → List (O G.El) → Q G.El (V G.El × List (O G.El)) := fun as0' os0' => lH as0' fun v0 as1' => lH as1' fun v1 as2' => lT as2' <| lT os0' <| argL 1 v0 fun a0_0 => argL 1 v1 fun a1_0 => .call _ (f46 k a0_0 a1_0) fun r => .ret (.bb false r, [])
inductive f13.L where
  | l5 (x3 : List S80) (x4 : Int) (b0_0 : List S80) (b0_1 : List S80) (b0_2 : List S73)
def f13.st : f13.L → Nat × S El
  | .l5 x3 x4 b0_0 b0_1 b0_2 => (5, ⟨63, .dead, [(1, .ptr 0 (.l 0) 0), (3, .sl 1 x3 []), (4, .id .i64 5 x4)], [(0, .box true true 0 3 true [.sl 1 b0_0 [], .sl 1 b0_1 [], .sl 2 b0_2 []])], 1, 0⟩)
def f13.hint : f13.L → H
  | .l5 .. => (.both (.skip (.both (.l (.l (.l (.l (.l (.skip (.l (.l (.both (.l (.skip (.l (.l .all)))) (.r (.r (.r .all)))))))))))) (.r (.r (.r (.r (.r (.r (.r .all))))))))) .all)
def f13.blk (k : Nat) : f13.L → PT (Bool) f13.L
  | .l5 x3 x4 b0_0 b0_1 b0_2 => .ite (x4 < ((b0_2.length : Nat) : Int)) (fun h4 => .need (0 ≤ x4) fun h5 => .triv (x4 < ((b0_2.length : Nat) : Int)) h4 <| .call _ (f44 k x3 ((at' b0_2 x4).f0) ((at' b0_2 x4).f1) ((at' b0_2 x4).f2) ((at' b0_2 x4).f3)) fun t3 => .ite (t3.1 = true) (fun h6 => .triv (t3.1 = true) h6 <| .triv (t3.1 = true) h6 <| .triv (t3.1 = true) h6 <| .triv (0 ≤ x4) h5 <| .triv (x4 < ((b0_2.length : Nat) : Int)) h4 <| .triv (t3.1 = true) h6 <| .triv (t3.1 = true) h6 <| .call _ (f45 k ((at' b0_2 x4).f0) ((at' b0_2 x4).f1) ((at' b0_2 x4).f2) ((at' b0_2 x4).f3)) fun t4 => .triv (t3.1 = true) h6 <| .triv (t3.1 = true) h6 <| .ite (t4 = true) (fun h7 => .triv (t4 = true) h7 <| .triv (t3.2.length = t3.2.length) rfl <| .call _ (f43 k t3.2) fun t5 => .triv (t4 = true) h7 <| .triv (t4 = true) h7 <| .ite (t5 = true) (fun h8 => .triv (t3.2.length = t3.2.length) rfl <| .jump (.l5 t3.2 (IntKind.i64.wrap (x4 + 1)) b0_0 b0_1 b0_2)) (fun h8 => .ret false)) (fun h7 => .triv (¬ (t4 = true)) h7 <| .triv (¬ (t4 = true)) h7 <| .triv (¬ (t4 = true)) h7 <| .ret false)) (fun h6 => .triv (¬ (t3.1 = true)) h6 <| .triv (¬ (t3.1 = true)) h6 <| .triv (¬ (t3.1 = true)) h6 <| .triv (¬ (t3.1 = true)) h6 <| .triv (¬ (t3.1 = true)) h6 <| .triv (¬ (t3.1 = true)) h6 <| .triv (¬ (t3.1 = true)) h6 <| .ret false)) (fun h4 => .call _ (f46 k x3 b0_0) fun t6 => .ret t6)
def f13.D (k : Nat) : f13.L → Option (Bool)
  | .l5 x3 x4 b0_0 b0_1 b0_2 => f13.l5 k x3 x4 b0_0 b0_1 b0_2
def f13.start (k : Nat) (a0_0 : List S80) (a0_1 : List S80) (a0_2 : List S73) : PT (Bool) f13.L := .call _ (f43 k a0_0) fun t1 => .ite (t1 = true) (fun h1 => .triv (t1 = true) h1 <| .triv (t1 = true) h1 <| .call _ (f43 k a0_1) fun t2 => .triv (t1 = true) h1 <| .triv (t1 = true) h1 <| .ite (t2 = true) (fun h2 => .triv (t2 = true) h2 <| .triv (t2 = true) h2 <| .triv (t2 = true) h2 <| .triv (t2 = true) h2 <| .ite (200 < ((a0_2.length : Nat) : Int)) (fun h3 => .ret false) (fun h3 => .jump (.l5 a0_1 0 a0_0 a0_1 a0_2))) (fun h2 => .triv (¬ (t2 = true)) h2 <| .triv (¬ (t2 = true)) h2 <| .triv (¬ (t2 = true)) h2 <| .triv (¬ (t2 = true)) h2 <| .ret false)) (fun h1 => .triv (¬ (t1 = true)) h1 <| .triv (¬ (t1 = true)) h1 <| .triv (¬ (t1 = true)) h1 <| .triv (¬ (t1 = true)) h1 <| .ret false)
def f13.o (a0_0 : List S80) (a0_1 : List S80) (a0_2 : List S73) : (Bool) → V El × List (O El) := fun r => (.bb false r, [])
def sf13 (k : Nat) : List (V G.El) → List (O G.El) → Q G.El (V G.El × List (O G.El)) := fun as0' os0' => lH as0' fun v0 as1' => lT as1' <| lT os0' <| argA v0 fun b1' => argH b1' fun y2' r2' => argH r2' fun y3' r3' => argH r3' fun y4' r4' => argT r4' <| argL 1 y2' fun a0_0 => argL 1 y3' fun a0_1 => argL 2 y4' fun a0_2 => .call _ (f13 k a0_0 a0_1 a0_2) fun r => .ret (.bb false r, [])
def f28.start (k : Nat) (a0_0 : List S80) (a0_1 : List S80) (a0_2 : List S73) : PT ((List S80) × (List S80) × (List S73)) Empty := .call _ (f13 k a0_0 a0_1 a0_2) fun t1 => .ite (t1 = true) (fun h1 => .triv (0 = ([] : List S80).length) tv <| .need (a0_0.length * 32 ≤ 70368744177664) fun h2 => .need (a0_0.length ≤ 70368744177664) fun h3 => .triv (0 = ([] : List S80).length) tv <| .triv (a0_0.length * 32 ≤ 70368744177664) h2 <| .triv (a0_0.length ≤ 70368744177664) h3 <| .triv (a0_0.length = a0_0.length) rfl <| .triv (a0_0.length = a0_0.length) rfl <| .triv (0 = ([] : List S73).length) tv <| .ret (a0_0, a0_0, ([] : List S73))) (fun h1 => .triv (0 = ([] : List S80).length) tv <| .triv (0 = ([] : List S80).length) tv <| .triv (0 = ([] : List S73).length) tv <| .ret (([] : List S80), ([] : List S80), ([] : List S73)))
def f28.o (a0_0 : List S80) (a0_1 : List S80) (a0_2 : List S73) : ((List S80) × (List S80) × (List S73)) → V El × List (O El) := fun r => (.agg [.win 0 true (.l 0) (.d 0 r.1.length), .win 1 true (.l 0) (.d 0 r.2.1.length), .win 2 true (.l 0) (.d 0 r.2.2.length)], [.row true true true 0 1 r.1 none, .row true true true 0 1 r.2.1 none, .row true true true 0 2 r.2.2 none])
def sf28 (k : Nat) : List (V G.El) → List (O G.El) → Q G.El (V G.El × List (O G.El)) := fun as0' os0' => lH as0' fun v0 as1' => lT as1' <| lT os0' <| argA v0 fun b1' => argH b1' fun y2' r2' => argH r2' fun y3' r3' => argH r3' fun y4' r4' => argT r4' <| argL 1 y2' fun a0_0 => argL 1 y3' fun a0_1 => argL 2 y4' fun a0_2 => .call _ (f28 k a0_0 a0_1 a0_2) fun r => .ret (.agg [.win 0 true (.l 0) (.d 0 r.1.length), .win 1 true (.l 0) (.d 0 r.2.1.length), .win 2 true (.l 0) (.d 0 r.2.2.length)], [.row true true true 0 1 r.1 none, .row true true true 0 1 r.2.1 none, .row true true true 0 2 r.2.2 none])
def f64.start (k : Nat) (o0_0 : List Int) (o0_1 : Int) : PT (ByteArray × Int) Empty := .call _ (f63 k 8 o0_0 o0_1) fun t1 => .need (0 ≤ t1.1) fun h1 => .need (t1.1 < ((8 : Nat) : Int)) fun h2 => .triv (t1.1.toNat < ([(⟨#[]⟩ : ByteArray), (⟨#[97]⟩ : ByteArray), (⟨#[98]⟩ : ByteArray), (⟨#[97, 98, 99]⟩ : ByteArray), (⟨#[108, 97, 121, 101, 114]⟩ : ByteArray), (⟨#[99, 111, 110, 102, 105, 103]⟩ : ByteArray), (⟨#[122, 122, 57]⟩ : ByteArray), (⟨#[48]⟩ : ByteArray)] : List ByteArray).length) tv <| .ret ((at' ([(⟨#[]⟩ : ByteArray), (⟨#[97]⟩ : ByteArray), (⟨#[98]⟩ : ByteArray), (⟨#[97, 98, 99]⟩ : ByteArray), (⟨#[108, 97, 121, 101, 114]⟩ : ByteArray), (⟨#[99, 111, 110, 102, 105, 103]⟩ : ByteArray), (⟨#[122, 122, 57]⟩ : ByteArray), (⟨#[48]⟩ : ByteArray)] : List ByteArray) t1.1), t1.2)
def f64.o (o0_0 : List Int) (o0_1 : Int) : (ByteArray × Int) → V El × List (O El) := fun r => (.s r.1, [.box true true 0 2 true [.sl 0 o0_0 [], .id .i64 0 r.2]])
def sf64 (k : Nat) : List (V G.El) → List (O G.El) → Q G.El (V G.El × List (O G.El)) := fun as0' os0' => lH as0' fun v0 as1' => lT as1' <| lH os0' fun x0 os1' => lT os1' <| argX 2 true x0 fun b1' => argH b1' fun y2' r2' => argH r2' fun y3' r3' => argT r3' <| argL 0 y2' fun o0_0 => argI .i64 y3' fun o0_1 => argV 0 0 v0 <| .call _ (f64 k o0_0 o0_1) fun r => .ret (.s r.1, [.box true true 0 2 true [.sl 0 o0_0 [], .id .i64 0 r.2]])
def f97.start (k : Nat) (o0_0 : List Int) (o0_1 : Int) : PT (Int × ByteArray × ByteArray × ByteArray × Int) Empty := .call _ (f63 k 4 o0_0 o0_1) fun t1 => .need (0 ≤ t1.1) fun h1 => .need (t1.1 < ((4 : Nat) : Int)) fun h2 => .triv (t1.1.toNat < ([(⟨#[108, 111, 103]⟩ : ByteArray), (⟨#[118, 111, 116, 101]⟩ : ByteArray), (⟨#[118, 111, 116, 101, 46, 110, 101, 119]⟩ : ByteArray), (⟨#[98]⟩ : ByteArray)] : List ByteArray).length) tv <| .call _ (f63 k 5 o0_0 t1.2) fun t2 => .ite (t2.1 = 0) (fun h3 => .call _ (f63 k 3 o0_0 t2.2) fun t3 => .need (0 ≤ t3.1) fun h4 => .need (t3.1 < ((3 : Nat) : Int)) fun h5 => .triv (t3.1.toNat < ([(⟨#[108, 111, 103]⟩ : ByteArray), (⟨#[118, 111, 116, 101]⟩ : ByteArray), (⟨#[99]⟩ : ByteArray)] : List ByteArray).length) tv <| .ret (2, (at' ([(⟨#[108, 111, 103]⟩ : ByteArray), (⟨#[118, 111, 116, 101]⟩ : ByteArray), (⟨#[118, 111, 116, 101, 46, 110, 101, 119]⟩ : ByteArray), (⟨#[98]⟩ : ByteArray)] : List ByteArray) t1.1), (at' ([(⟨#[108, 111, 103]⟩ : ByteArray), (⟨#[118, 111, 116, 101]⟩ : ByteArray), (⟨#[99]⟩ : ByteArray)] : List ByteArray) t3.1), (⟨#[]⟩ : ByteArray), t3.2)) (fun h3 => .ite (t2.1 = 1) (fun h6 => .ret (3, (at' ([(⟨#[108, 111, 103]⟩ : ByteArray), (⟨#[118, 111, 116, 101]⟩ : ByteArray), (⟨#[118, 111, 116, 101, 46, 110, 101, 119]⟩ : ByteArray), (⟨#[98]⟩ : ByteArray)] : List ByteArray) t1.1), (⟨#[]⟩ : ByteArray), (⟨#[]⟩ : ByteArray), t2.2)) (fun h6 => .call _ (f64 k o0_0 t2.2) fun t4 => .ret (1, (at' ([(⟨#[108, 111, 103]⟩ : ByteArray), (⟨#[118, 111, 116, 101]⟩ : ByteArray), (⟨#[118, 111, 116, 101, 46, 110, 101, 119]⟩ : ByteArray), (⟨#[98]⟩ : ByteArray)] : List ByteArray) t1.1), (⟨#[]⟩ : ByteArray), t4.1, t4.2)))
def f97.o (o0_0 : List Int) (o0_1 : Int) : (Int × ByteArray × ByteArray × ByteArray × Int) → V El × List (O El) := fun r => (.agg [.id .i64 0 r.1, .s r.2.1, .s r.2.2.1, .s r.2.2.2.1], [.box true true 0 2 true [.sl 0 o0_0 [], .id .i64 0 r.2.2.2.2]])
def sf97 (k : Nat) : List (V G.El) → List (O G.El) → Q G.El (V G.El × List (O G.El)) := fun as0' os0' => lH as0' fun v0 as1' => lT as1' <| lH os0' fun x0 os1' => lT os1' <| argX 2 true x0 fun b1' => argH b1' fun y2' r2' => argH r2' fun y3' r3' => argT r3' <| argL 0 y2' fun o0_0 => argI .i64 y3' fun o0_1 => argV 0 0 v0 <| .call _ (f97 k o0_0 o0_1) fun r => .ret (.agg [.id .i64 0 r.1, .s r.2.1, .s r.2.2.1, .s r.2.2.2.1], [.box true true 0 2 true [.sl 0 o0_0 [], .id .i64 0 r.2.2.2.2]])
def f66.start (k : Nat) (a0_0 : List S80) (a0_1 : List S80) (a0_2 : List S73) : PT ((List S80) × (List S80) × (List S73)) Empty := .triv (0 = ([] : List S80).length) tv <| .need (a0_0.length * 32 ≤ 70368744177664) fun h1 => .need (a0_0.length ≤ 70368744177664) fun h2 => .triv (0 = ([] : List S80).length) tv <| .need (a0_1.length * 32 ≤ 70368744177664) fun h3 => .need (a0_1.length ≤ 70368744177664) fun h4 => .triv (0 = ([] : List S73).length) tv <| .need (a0_2.length * 56 ≤ 70368744177664) fun h5 => .need (a0_2.length ≤ 70368744177664) fun h6 => .triv (a0_0.length = a0_0.length) rfl <| .triv (a0_1.length = a0_1.length) rfl <| .triv (a0_2.length = a0_2.length) rfl <| .ret (a0_0, a0_1, a0_2)
def f66.o (a0_0 : List S80) (a0_1 : List S80) (a0_2 : List S73) : ((List S80) × (List S80) × (List S73)) → V El × List (O El) := fun r => (.agg [.win 0 true (.l 0) (.d 0 r.1.length), .win 1 true (.l 0) (.d 0 r.2.1.length), .win 2 true (.l 0) (.d 0 r.2.2.length)], [.row true true true 0 1 r.1 none, .row true true true 0 1 r.2.1 none, .row true true true 0 2 r.2.2 none])
def sf66 (k : Nat) : List (V G.El) → List (O G.El) → Q G.El (V G.El × List (O G.El)) := fun as0' os0' => lH as0' fun v0 as1' => lT as1' <| lT os0' <| argA v0 fun b1' => argH b1' fun y2' r2' => argH r2' fun y3' r3' => argH r3' fun y4' r4' => argT r4' <| argL 1 y2' fun a0_0 => argL 1 y3' fun a0_1 => argL 2 y4' fun a0_2 => .call _ (f66 k a0_0 a0_1 a0_2) fun r => .ret (.agg [.win 0 true (.l 0) (.d 0 r.1.length), .win 1 true (.l 0) (.d 0 r.2.1.length), .win 2 true (.l 0) (.d 0 r.2.2.length)], [.row true true true 0 1 r.1 none, .row true true true 0 1 r.2.1 none, .row true true true 0 2 r.2.2 none])
def f65.start (k : Nat) (a0_0 : List S80) (a0_1 : List S80) (a0_2 : List S73) (a1_0 : Int) (a1_1 : ByteArray) (a1_2 : ByteArray) (a1_3 : ByteArray) : PT (Int × (List S80) × (List S80) × (List S73)) Empty := .call _ (f45 k a1_0 a1_1 a1_2 a1_3) fun t1 => .ite (t1 = true) (fun h1 => .call _ (f44 k a0_0 a1_0 a1_1 a1_2 a1_3) fun t2 => .ite (t2.1 = true) (fun h2 => .ite (((a0_2.length : Nat) : Int) = 200) (fun h3 => .triv (((a0_2.length : Nat) : Int) = 200) h3 <| .triv (((a0_2.length : Nat) : Int) = 200) h3 <| .triv (((a0_2.length : Nat) : Int) = 200) h3 <| .call _ (f66 k a0_0 a0_1 a0_2) fun t3 => .triv (t3.1.length = t3.1.length) rfl <| .triv (t3.2.1.length = t3.2.1.length) rfl <| .triv (t3.2.2.length = t3.2.2.length) rfl <| .ret (4, t3.1, t3.2.1, t3.2.2)) (fun h3 => .triv (¬ (((a0_2.length : Nat) : Int) = 200)) h3 <| .triv (t2.2.length = t2.2.length) rfl <| .call _ (f43 k t2.2) fun t4 => .triv (¬ (((a0_2.length : Nat) : Int) = 200)) h3 <| .triv (¬ (((a0_2.length : Nat) : Int) = 200)) h3 <| .ite (t4 = true) (fun h4 => .call _ (f66 k a0_0 a0_1 a0_2) fun t5 => .triv (1 = ([(⟨a1_0, a1_1, a1_2, a1_3⟩ : S73)] : List S73).length) tv <| .triv (t5.2.2.length = t5.2.2.length) rfl <| .need ((t5.2.2.length + 1) * 56 ≤ 70368744177664) fun h5 => .need ((t5.2.2.length + 1) ≤ 70368744177664) fun h6 => .triv (t2.2.length = t2.2.length) rfl <| .triv (t5.2.1.length = t5.2.1.length) rfl <| .triv ((t5.2.2.length + 1) = (t5.2.2 ++ ([(⟨a1_0, a1_1, a1_2, a1_3⟩ : S73)] : List S73)).length) tv <| .ret (0, t2.2, t5.2.1, (t5.2.2 ++ ([(⟨a1_0, a1_1, a1_2, a1_3⟩ : S73)] : List S73)))) (fun h4 => .call _ (f66 k a0_0 a0_1 a0_2) fun t6 => .triv (t6.1.length = t6.1.length) rfl <| .triv (t6.2.1.length = t6.2.1.length) rfl <| .triv (t6.2.2.length = t6.2.2.length) rfl <| .ret (4, t6.1, t6.2.1, t6.2.2)))) (fun h2 => .call _ (f66 k a0_0 a0_1 a0_2) fun t7 => .triv (t7.1.length = t7.1.length) rfl <| .triv (t7.2.1.length = t7.2.1.length) rfl <| .triv (t7.2.2.length = t7.2.2.length) rfl <| .ret (3, t7.1, t7.2.1, t7.2.2))) (fun h1 => .call _ (f66 k a0_0 a0_1 a0_2) fun t8 => .triv (t8.1.length = t8.1.length) rfl <| .triv (t8.2.1.length = t8.2.1.length) rfl <| .triv (t8.2.2.length = t8.2.2.length) rfl <| .ret (2, t8.1, t8.2.1, t8.2.2))
def f65.o (a0_0 : List S80) (a0_1 : List S80) (a0_2 : List S73) (a1_0 : Int) (a1_1 : ByteArray) (a1_2 : ByteArray) (a1_3 : ByteArray) : (Int × (List S80) × (List S80) × (List S73)) → V El × List (O El) := fun r => (.tup [.agg [.win 0 true (.l 0) (.d 0 r.2.1.length), .win 1 true (.l 0) (.d 0 r.2.2.1.length), .win 2 true (.l 0) (.d 0 r.2.2.2.length)], .id .i64 0 r.1], [.row true true true 0 1 r.2.1 none, .row true true true 0 1 r.2.2.1 none, .row true true true 0 2 r.2.2.2 none])
def sf65 (k : Nat) : List (V G.El) → List (O G.El) → Q G.El (V G.El × List (O G.El)) := fun as0' os0' => lH as0' fun v0 as1' => lH as1' fun v1 as2' => lT as2' <| lT os0' <| argA v0 fun b1' => argH b1' fun y2' r2' => argH r2' fun y3' r3' => argH r3' fun y4' r4' => argT r4' <| argL 1 y2' fun a0_0 => argL 1 y3' fun a0_1 => argL 2 y4' fun a0_2 => argA v1 fun b5' => argH b5' fun y6' r6' => argH r6' fun y7' r7' => argH r7' fun y8' r8' => argH r8' fun y9' r9' => argT r9' <| argI .i64 y6' fun a1_0 => argS y7' fun a1_1 => argS y8' fun a1_2 => argS y9' fun a1_3 => .call _ (f65 k a0_0 a0_1 a0_2 a1_0 a1_1 a1_2 a1_3) fun r => .ret (.tup [.agg [.win 0 true (.l 0) (.d 0 r.2.1.length), .win 1 true (.l 0) (.d 0 r.2.2.1.length), .win 2 true (.l 0) (.d 0 r.2.2.2.length)], .id .i64 0 r.1], [.row true true true 0 1 r.2.1 none, .row true true true 0 1 r.2.2.1 none, .row true true true 0 2 r.2.2.2 none])
def f96.start (k : Nat) (a0_0 : List S80) (a0_1 : List S80) (a0_2 : List S73) (a1_0 : Int) (a1_1 : ByteArray) (a1_2 : ByteArray) (a1_3 : ByteArray) : PT (Int × (List S80) × (List S80) × (List S73)) Empty := .call _ (f13 k a0_0 a0_1 a0_2) fun t1 => .ite (t1 = true) (fun h1 => .call _ (f65 k a0_0 a0_1 a0_2 a1_0 a1_1 a1_2 a1_3) fun t2 => .triv (t2.2.1.length = t2.2.1.length) rfl <| .triv (t2.2.2.1.length = t2.2.2.1.length) rfl <| .triv (t2.2.2.2.length = t2.2.2.2.length) rfl <| .ret (t2.1, t2.2.1, t2.2.2.1, t2.2.2.2)) (fun h1 => .triv (0 = ([] : List S80).length) tv <| .triv (0 = ([] : List S80).length) tv <| .triv (0 = ([] : List S73).length) tv <| .ret (1, ([] : List S80), ([] : List S80), ([] : List S73)))
def f96.o (a0_0 : List S80) (a0_1 : List S80) (a0_2 : List S73) (a1_0 : Int) (a1_1 : ByteArray) (a1_2 : ByteArray) (a1_3 : ByteArray) : (Int × (List S80) × (List S80) × (List S73)) → V El × List (O El) := fun r => (.tup [.agg [.win 0 true (.l 0) (.d 0 r.2.1.length), .win 1 true (.l 0) (.d 0 r.2.2.1.length), .win 2 true (.l 0) (.d 0 r.2.2.2.length)], .id .i64 0 r.1], [.row true true true 0 1 r.2.1 none, .row true true true 0 1 r.2.2.1 none, .row true true true 0 2 r.2.2.2 none])
def sf96 (k : Nat) : List (V G.El) → List (O G.El) → Q G.El (V G.El × List (O G.El)) := fun as0' os0' => lH as0' fun v0 as1' => lH as1' fun v1 as2' => lT as2' <| lT os0' <| argA v0 fun b1' => argH b1' fun y2' r2' => argH r2' fun y3' r3' => argH r3' fun y4' r4' => argT r4' <| argL 1 y2' fun a0_0 => argL 1 y3' fun a0_1 => argL 2 y4' fun a0_2 => argA v1 fun b5' => argH b5' fun y6' r6' => argH r6' fun y7' r7' => argH r7' fun y8' r8' => argH r8' fun y9' r9' => argT r9' <| argI .i64 y6' fun a1_0 => argS y7' fun a1_1 => argS y8' fun a1_2 => argS y9' fun a1_3 => .call _ (f96 k a0_0 a0_1 a0_2 a1_0 a1_1 a1_2 a1_3) fun r => .ret (.tup [.agg [.win 0 true (.l 0) (.d 0 r.2.1.length), .win 1 true (.l 0) (.d 0 r.2.2.1.length), .win 2 true (.l 0) (.d 0 r.2.2.2.length)], .id .i64 0 r.1], [.row true true true 0 1 r.2.1 none, .row true true true 0 1 r.2.2.1 none, .row true true true 0 2 r.2.2.2 none])
inductive f55.L where
  | l3 (x4 : Int) (b0_0 : List Int) (b0_1 : Int)
  | l3v1 (q3 : List S80) (q4 : List S80) (q5 : List S73) (x4 : Int) (b0_0 : List Int) (b0_1 : Int)
def f55.st : f55.L → Nat × S El
  | .l3 x4 b0_0 b0_1 => (3, ⟨62, .dead, [(0, .ptr 0 (.l 0) 0), (2, .ptr 1 (.l 0) 0), (3, .ptr 2 (.l 0) 0), (4, .id .i64 5 x4)], [(0, .box true true 0 2 true [.sl 0 b0_0 [], .id .i64 50001 b0_1]), (1, .box true true 0 3 true [.nil, .nil, .nil]), (2, .box true true 0 3 true [.nil, .nil, .nil])], 3, 1⟩)
  | .l3v1 q3 q4 q5 x4 b0_0 b0_1 => (3, ⟨62, .dead, [(0, .ptr 0 (.l 0) 0), (2, .ptr 1 (.l 0) 0), (3, .ptr 2 (.l 0) 0), (4, .id .i64 5 x4)], [(0, .box true true 0 2 true [.sl 0 b0_0 [], .id .i64 50001 b0_1]), (1, .box true true 0 3 true [.nil, .nil, .nil]), (2, .box true true 0 3 true [.win 3 true (.l 0) (.d 0 q3.length), .win 4 true (.l 0) (.d 0 q4.length), .win 5 true (.l 0) (.d 0 q5.length)]), (3, .row true true true 0 1 q3 none), (4, .row true true true 0 1 q4 none), (5, .row true true true 0 2 q5 none)], 6, 1⟩)
def f55.hint : f55.L → H
  | .l3 .. => .all
  | .l3v1 .. => .all
def f55.blk (k : Nat) : f55.L → PT ((List S80) × (List S80) × (List S73) × (List Int) × Int) f55.L
  | .l3 x4 b0_0 b0_1 => .ite (0 < x4) (fun h1 => .call _ (f56 k 5 b0_0 b0_1) fun t2 => .ite (t2.1 = true) (fun h2 => .call _ (f28 k ([] : List S80) ([] : List S80) ([] : List S73)) fun t3 => .triv (t3.1.length = t3.1.length) rfl <| .triv (t3.2.1.length = t3.2.1.length) rfl <| .triv (t3.2.2.length = t3.2.2.length) rfl <| .jump (.l3v1 t3.1 t3.2.1 t3.2.2 (IntKind.i64.wrap (x4 - 1)) b0_0 t2.2)) (fun h2 => .call _ (f97 k b0_0 t2.2) fun t10 => .call _ (f96 k ([] : List S80) ([] : List S80) ([] : List S73) t10.1 t10.2.1 t10.2.2.1 t10.2.2.2.1) fun t11 => .ite (t11.1 = 0) (fun h17 => .triv (t11.2.1.length = t11.2.1.length) rfl <| .triv (t11.2.2.1.length = t11.2.2.1.length) rfl <| .triv (t11.2.2.2.length = t11.2.2.2.length) rfl <| .jump (.l3v1 t11.2.1 t11.2.2.1 t11.2.2.2 (IntKind.i64.wrap (x4 - 1)) b0_0 t10.2.2.2.2)) (fun h17 => .jump (.l3 (IntKind.i64.wrap (x4 - 1)) b0_0 t10.2.2.2.2)))) (fun h1 => .call _ (f63 k 40 b0_0 b0_1) fun t12 => .ite (t12.1 = 0) (fun h18 => .triv (1 = ([(⟨(⟨#[122, 122]⟩ : ByteArray), (⟨#[]⟩ : ByteArray)⟩ : S80)] : List S80).length) tv <| .triv (1 = ([(⟨(⟨#[122, 122]⟩ : ByteArray), (⟨#[]⟩ : ByteArray)⟩ : S80)] : List S80).length) tv <| .ret (([(⟨(⟨#[122, 122]⟩ : ByteArray), (⟨#[]⟩ : ByteArray)⟩ : S80)] : List S80), ([] : List S80), ([] : List S73), b0_0, t12.2)) (fun h18 => .ite (t12.1 = 1) (fun h19 => .ret (([] : List S80), ([] : List S80), ([] : List S73), b0_0, t12.2)) (fun h19 => .ite (t12.1 = 2) (fun h20 => .call _ (f63 k 9 b0_0 t12.2) fun t13 => .need (0 ≤ (IntKind.i64.wrap (200000 - t13.1))) fun h21 => .need ((IntKind.i64.wrap (200000 - t13.1)) ≤ (IntKind.i64.wrap (200000 - t13.1))) fun h22 => .need ((IntKind.i64.wrap (200000 - t13.1)) * 1 ≤ 70368744177664) fun h23 => .need ((IntKind.i64.wrap (200000 - t13.1)) ≤ 70368744177664) fun h24 => .triv ((IntKind.i64.wrap (200000 - t13.1)).toNat = (List.replicate ((IntKind.i64.wrap (200000 - t13.1)).toNat) (0 : Int)).length) tv <| .triv (1 = ([(⟨(⟨#[98, 105, 103]⟩ : ByteArray), (strOf (List.replicate ((IntKind.i64.wrap (200000 - t13.1)).toNat) (0 : Int)))⟩ : S80)] : List S80).length) tv <| .triv (1 = ([(⟨(⟨#[98, 105, 103]⟩ : ByteArray), (strOf (List.replicate ((IntKind.i64.wrap (200000 - t13.1)).toNat) (0 : Int)))⟩ : S80)] : List S80).length) tv <| .ret (([(⟨(⟨#[98, 105, 103]⟩ : ByteArray), (strOf (List.replicate ((IntKind.i64.wrap (200000 - t13.1)).toNat) (0 : Int)))⟩ : S80)] : List S80), ([(⟨(⟨#[98, 105, 103]⟩ : ByteArray), (strOf (List.replicate ((IntKind.i64.wrap (200000 - t13.1)).toNat) (0 : Int)))⟩ : S80)] : List S80), ([] : List S73), b0_0, t13.2)) (fun h20 => .ret (([] : List S80), ([] : List S80), ([] : List S73), b0_0, t12.2)))))
  | .l3v1 q3 q4 q5 x4 b0_0 b0_1 => .ite (0 < x4) (fun h3 => .call _ (f56 k 5 b0_0 b0_1) fun t4 => .ite (t4.1 = true) (fun h4 => .triv (q3.length = q3.length) rfl <| .triv (q4.length = q4.length) rfl <| .triv (q5.length = q5.length) rfl <| .call _ (f28 k q3 q4 q5) fun t5 => .triv (t5.1.length = t5.1.length) rfl <| .triv (t5.2.1.length = t5.2.1.length) rfl <| .triv (t5.2.2.length = t5.2.2.length) rfl <| .jump (.l3v1 t5.1 t5.2.1 t5.2.2 (IntKind.i64.wrap (x4 - 1)) b0_0 t4.2)) (fun h4 => .call _ (f97 k b0_0 t4.2) fun t6 => .triv (q3.length = q3.length) rfl <| .triv (q4.length = q4.length) rfl <| .triv (q5.length = q5.length) rfl <| .call _ (f96 k q3 q4 q5 t6.1 t6.2.1 t6.2.2.1 t6.2.2.2.1) fun t7 => .ite (t7.1 = 0) (fun h5 => .triv (t7.2.1.length = t7.2.1.length) rfl <| .triv (t7.2.2.1.length = t7.2.2.1.length) rfl <| .triv (t7.2.2.2.length = t7.2.2.2.length) rfl <| .jump (.l3v1 t7.2.1 t7.2.2.1 t7.2.2.2 (IntKind.i64.wrap (x4 - 1)) b0_0 t6.2.2.2.2)) (fun h5 => .triv (q3.length = q3.length) rfl <| .triv (q4.length = q4.length) rfl <| .triv (q5.length = q5.length) rfl <| .jump (.l3v1 q3 q4 q5 (IntKind.i64.wrap (x4 - 1)) b0_0 t6.2.2.2.2)))) (fun h3 => .call _ (f63 k 40 b0_0 b0_1) fun t8 => .ite (t8.1 = 0) (fun h6 => .triv (1 = ([(⟨(⟨#[122, 122]⟩ : ByteArray), (⟨#[]⟩ : ByteArray)⟩ : S80)] : List S80).length) tv <| .triv (q3.length = q3.length) rfl <| .need ((q3.length + 1) * 32 ≤ 70368744177664) fun h7 => .need ((q3.length + 1) ≤ 70368744177664) fun h8 => .triv ((q3.length + 1) = (q3 ++ ([(⟨(⟨#[122, 122]⟩ : ByteArray), (⟨#[]⟩ : ByteArray)⟩ : S80)] : List S80)).length) tv <| .triv (q4.length = q4.length) rfl <| .triv (q5.length = q5.length) rfl <| .ret ((q3 ++ ([(⟨(⟨#[122, 122]⟩ : ByteArray), (⟨#[]⟩ : ByteArray)⟩ : S80)] : List S80)), q4, q5, b0_0, t8.2)) (fun h6 => .ite (t8.1 = 1) (fun h9 => .ite (0 < ((q5.length : Nat) : Int)) (fun h10 => .need' (1 ≤ ((q5.length : Nat) : Int)) (1 ≤ q5.length) tv fun h11 => .triv (q3.length = q3.length) rfl <| .triv (q4.length = q4.length) rfl <| .triv (1 + (q5.length - 1) ≤ q5.length) tv <| .ret (q3, q4, ((q5.drop 1).take (q5.length - 1)), b0_0, t8.2)) (fun h10 => .triv (q3.length = q3.length) rfl <| .triv (q4.length = q4.length) rfl <| .triv (q5.length = q5.length) rfl <| .ret (q3, q4, q5, b0_0, t8.2))) (fun h9 => .ite (t8.1 = 2) (fun h12 => .call _ (f63 k 9 b0_0 t8.2) fun t9 => .need (0 ≤ (IntKind.i64.wrap (200000 - t9.1))) fun h13 => .need ((IntKind.i64.wrap (200000 - t9.1)) ≤ (IntKind.i64.wrap (200000 - t9.1))) fun h14 => .need ((IntKind.i64.wrap (200000 - t9.1)) * 1 ≤ 70368744177664) fun h15 => .need ((IntKind.i64.wrap (200000 - t9.1)) ≤ 70368744177664) fun h16 => .triv ((IntKind.i64.wrap (200000 - t9.1)).toNat = (List.replicate ((IntKind.i64.wrap (200000 - t9.1)).toNat) (0 : Int)).length) tv <| .triv (1 = ([(⟨(⟨#[98, 105, 103]⟩ : ByteArray), (strOf (List.replicate ((IntKind.i64.wrap (200000 - t9.1)).toNat) (0 : Int)))⟩ : S80)] : List S80).length) tv <| .triv (1 = ([(⟨(⟨#[98, 105, 103]⟩ : ByteArray), (strOf (List.replicate ((IntKind.i64.wrap (200000 - t9.1)).toNat) (0 : Int)))⟩ : S80)] : List S80).length) tv <| .ret (([(⟨(⟨#[98, 105, 103]⟩ : ByteArray), (strOf (List.replicate ((IntKind.i64.wrap (200000 - t9.1)).toNat) (0 : Int)))⟩ : S80)] : List S80), ([(⟨(⟨#[98, 105, 103]⟩ : ByteArray), (strOf (List.replicate ((IntKind.i64.wrap (200000 - t9.1)).toNat) (0 : Int)))⟩ : S80)] : List S80), ([] : List S73), b0_0, t9.2)) (fun h12 => .triv (q3.length = q3.length) rfl <| .triv (q4.length = q4.length) rfl <| .triv (q5.length = q5.length) rfl <| .ret (q3, q4, q5, b0_0, t8.2)))))
def f55.D (k : Nat) : f55.L → Option ((List S80) × (List S80) × (List S73) × (List Int) × Int)
  | .l3 x4 b0_0 b0_1 => f55.l3 k x4 b0_0 b0_1
  | .l3v1 q3 q4 q5 x4 b0_0 b0_1 => f55.l3v1 k q3 q4 q5 x4 b0_0 b0_1
def f55.start (k : Nat) (o0_0 : List Int) (o0_1 : Int) : PT ((List S80) × (List S80) × (List S73) × (List Int) × Int) f55.L := .call _ (f95 k 3 10 o0_0 o0_1) fun t1 => .jump (.l3 t1.1 o0_0 t1.2)
def f55.o (o0_0 : List Int) (o0_1 : Int) : ((List S80) × (List S80) × (List S73) × (List Int) × Int) → V El × List (O El) := fun r => (.agg [.sl 1 r.1 [], .sl 1 r.2.1 [], .sl 2 r.2.2.1 []], [.box true true 0 2 true [.sl 0 r.2.2.2.1 [], .id .i64 0 r.2.2.2.2]])
def sf55 (k : Nat) : List (V G.El) → List (O G.El) → Q G.El (V G.El × List (O G.El)) := fun as0' os0' => lH as0' fun v0 as1' => lT as1' <| lH os0' fun x0 os1' => lT os1' <| argX 2 true x0 fun b1' => argH b1' fun y2' r2' => argH r2' fun y3' r3' => argT r3' <| argL 0 y2' fun o0_0 => argI .i64 y3' fun o0_1 => argV 0 0 v0 <| .call _ (f55 k o0_0 o0_1) fun r => .ret (.agg [.sl 1 r.1 [], .sl 1 r.2.1 [], .sl 2 r.2.2.1 []], [.box true true 0 2 true [.sl 0 r.2.2.2.1 [], .id .i64 0 r.2.2.2.2]])
def f25.start (k : Nat) (a0_0 : List Int) : PT ((List S80) × (List S80) × (List S73) × ByteArray × ByteArray) Empty := .call _ (f54 k a0_0) fun t1 => .call _ (f55 k t1.1 t1.2) fun t2 => .call _ (f63 k 4 t2.2.2.2.1 t2.2.2.2.2) fun t3 => .need (0 ≤ t3.1) fun h1 => .need (t3.1 < ((4 : Nat) : Int)) fun h2 => .triv (t3.1.toNat < ([(⟨#[118, 111, 116, 101]⟩ : ByteArray), (⟨#[108, 111, 103]⟩ : ByteArray), (⟨#[118, 111, 116, 101]⟩ : ByteArray), (⟨#[]⟩ : ByteArray)] : List ByteArray).length) tv <| .call _ (f56 k 12 t2.2.2.2.1 t3.2) fun t4 => .ite (t4.1 = true) (fun h3 => .call _ (f63 k 4 t2.2.2.2.1 t4.2) fun t5 => .need (0 ≤ (IntKind.i64.wrap (95 + t5.1))) fun h4 => .need ((IntKind.i64.wrap (95 + t5.1)) ≤ (IntKind.i64.wrap (95 + t5.1))) fun h5 => .need ((IntKind.i64.wrap (95 + t5.1)) * 1 ≤ 70368744177664) fun h6 => .need ((IntKind.i64.wrap (95 + t5.1)) ≤ 70368744177664) fun h7 => .triv ((IntKind.i64.wrap (95 + t5.1)).toNat = (List.replicate ((IntKind.i64.wrap (95 + t5.1)).toNat) (0 : Int)).length) tv <| .call _ (f64 k t2.2.2.2.1 t5.2) fun t6 => .ret (t2.1, t2.2.1, t2.2.2.1, (strOf (List.replicate ((IntKind.i64.wrap (95 + t5.1)).toNat) (0 : Int))), t6.1)) (fun h3 => .call _ (f64 k t2.2.2.2.1 t4.2) fun t7 => .ret (t2.1, t2.2.1, t2.2.2.1, (at' ([(⟨#[118, 111, 116, 101]⟩ : ByteArray), (⟨#[108, 111, 103]⟩ : ByteArray), (⟨#[118, 111, 116, 101]⟩ : ByteArray), (⟨#[]⟩ : ByteArray)] : List ByteArray) t3.1), t7.1))
def f25.o (a0_0 : List Int) : ((List S80) × (List S80) × (List S73) × ByteArray × ByteArray) → V El × List (O El) := fun r => (.tup [.agg [.sl 1 r.1 [], .sl 1 r.2.1 [], .sl 2 r.2.2.1 []], .s r.2.2.2.1, .s r.2.2.2.2], [])
def sf25 (k : Nat) : List (V G.El) → List (O G.El) → Q G.El (V G.El × List (O G.El)) := fun as0' os0' => lH as0' fun v0 as1' => lT as1' <| lT os0' <| argL 0 v0 fun a0_0 => .call _ (f25 k a0_0) fun r => .ret (.tup [.agg [.sl 1 r.1 [], .sl 1 r.2.1 [], .sl 2 r.2.2.1 []], .s r.2.2.2.1, .s r.2.2.2.2], [])
def f26.start (k : Nat) (a0_0 : List S80) (a0_1 : List S80) (a0_2 : List S73) (a1_0 : ByteArray) (a2_0 : ByteArray) : PT (Int × (List S80) × (List S80) × (List S73)) Empty := .call _ (f13 k a0_0 a0_1 a0_2) fun t1 => .ite (t1 = true) (fun h1 => .need' (a1_0.size + 4 ≤ 9223372036854775807) (a1_0.size + (⟨#[46, 110, 101, 119]⟩ : ByteArray).size ≤ 9223372036854775807) tv fun h2 => .call _ (f52 k a0_0 (a1_0 ++ (⟨#[46, 110, 101, 119]⟩ : ByteArray))) fun t2 => .ite (0 ≤ t2) (fun h3 => .call _ (f65 k a0_0 a0_1 a0_2 3 (a1_0 ++ (⟨#[46, 110, 101, 119]⟩ : ByteArray)) (⟨#[]⟩ : ByteArray) (⟨#[]⟩ : ByteArray)) fun t3 => .ite (t3.1 = 0) (fun h4 => .triv (t3.2.1.length = t3.2.1.length) rfl <| .triv (t3.2.2.1.length = t3.2.2.1.length) rfl <| .triv (t3.2.2.2.length = t3.2.2.2.length) rfl <| .call _ (f65 k t3.2.1 t3.2.2.1 t3.2.2.2 1 (a1_0 ++ (⟨#[46, 110, 101, 119]⟩ : ByteArray)) (⟨#[]⟩ : ByteArray) a2_0) fun t4 => .ite (t4.1 = 0) (fun h5 => .triv (t4.2.1.length = t4.2.1.length) rfl <| .triv (t4.2.2.1.length = t4.2.2.1.length) rfl <| .triv (t4.2.2.2.length = t4.2.2.2.length) rfl <| .call _ (f65 k t4.2.1 t4.2.2.1 t4.2.2.2 2 (a1_0 ++ (⟨#[46, 110, 101, 119]⟩ : ByteArray)) a1_0 (⟨#[]⟩ : ByteArray)) fun t5 => .ite (t5.1 = 0) (fun h6 => .triv (t5.2.1.length = t5.2.1.length) rfl <| .triv (t5.2.2.1.length = t5.2.2.1.length) rfl <| .triv (t5.2.2.2.length = t5.2.2.2.length) rfl <| .call _ (f66 k t5.2.1 t5.2.2.1 t5.2.2.2) fun t6 => .triv (t6.1.length = t6.1.length) rfl <| .triv (t6.2.1.length = t6.2.1.length) rfl <| .triv (t6.2.2.length = t6.2.2.length) rfl <| .ret (0, t6.1, t6.2.1, t6.2.2)) (fun h6 => .call _ (f66 k a0_0 a0_1 a0_2) fun t7 => .triv (t7.1.length = t7.1.length) rfl <| .triv (t7.2.1.length = t7.2.1.length) rfl <| .triv (t7.2.2.length = t7.2.2.length) rfl <| .ret (t5.1, t7.1, t7.2.1, t7.2.2))) (fun h5 => .triv (¬ (t4.1 = 0)) h5 <| .call _ (f66 k a0_0 a0_1 a0_2) fun t8 => .triv (t8.1.length = t8.1.length) rfl <| .triv (t8.2.1.length = t8.2.1.length) rfl <| .triv (t8.2.2.length = t8.2.2.length) rfl <| .ret (t4.1, t8.1, t8.2.1, t8.2.2))) (fun h4 => .triv (¬ (t3.1 = 0)) h4 <| .triv (¬ (t3.1 = 0)) h4 <| .call _ (f66 k a0_0 a0_1 a0_2) fun t9 => .triv (t9.1.length = t9.1.length) rfl <| .triv (t9.2.1.length = t9.2.1.length) rfl <| .triv (t9.2.2.length = t9.2.2.length) rfl <| .ret (t3.1, t9.1, t9.2.1, t9.2.2))) (fun h3 => .call _ (f65 k a0_0 a0_1 a0_2 1 (a1_0 ++ (⟨#[46, 110, 101, 119]⟩ : ByteArray)) (⟨#[]⟩ : ByteArray) a2_0) fun t10 => .ite (t10.1 = 0) (fun h7 => .triv (t10.2.1.length = t10.2.1.length) rfl <| .triv (t10.2.2.1.length = t10.2.2.1.length) rfl <| .triv (t10.2.2.2.length = t10.2.2.2.length) rfl <| .call _ (f65 k t10.2.1 t10.2.2.1 t10.2.2.2 2 (a1_0 ++ (⟨#[46, 110, 101, 119]⟩ : ByteArray)) a1_0 (⟨#[]⟩ : ByteArray)) fun t11 => .ite (t11.1 = 0) (fun h8 => .triv (t11.2.1.length = t11.2.1.length) rfl <| .triv (t11.2.2.1.length = t11.2.2.1.length) rfl <| .triv (t11.2.2.2.length = t11.2.2.2.length) rfl <| .call _ (f66 k t11.2.1 t11.2.2.1 t11.2.2.2) fun t12 => .triv (t12.1.length = t12.1.length) rfl <| .triv (t12.2.1.length = t12.2.1.length) rfl <| .triv (t12.2.2.length = t12.2.2.length) rfl <| .ret (0, t12.1, t12.2.1, t12.2.2)) (fun h8 => .call _ (f66 k a0_0 a0_1 a0_2) fun t13 => .triv (t13.1.length = t13.1.length) rfl <| .triv (t13.2.1.length = t13.2.1.length) rfl <| .triv (t13.2.2.length = t13.2.2.length) rfl <| .ret (t11.1, t13.1, t13.2.1, t13.2.2))) (fun h7 => .triv (¬ (t10.1 = 0)) h7 <| .call _ (f66 k a0_0 a0_1 a0_2) fun t14 => .triv (t14.1.length = t14.1.length) rfl <| .triv (t14.2.1.length = t14.2.1.length) rfl <| .triv (t14.2.2.length = t14.2.2.length) rfl <| .ret (t10.1, t14.1, t14.2.1, t14.2.2)))) (fun h1 => .triv (0 = ([] : List S80).length) tv <| .triv (0 = ([] : List S80).length) tv <| .triv (0 = ([] : List S73).length) tv <| .ret (1, ([] : List S80), ([] : List S80), ([] : List S73)))
def f26.o (a0_0 : List S80) (a0_1 : List S80) (a0_2 : List S73) (a1_0 : ByteArray) (a2_0 : ByteArray) : (Int × (List S80) × (List S80) × (List S73)) → V El × List (O El) := fun r => (.tup [.agg [.win 0 true (.l 0) (.d 0 r.2.1.length), .win 1 true (.l 0) (.d 0 r.2.2.1.length), .win 2 true (.l 0) (.d 0 r.2.2.2.length)], .id .i64 0 r.1], [.row true true true 0 1 r.2.1 none, .row true true true 0 1 r.2.2.1 none, .row true true true 0 2 r.2.2.2 none])
def sf26 (k : Nat) : List (V G.El) → List (O G.El) → Q G.El (V G.El × List (O G.El)) := fun as0' os0' => lH as0' fun v0 as1' => lH as1' fun v1 as2' => lH as2' fun v2 as3' => lT as3' <| lT os0' <| argA v0 fun b1' => argH b1' fun y2' r2' => argH r2' fun y3' r3' => argH r3' fun y4' r4' => argT r4' <| argL 1 y2' fun a0_0 => argL 1 y3' fun a0_1 => argL 2 y4' fun a0_2 => argS v1 fun a1_0 => argS v2 fun a2_0 => .call _ (f26 k a0_0 a0_1 a0_2 a1_0 a2_0) fun r => .ret (.tup [.agg [.win 0 true (.l 0) (.d 0 r.2.1.length), .win 1 true (.l 0) (.d 0 r.2.2.1.length), .win 2 true (.l 0) (.d 0 r.2.2.2.length)], .id .i64 0 r.1], [.row true true true 0 1 r.2.1 none, .row true true true 0 1 r.2.2.1 none, .row true true true 0 2 r.2.2.2 none])
def f101.start (k : Nat) (a0_0 : ByteArray) : PT (Bool) Empty := .ite (1 ≤ ((a0_0.size : Nat) : Int)) (fun h1 => .triv (1 ≤ ((a0_0.size : Nat) : Int)) h1 <| .triv (1 ≤ ((a0_0.size : Nat) : Int)) h1 <| .triv (1 ≤ ((a0_0.size : Nat) : Int)) h1 <| .ret (decide (((a0_0.size : Nat) : Int) ≤ 100))) (fun h1 => .triv (¬ (1 ≤ ((a0_0.size : Nat) : Int))) h1 <| .triv (¬ (1 ≤ ((a0_0.size : Nat) : Int))) h1 <| .triv (¬ (1 ≤ ((a0_0.size : Nat) : Int))) h1 <| .ret false)
def f101.o (a0_0 : ByteArray) : (Bool) → V El × List (O El) := fun r => (.bb false r, [])
def sf101 (k : Nat) : List (V G.El) → List (O G.El) → Q G.El (V G.El × List (O G.El)) := fun as0' os0' => lH as0' fun v0 as1' => lT as1' <| lT os0' <| argS v0 fun a0_0 => .call _ (f101 k a0_0) fun r => .ret (.bb false r, [])
inductive f62.L where
  | l3 (x0 : List S80) (x3 : Int) (x6 : List S80) (x7 : Int) (x8 : Int)
def f62.st : f62.L → Nat × S El
  | .l3 x0 x3 x6 x7 x8 => (3, ⟨45, .dead, [(0, .sl 1 x0 []), (3, .id .i64 4 x3), (6, .sl 1 x6 []), (7, .id .i64 8 x7), (8, .id .i64 9 x8)], [], 0, 0⟩)
def f62.hint : f62.L → H
  | .l3 .. => (.both (.skip (.both (.l (.l (.both (.l (.l (.l (.l .all)))) (.r (.r (.both (.l (.l (.l (.l (.l (.l (.l (.l (.r (.l (.r .all))))))))))) (.r (.r (.r (.r (.r (.r (.r (.r (.r (.r (.r .all))))))))))))))))) (.r (.r .all)))) .all)
def f62.blk (k : Nat) : f62.L → PT (Bool) f62.L
  | .l3 x0 x3 x6 x7 x8 => .ite (x8 < x7) (fun h1 => .need (0 ≤ x8) fun h2 => .need (x8 < ((x6.length : Nat) : Int)) fun h3 => .call _ (f101 k ((at' x6 x8).f0)) fun t1 => .ite (t1 = true) (fun h4 => .triv (t1 = true) h4 <| .triv (t1 = true) h4 <| .ite (200000 < (IntKind.i64.wrap (x3 + ((((at' x6 x8).f1).size : Nat) : Int)))) (fun h5 => .triv (200000 < (IntKind.i64.wrap (x3 + ((((at' x6 x8).f1).size : Nat) : Int)))) h5 <| .triv (200000 < (IntKind.i64.wrap (x3 + ((((at' x6 x8).f1).size : Nat) : Int)))) h5 <| .triv (200000 < (IntKind.i64.wrap (x3 + ((((at' x6 x8).f1).size : Nat) : Int)))) h5 <| .triv (200000 < (IntKind.i64.wrap (x3 + ((((at' x6 x8).f1).size : Nat) : Int)))) h5 <| .ret false) (fun h5 => .triv (¬ (200000 < (IntKind.i64.wrap (x3 + ((((at' x6 x8).f1).size : Nat) : Int))))) h5 <| .triv (¬ (200000 < (IntKind.i64.wrap (x3 + ((((at' x6 x8).f1).size : Nat) : Int))))) h5 <| .ite (0 < x8) (fun h6 => .triv (0 < x8) h6 <| .triv (0 < x8) h6 <| .triv (0 < x8) h6 <| .need (0 ≤ (IntKind.i64.wrap (x8 - 1))) fun h7 => .need ((IntKind.i64.wrap (x8 - 1)) < ((x0.length : Nat) : Int)) fun h8 => .triv (0 < x8) h6 <| .triv (0 < x8) h6 <| .triv (0 < x8) h6 <| .triv (0 < x8) h6 <| .triv (0 < x8) h6 <| .triv (¬ (200000 < (IntKind.i64.wrap (x3 + ((((at' x6 x8).f1).size : Nat) : Int))))) h5 <| .triv (0 < x8) h6 <| .triv (¬ (200000 < (IntKind.i64.wrap (x3 + ((((at' x6 x8).f1).size : Nat) : Int))))) h5 <| .ite ((strLt ((at' x0 (IntKind.i64.wrap (x8 - 1))).f0) ((at' x6 x8).f0)) = true) (fun h9 => .jump (.l3 x0 (IntKind.i64.wrap (x3 + ((((at' x6 x8).f1).size : Nat) : Int))) x6 x7 (IntKind.i64.wrap (x8 + 1)))) (fun h9 => .ret false)) (fun h6 => .triv (¬ (0 < x8)) h6 <| .triv (¬ (0 < x8)) h6 <| .triv (¬ (0 < x8)) h6 <| .triv (¬ (0 < x8)) h6 <| .triv (¬ (0 < x8)) h6 <| .triv (¬ (0 < x8)) h6 <| .triv (¬ (0 < x8)) h6 <| .triv (¬ (0 < x8)) h6 <| .triv (¬ (200000 < (IntKind.i64.wrap (x3 + ((((at' x6 x8).f1).size : Nat) : Int))))) h5 <| .triv (¬ (0 < x8)) h6 <| .triv (¬ (200000 < (IntKind.i64.wrap (x3 + ((((at' x6 x8).f1).size : Nat) : Int))))) h5 <| .jump (.l3 x0 (IntKind.i64.wrap (x3 + ((((at' x6 x8).f1).size : Nat) : Int))) x6 x7 (IntKind.i64.wrap (x8 + 1)))))) (fun h4 => .triv (¬ (t1 = true)) h4 <| .triv (¬ (t1 = true)) h4 <| .ret false)) (fun h1 => .ret (decide (((x0.length : Nat) : Int) ≤ 60)))
def f62.D (k : Nat) : f62.L → Option (Bool)
  | .l3 x0 x3 x6 x7 x8 => f62.l3 k x0 x3 x6 x7 x8
def f62.start (k : Nat) (a0_0 : List S80) : PT (Bool) f62.L := .jump (.l3 a0_0 0 a0_0 ((a0_0.length : Nat) : Int) 0)
def f62.o (a0_0 : List S80) : (Bool) → V El × List (O El) := fun r => (.bb false r, [])
def sf62 (k : Nat) : List (V G.El) → List (O G.El) → Q G.El (V G.El × List (O G.El)) := fun as0' os0' => lH as0' fun v0 as1' => lT as1' <| lT os0' <| argL 1 v0 fun a0_0 => .call _ (f62 k a0_0) fun r => .ret (.bb false r, [])
def f89.start (k : Nat) (a0_0 : Int) (a0_1 : ByteArray) (a0_2 : ByteArray) (a0_3 : ByteArray) : PT (Bool) Empty := .ite (a0_0 = 1) (fun h1 => .call _ (f101 k a0_1) fun t1 => .ite (t1 = true) (fun h2 => .triv (t1 = true) h2 <| .triv (t1 = true) h2 <| .triv (t1 = true) h2 <| .ret (strEq a0_2 (⟨#[]⟩ : ByteArray))) (fun h2 => .triv (¬ (t1 = true)) h2 <| .triv (¬ (t1 = true)) h2 <| .triv (¬ (t1 = true)) h2 <| .ret false)) (fun h1 => .ite (a0_0 = 2) (fun h3 => .call _ (f101 k a0_1) fun t2 => .ite (t2 = true) (fun h4 => .triv (t2 = true) h4 <| .triv (t2 = true) h4 <| .call _ (f101 k a0_2) fun t3 => .triv (t2 = true) h4 <| .ite (t3 = true) (fun h5 => .triv (t3 = true) h5 <| .triv (t3 = true) h5 <| .triv (t3 = true) h5 <| .ret (strEq a0_3 (⟨#[]⟩ : ByteArray))) (fun h5 => .triv (¬ (t3 = true)) h5 <| .triv (¬ (t3 = true)) h5 <| .triv (¬ (t3 = true)) h5 <| .ret false)) (fun h4 => .triv (¬ (t2 = true)) h4 <| .triv (¬ (t2 = true)) h4 <| .triv (¬ (t2 = true)) h4 <| .ret false)) (fun h3 => .ite (a0_0 = 3) (fun h6 => .call _ (f101 k a0_1) fun t4 => .ite (t4 = true) (fun h7 => .triv (t4 = true) h7 <| .triv (t4 = true) h7 <| .triv (t4 = true) h7 <| .ite ((strEq a0_2 (⟨#[]⟩ : ByteArray)) = true) (fun h8 => .triv ((strEq a0_2 (⟨#[]⟩ : ByteArray)) = true) h8 <| .triv ((strEq a0_2 (⟨#[]⟩ : ByteArray)) = true) h8 <| .triv ((strEq a0_2 (⟨#[]⟩ : ByteArray)) = true) h8 <| .ret (strEq a0_3 (⟨#[]⟩ : ByteArray))) (fun h8 => .triv (¬ ((strEq a0_2 (⟨#[]⟩ : ByteArray)) = true)) h8 <| .triv (¬ ((strEq a0_2 (⟨#[]⟩ : ByteArray)) = true)) h8 <| .triv (¬ ((strEq a0_2 (⟨#[]⟩ : ByteArray)) = true)) h8 <| .ret false)) (fun h7 => .triv (¬ (t4 = true)) h7 <| .triv (¬ (t4 = true)) h7 <| .triv (¬ (t4 = true)) h7 <| .ret false)) (fun h6 => .ret false)))
def f89.o (a0_0 : Int) (a0_1 : ByteArray) (a0_2 : ByteArray) (a0_3 : ByteArray) : (Bool) → V El × List (O El) := fun r => (.bb false r, [])
def sf89 (k : Nat) : List (V G.El) → List (O G.El) → Q G.El (V G.El × List (O G.El)) := fun as0' os0' => lH as0' fun v0 as1' => lT as1' <| lT os0' <| argA v0 fun b1' => argH b1' fun y2' r2' => argH r2' fun y3' r3' => argH r3' fun y4' r4' => argH r4' fun y5' r5' => argT r5' <| argI .i64 y2' fun a0_0 => argS y3' fun a0_1 => argS y4' fun a0_2 => argS y5' fun a0_3 => .call _ (f89 k a0_0 a0_1 a0_2 a0_3) fun r => .ret (.bb false r, [])
def f94.start (k : Nat) (a0_0 : ByteArray) (a0_1 : ByteArray) (o0_0 : ByteArray) : PT (Bool) Empty := .ret (strEq a0_0 o0_0)
def f94.o (a0_0 : ByteArray) (a0_1 : ByteArray) (o0_0 : ByteArray) : (Bool) → V El × List (O El) := fun r => (.bb false r, [.box true true 0 1 false [.s o0_0]])
def sf94 (k : Nat) : List (V G.El) → List (O G.El) → Q G.El (V G.El × List (O G.El)) := fun as0' os0' => lH as0' fun v0 as1' => lH as1' fun v1 as2' => lT as2' <| lH os0' fun x0 os1' => lT os1' <| argX 1 false x0 fun b1' => argH b1' fun y2' r2' => argT r2' <| argS y2' fun o0_0 => argA v0 fun b3' => argH b3' fun y4' r4' => argH r4' fun y5' r5' => argT r5' <| argS y4' fun a0_0 => argS y5' fun a0_1 => argV 0 0 v1 <| .call _ (f94 k a0_0 a0_1 o0_0) fun r => .ret (.bb false r, [.box true true 0 1 false [.s o0_0]])
inductive f93.L where
  | l2 (x0 : List S80) (x7 : Int) (x8 : Int) (b0_0 : ByteArray)
def f93.st : f93.L → Nat × S El
  | .l2 x0 x7 x8 b0_0 => (2, ⟨19, .dead, [(0, .sl 1 x0 []), (1, .fn 94 [.ptr 0 (.l 0) 0]), (7, .id .i64 8 x7), (8, .id .i64 9 x8)], [(0, .box true true 0 1 false [.s b0_0])], 1, 1⟩)
def f93.hint : f93.L → H
  | .l2 .. => .all
def f93.blk (k : Nat) : f93.L → PT (Int × ByteArray) f93.L
  | .l2 x0 x7 x8 b0_0 => .ite (x8 < x7) (fun h1 => .need (0 ≤ x8) fun h2 => .need (x8 < ((x0.length : Nat) : Int)) fun h3 => .call _ (f94 k ((at' x0 x8).f0) ((at' x0 x8).f1) b0_0) fun t1 => .ite (t1 = true) (fun h4 => .ret (x8, b0_0)) (fun h4 => .jump (.l2 x0 x7 (IntKind.i64.wrap (x8 + 1)) b0_0))) (fun h1 => .ret ((-1), b0_0))
def f93.D (k : Nat) : f93.L → Option (Int × ByteArray)
  | .l2 x0 x7 x8 b0_0 => f93.l2 k x0 x7 x8 b0_0
def f93.start (k : Nat) (a0_0 : List S80) (o0_0 : ByteArray) : PT (Int × ByteArray) f93.L := .jump (.l2 a0_0 ((a0_0.length : Nat) : Int) 0 o0_0)
def f93.o (a0_0 : List S80) (o0_0 : ByteArray) : (Int × ByteArray) → V El × List (O El) := fun r => (.id .i64 0 r.1, [.box true true 0 1 false [.s r.2]])
def sf93 (k : Nat) : List (V G.El) → List (O G.El) → Q G.El (V G.El × List (O G.El)) := fun as0' os0' => lH as0' fun v0 as1' => lH as1' fun v1 as2' => lT as2' <| lH os0' fun x0 os1' => lT os1' <| argX 1 false x0 fun b1' => argH b1' fun y2' r2' => argT r2' <| argS y2' fun o0_0 => argL 1 v0 fun a0_0 => argF 94 v1 fun c3' => argPH c3' fun y4' r4' => argT r4' <| argV 0 0 y4' <| .call _ (f93 k a0_0 o0_0) fun r => .ret (.id .i64 0 r.1, [.box true true 0 1 false [.s r.2]])
def f53.start (k : Nat) (a0_0 : List S80) (a1_0 : ByteArray) : PT (Int) Empty := .call _ (f93 k a0_0 a1_0) fun t1 => .ret t1.1
def f53.o (a0_0 : List S80) (a1_0 : ByteArray) : (Int) → V El × List (O El) := fun r => (.id .i64 0 r, [])
def sf53 (k : Nat) : List (V G.El) → List (O G.El) → Q G.El (V G.El × List (O G.El)) := fun as0' os0' => lH as0' fun v0 as1' => lH as1' fun v1 as2' => lT as2' <| lT os0' <| argL 1 v0 fun a0_0 => argS v1 fun a1_0 => .call _ (f53 k a0_0 a1_0) fun r => .ret (.id .i64 0 r, [])
def f59.start (k : Nat) (a0_0 : List S80) : PT ((List S80)) Empty := .triv (0 = ([] : List S80).length) tv <| .need (a0_0.length * 32 ≤ 70368744177664) fun h1 => .need (a0_0.length ≤ 70368744177664) fun h2 => .triv (a0_0.length = a0_0.length) rfl <| .ret a0_0
def f59.o (a0_0 : List S80) : ((List S80)) → V El × List (O El) := fun r => (.win 0 true (.l 0) (.d 0 r.length), [.row true true true 0 1 r none])
def sf59 (k : Nat) : List (V G.El) → List (O G.El) → Q G.El (V G.El × List (O G.El)) := fun as0' os0' => lH as0' fun v0 as1' => lT as1' <| lT os0' <| argL 1 v0 fun a0_0 => .call _ (f59 k a0_0) fun r => .ret (.win 0 true (.l 0) (.d 0 r.length), [.row true true true 0 1 r none])
def sf132 (k : Nat) : List (V G.El) → List (O G.El) → Q G.El (V G.El × List (O G.El)) := fun as0' os0' => lH as0' fun v0 as1' => lH as1' fun v1 as2' => lT as2' <| lT os0' <| argS v0 fun a0_0 => argS v1 fun a1_0 => .call _ (f132 k a0_0 a1_0) fun r => .ret (.id .i64 0 r, [])
def f120.start (k : Nat) (a0_0 : ByteArray) (a1_0 : ByteArray) : PT (Int) Empty := .call _ (f132 k a0_0 a1_0) fun t1 => .ret t1
def f120.o (a0_0 : ByteArray) (a1_0 : ByteArray) : (Int) → V El × List (O El) := fun r => (.id .i64 0 r, [])
def sf120 (k : Nat) : List (V G.El) → List (O G.El) → Q G.El (V G.El × List (O G.El)) := fun as0' os0' => lH as0' fun v0 as1' => lH as1' fun v1 as2' => lT as2' <| lT os0' <| argS v0 fun a0_0 => argS v1 fun a1_0 => .call _ (f120 k a0_0 a1_0) fun r => .ret (.id .i64 0 r, [])
def f119.start (k : Nat) (a0_0 : ByteArray) (a0_1 : ByteArray) (a1_0 : ByteArray) : PT (Int) Empty := .call _ (f120 k a0_0 a1_0) fun t1 => .ret t1
def f119.o (a0_0 : ByteArray) (a0_1 : ByteArray) (a1_0 : ByteArray) : (Int) → V El × List (O El) := fun r => (.id .i64 0 r, [])
def sf119 (k : Nat) : List (V G.El) → List (O G.El) → Q G.El (V G.El × List (O G.El)) := fun as0' os0' => lH as0' fun v0 as1' => lH as1' fun v1 as2' => lT as2' <| lT os0' <| argA v0 fun b1' => argH b1' fun y2' r2' => argH r2' fun y3' r3' => argT r3' <| argS y2' fun a0_0 => argS y3' fun a0_1 => argS v1 fun a1_0 => .call _ (f119 k a0_0 a0_1 a1_0) fun r => .ret (.id .i64 0 r, [])
inductive f118.L where
  | l3 (x0 : List S80) (x1 : ByteArray) (x8 : Int) (x9 : Int) (x10 : Int)
def f118.st : f118.L → Nat × S El
  | .l3 x0 x1 x8 x9 x10 => (3, ⟨49, .dead, [(0, .sl 1 x0 []), (1, .s x1), (2, .fn 119 []), (8, .id .i64 9 x8), (9, .id .i64 10 x9), (10, .id .i64 11 x10)], [], 0, 0⟩)
def f118.hint : f118.L → H
  | .l3 .. => (.both .all (.both (.l (.l (.l (.l (.l (.l (.skip (.l (.l .all))))))))) (.r (.r (.r (.r (.r (.r (.r (.r .all))))))))))
def f118.blk (k : Nat) : f118.L → PT (Int × Bool) f118.L
  | .l3 x0 x1 x8 x9 x10 => .ite (x9 < x10) (fun h1 => .need (0 ≤ (IntKind.i64.wrap (shrI .u64 (IntKind.u64.wrap (IntKind.i64.wrap (x9 + x10))) 1))) fun h2 => .need ((IntKind.i64.wrap (shrI .u64 (IntKind.u64.wrap (IntKind.i64.wrap (x9 + x10))) 1)) < ((x0.length : Nat) : Int)) fun h3 => .call _ (f119 k ((at' x0 (IntKind.i64.wrap (shrI .u64 (IntKind.u64.wrap (IntKind.i64.wrap (x9 + x10))) 1))).f0) ((at' x0 (IntKind.i64.wrap (shrI .u64 (IntKind.u64.wrap (IntKind.i64.wrap (x9 + x10))) 1))).f1) x1) fun t1 => .ite (t1 < 0) (fun h4 => .jump (.l3 x0 x1 x8 (IntKind.i64.wrap ((IntKind.i64.wrap (shrI .u64 (IntKind.u64.wrap (IntKind.i64.wrap (x9 + x10))) 1)) + 1)) x10)) (fun h4 => .jump (.l3 x0 x1 x8 x9 (IntKind.i64.wrap (shrI .u64 (IntKind.u64.wrap (IntKind.i64.wrap (x9 + x10))) 1))))) (fun h1 => .ite (x9 < x8) (fun h5 => .triv (x9 < x8) h5 <| .triv (x9 < x8) h5 <| .triv (x9 < x8) h5 <| .need (0 ≤ x9) fun h6 => .need (x9 < ((x0.length : Nat) : Int)) fun h7 => .triv (x9 < x8) h5 <| .triv (x9 < x8) h5 <| .triv (x9 < x8) h5 <| .call _ (f119 k ((at' x0 x9).f0) ((at' x0 x9).f1) x1) fun t2 => .triv (x9 < x8) h5 <| .triv (x9 < x8) h5 <| .ret (x9, (decide (t2 = 0)))) (fun h5 => .triv (¬ (x9 < x8)) h5 <| .triv (¬ (x9 < x8)) h5 <| .triv (¬ (x9 < x8)) h5 <| .triv (¬ (x9 < x8)) h5 <| .triv (¬ (x9 < x8)) h5 <| .triv (¬ (x9 < x8)) h5 <| .triv (¬ (x9 < x8)) h5 <| .triv (¬ (x9 < x8)) h5 <| .ret (x9, false)))
def f118.D (k : Nat) : f118.L → Option (Int × Bool)
  | .l3 x0 x1 x8 x9 x10 => f118.l3 k x0 x1 x8 x9 x10
def f118.start (k : Nat) (a0_0 : List S80) (a1_0 : ByteArray) : PT (Int × Bool) f118.L := .jump (.l3 a0_0 a1_0 ((a0_0.length : Nat) : Int) 0 ((a0_0.length : Nat) : Int))
def f118.o (a0_0 : List S80) (a1_0 : ByteArray) : (Int × Bool) → V El × List (O El) := fun r => (.tup [.id .i64 0 r.1, .bb false r.2], [])
def sf118 (k : Nat) : List (V G.El) → List (O G.El) → Q G.El (V G.El × List (O G.El)) := fun as0' os0' => lH as0' fun v0 as1' => lH as1' fun v1 as2' => lH as2' fun v2 as3' => lT as3' <| lT os0' <| argL 1 v0 fun a0_0 => argS v1 fun a1_0 => argF 119 v2 fun c1' => argT c1' <| .call _ (f118 k a0_0 a1_0) fun r => .ret (.tup [.id .i64 0 r.1, .bb false r.2], [])
def sf121 (k : Nat) : List (V G.El) → List (O G.El) → Q G.El (V G.El × List (O G.El)) := fun as0' os0' => lH as0' fun v0 as1' => lH as1' fun v1 as2' => lH as2' fun v2 as3' => lT as3' <| lH os0' fun x0 os1' => lH os1' fun x1 os2' => lT os2' <| argR 1 x0 fun o0 => argR 1 x1 fun o1 => argW 0 o0.length v0 <| argI .i64 v1 fun a1_0 => argW 1 o1.length v2 <| .call _ (f121 k a1_0 o0 o1) fun r => .ret (.win 2 true (.l 0) (.d 0 r.length), [.row false true true 0 1 o0 none, .row true true true 0 1 o1 none, .row true true true 0 1 r none])
def f99.start (k : Nat) (a0_0 : List S80) (a1_0 : ByteArray) (a1_1 : ByteArray) : PT ((List S80)) Empty := .call _ (f59 k a0_0) fun t1 => .triv (t1.length = t1.length) rfl <| .call _ (f118 k t1 a1_0) fun t2 => .ite (t2.2 = true) (fun h1 => .need (0 ≤ t2.1) fun h2 => .need (t2.1 < ((t1.length : Nat) : Int)) fun h3 => .triv (t2.1.toNat < t1.length) tv <| .triv (t1.length = t1.length) rfl <| .ret (t1.set t2.1.toNat (⟨a1_0, a1_1⟩ : S80))) (fun h1 => .triv (t1.length = t1.length) rfl <| .triv (1 = ([(⟨a1_0, a1_1⟩ : S80)] : List S80).length) tv <| .call _ (f121 k t2.1 t1 ([(⟨a1_0, a1_1⟩ : S80)] : List S80)) fun t3 => .triv (t3.length = t3.length) rfl <| .ret t3)
def f99.o (a0_0 : List S80) (a1_0 : ByteArray) (a1_1 : ByteArray) : ((List S80)) → V El × List (O El) := fun r => (.win 0 true (.l 0) (.d 0 r.length), [.row true true true 0 1 r none])
def sf99 (k : Nat) : List (V G.El) → List (O G.El) → Q G.El (V G.El × List (O G.El)) := fun as0' os0' => lH as0' fun v0 as1' => lH as1' fun v1 as2' => lT as2' <| lT os0' <| argL 1 v0 fun a0_0 => argA v1 fun b1' => argH b1' fun y2' r2' => argH r2' fun y3' r3' => argT r3' <| argS y2' fun a1_0 => argS y3' fun a1_1 => .call _ (f99 k a0_0 a1_0 a1_1) fun r => .ret (.win 0 true (.l 0) (.d 0 r.length), [.row true true true 0 1 r none])
def sf100 (k : Nat) : List (V G.El) → List (O G.El) → Q G.El (V G.El × List (O G.El)) := fun as0' os0' => lH as0' fun v0 as1' => lH as1' fun v1 as2' => lH as2' fun v2 as3' => lT as3' <| lH os0' fun x0 os1' => lT os1' <| argR 1 x0 fun o0 => argW 0 o0.length v0 <| argI .i64 v1 fun a1_0 => argI .i64 v2 fun a2_0 => .call _ (f100 k a1_0 a2_0 o0) fun r => .ret (.win 1 true (.l 0) (.d 0 r.length), [.row false true true 0 1 o0 none, .row true true true 0 1 r none])
def f61.start (k : Nat) (a0_0 : Int) (a0_1 : ByteArray) (a0_2 : ByteArray) (a0_3 : ByteArray) (a1_0 : List S80) : PT (((List S80)) ⊕ ((List S80))) Empty := .call _ (f53 k a1_0 a0_1) fun t1 => .ite (a0_0 = 1) (fun h1 => .ite (0 ≤ t1) (fun h2 => .triv (0 ≤ t1) h2 <| .need (t1 < ((a1_0.length : Nat) : Int)) fun h3 => .need (((at' a1_0 t1).f1).size + a0_3.size ≤ 9223372036854775807) fun h4 => .call _ (f99 k a1_0 ((at' a1_0 t1).f0) ((at' a1_0 t1).f1 ++ a0_3)) fun t2 => .triv (t2.length = t2.length) rfl <| .ret (Sum.inl t2)) (fun h2 => .need' (a0_3.size ≤ 9223372036854775807) ((⟨#[]⟩ : ByteArray).size + a0_3.size ≤ 9223372036854775807) tv fun h5 => .call _ (f99 k a1_0 a0_1 ((⟨#[]⟩ : ByteArray) ++ a0_3)) fun t3 => .triv (t3.length = t3.length) rfl <| .ret (Sum.inl t3))) (fun h1 => .ite (t1 < 0) (fun h6 => .ret (Sum.inr a1_0)) (fun h6 => .call _ (f59 k a1_0) fun t4 => .triv (t4.length = t4.length) rfl <| .call _ (f100 k t1 (IntKind.i64.wrap (t1 + 1)) t4) fun t5 => .ite (a0_0 = 3) (fun h7 => .triv (t5.length = t5.length) rfl <| .ret (Sum.inl t5)) (fun h7 => .need (0 ≤ t1) fun h8 => .need (t1 < ((a1_0.length : Nat) : Int)) fun h9 => .triv (t5.length = t5.length) rfl <| .call _ (f99 k t5 a0_2 ((at' a1_0 t1).f1)) fun t6 => .triv (t6.length = t6.length) rfl <| .ret (Sum.inl t6))))
def f61.o (a0_0 : Int) (a0_1 : ByteArray) (a0_2 : ByteArray) (a0_3 : ByteArray) (a1_0 : List S80) : (((List S80)) ⊕ ((List S80))) → V El × List (O El) := fun r => match r with | Sum.inl r => (.tup [.win 0 true (.l 0) (.d 0 r.length), .bb false true], [.row true true true 0 1 r none]) | Sum.inr r => (.tup [.sl 1 r [], .bb false false], [])
def sf61 (k : Nat) : List (V G.El) → List (O G.El) → Q G.El (V G.El × List (O G.El)) := fun as0' os0' => lH as0' fun v0 as1' => lH as1' fun v1 as2' => lT as2' <| lT os0' <| argA v0 fun b1' => argH b1' fun y2' r2' => argH r2' fun y3' r3' => argH r3' fun y4' r4' => argH r4' fun y5' r5' => argT r5' <| argI .i64 y2' fun a0_0 => argS y3' fun a0_1 => argS y4' fun a0_2 => argS y5' fun a0_3 => argL 1 v1 fun a1_0 => .call _ (f61 k a0_0 a0_1 a0_2 a0_3 a1_0) fun r => .either _ _ r (fun r => .ret (.tup [.win 0 true (.l 0) (.d 0 r.length), .bl true], [.row true true true 0 1 r none])) (fun r => .ret (.tup [.sl 1 r [], .bl false], []))
inductive f90.L where
  | l4 (x0 : List S80) (x1 : List S80) (x12 : Int) (x13 : Int)
def f90.st : f90.L → Nat × S El
  | .l4 x0 x1 x12 x13 => (4, ⟨26, .dead, [(0, .sl 1 x0 []), (1, .sl 1 x1 []), (12, .id .i64 13 x12), (13, .id .i64 14 x13)], [], 0, 0⟩)
def f90.hint : f90.L → H
  | .l4 .. => .all
def f90.blk (k : Nat) : f90.L → PT (Bool) f90.L
  | .l4 x0 x1 x12 x13 => .ite (x13 < x12) (fun h2 => .need (0 ≤ x13) fun h3 => .need (x13 < ((x0.length : Nat) : Int)) fun h4 => .triv (0 ≤ x13) h3 <| .need (x13 < ((x1.length : Nat) : Int)) fun h5 => .ite ((strEq ((at' x0 x13).f0) ((at' x1 x13).f0) && strEq ((at' x0 x13).f1) ((at' x1 x13).f1)) = true) (fun h6 => .jump (.l4 x0 x1 x12 (IntKind.i64.wrap (x13 + 1)))) (fun h6 => .ret false)) (fun h2 => .ret true)
def f90.D (k : Nat) : f90.L → Option (Bool)
  | .l4 x0 x1 x12 x13 => f90.l4 k x0 x1 x12 x13
def f90.start (k : Nat) (a0_0 : List S80) (a1_0 : List S80) : PT (Bool) f90.L := .ite (((a0_0.length : Nat) : Int) = ((a1_0.length : Nat) : Int)) (fun h1 => .jump (.l4 a0_0 a1_0 ((a0_0.length : Nat) : Int) 0)) (fun h1 => .ret false)
def f90.o (a0_0 : List S80) (a1_0 : List S80) : (Bool) → V El × List (O El) := fun r => (.bb false r, [])
def sf90 (k : Nat) : List (V G.El) → List (O G.El) → Q G.El (V G.El × List (O G.El)) := fun as0' os0' => lH as0' fun v0 as1' => lH as1' fun v1 as2' => lT as2' <| lT os0' <| argL 1 v0 fun a0_0 => argL 1 v1 fun a1_0 => .call _ (f90 k a0_0 a1_0) fun r => .ret (.bb false r, [])
inductive f49.L where
  | l5 (x3 : List S80) (x27 : List S73) (x28 : Int) (x29 : Int) (b0_0 : List S80) (b0_1 : List S80) (b0_2 : List S73)
def f49.st : f49.L → Nat × S El
  | .l5 x3 x27 x28 x29 b0_0 b0_1 b0_2 => (5, ⟨55, .dead, [(1, .ptr 0 (.l 0) 0), (3, .sl 1 x3 []), (27, .sl 2 x27 []), (28, .id .i64 29 x28), (29, .id .i64 30 x29)], [(0, .box true true 0 3 true [.sl 1 b0_0 [], .sl 1 b0_1 [], .sl 2 b0_2 []])], 1, 0⟩)
def f49.hint : f49.L → H
  | .l5 .. => .all
def f49.blk (k : Nat) : f49.L → PT (Bool) f49.L
  | .l5 x3 x27 x28 x29 b0_0 b0_1 b0_2 => .ite (x29 < x28) (fun h4 => .need (0 ≤ x29) fun h5 => .need (x29 < ((x27.length : Nat) : Int)) fun h6 => .call _ (f89 k ((at' x27 x29).f0) ((at' x27 x29).f1) ((at' x27 x29).f2) ((at' x27 x29).f3)) fun t3 => .ite (t3 = true) (fun h7 => .call _ (f61 k ((at' x27 x29).f0) ((at' x27 x29).f1) ((at' x27 x29).f2) ((at' x27 x29).f3) x3) fun t4 => .either _ _ t4 (fun t4 => .triv (t4.length = t4.length) rfl <| .call _ (f62 k t4) fun t5 => .ite (t5 = true) (fun h8 => .triv (t4.length = t4.length) rfl <| .jump (.l5 t4 x27 x28 (IntKind.i64.wrap (x29 + 1)) b0_0 b0_1 b0_2)) (fun h8 => .ret false)) (fun t4 => .ret false)) (fun h7 => .ret false)) (fun h4 => .call _ (f90 k x3 b0_0) fun t6 => .ret t6)
def f49.D (k : Nat) : f49.L → Option (Bool)
  | .l5 x3 x27 x28 x29 b0_0 b0_1 b0_2 => f49.l5 k x3 x27 x28 x29 b0_0 b0_1 b0_2
def f49.start (k : Nat) (a0_0 : List S80) (a0_1 : List S80) (a0_2 : List S73) : PT (Bool) f49.L := .call _ (f62 k a0_0) fun t1 => .ite (t1 = true) (fun h1 => .triv (t1 = true) h1 <| .triv (t1 = true) h1 <| .call _ (f62 k a0_1) fun t2 => .triv (t1 = true) h1 <| .triv (t1 = true) h1 <| .ite (t2 = true) (fun h2 => .triv (t2 = true) h2 <| .triv (t2 = true) h2 <| .triv (t2 = true) h2 <| .triv (t2 = true) h2 <| .ite (200 < ((a0_2.length : Nat) : Int)) (fun h3 => .ret false) (fun h3 => .jump (.l5 a0_1 a0_2 ((a0_2.length : Nat) : Int) 0 a0_0 a0_1 a0_2))) (fun h2 => .triv (¬ (t2 = true)) h2 <| .triv (¬ (t2 = true)) h2 <| .triv (¬ (t2 = true)) h2 <| .triv (¬ (t2 = true)) h2 <| .ret false)) (fun h1 => .triv (¬ (t1 = true)) h1 <| .triv (¬ (t1 = true)) h1 <| .triv (¬ (t1 = true)) h1 <| .triv (¬ (t1 = true)) h1 <| .ret false)
def f49.o (a0_0 : List S80) (a0_1 : List S80) (a0_2 : List S73) : (Bool) → V El × List (O El) := fun r => (.bb false r, [])
def sf49 (k : Nat) : List (V G.El) → List (O G.El) → Q G.El (V G.El × List (O G.El)) := fun as0' os0' => lH as0' fun v0 as1' => lT as1' <| lT os0' <| argA v0 fun b1' => argH b1' fun y2' r2' => argH r2' fun y3' r3' => argH r3' fun y4' r4' => argT r4' <| argL 1 y2' fun a0_0 => argL 1 y3' fun a0_1 => argL 2 y4' fun a0_2 => .call _ (f49 k a0_0 a0_1 a0_2) fun r => .ret (.bb false r, [])
def sf103 (k : Nat) : List (V G.El) → List (O G.El) → Q G.El (V G.El × List (O G.El)) := fun as0' os0' => lH as0' fun v0 as1' => lH as1' fun v1 as2' => lH as2' fun v2 as3' => lT as3' <| lH os0' fun x0 os1' => lH os1' fun x1 os2' => lT os2' <| argR 2 x0 fun o0 => argR 2 x1 fun o1 => argW 0 o0.length v0 <| argI .i64 v1 fun a1_0 => argW 1 o1.length v2 <| .call _ (f103 k a1_0 o0 o1) fun r => .ret (.win 2 true (.l 0) (.d 0 r.length), [.row false true true 0 2 o0 none, .row true true true 0 2 o1 none, .row true true true 0 2 r none])
def f79.start (k : Nat) (a0_0 : List S80) (a0_1 : List S80) (a0_2 : List S73) : PT ((List S80) × (List S80) × (List S73)) Empty := .call _ (f59 k a0_0) fun t1 => .call _ (f59 k a0_1) fun t2 => .triv (0 = ([] : List S73).length) tv <| .need (a0_2.length * 56 ≤ 70368744177664) fun h1 => .need (a0_2.length ≤ 70368744177664) fun h2 => .triv (t1.length = t1.length) rfl <| .triv (t2.length = t2.length) rfl <| .triv (a0_2.length = a0_2.length) rfl <| .ret (t1, t2, a0_2)
def f79.o (a0_0 : List S80) (a0_1 : List S80) (a0_2 : List S73) : ((List S80) × (List S80) × (List S73)) → V El × List (O El) := fun r => (.agg [.win 0 true (.l 0) (.d 0 r.1.length), .win 1 true (.l 0) (.d 0 r.2.1.length), .win 2 true (.l 0) (.d 0 r.2.2.length)], [.row true true true 0 1 r.1 none, .row true true true 0 1 r.2.1 none, .row true true true 0 2 r.2.2 none])
def sf79 (k : Nat) : List (V G.El) → List (O G.El) → Q G.El (V G.El × List (O G.El)) := fun as0' os0' => lH as0' fun v0 as1' => lT as1' <| lT os0' <| argA v0 fun b1' => argH b1' fun y2' r2' => argH r2' fun y3' r3' => argH r3' fun y4' r4' => argT r4' <| argL 1 y2' fun a0_0 => argL 1 y3' fun a0_1 => argL 2 y4' fun a0_2 => .call _ (f79 k a0_0 a0_1 a0_2) fun r => .ret (.agg [.win 0 true (.l 0) (.d 0 r.1.length), .win 1 true (.l 0) (.d 0 r.2.1.length), .win 2 true (.l 0) (.d 0 r.2.2.length)], [.row true true true 0 1 r.1 none, .row true true true 0 1 r.2.1 none, .row true true true 0 2 r.2.2 none])
def f104.start (k : Nat) (a0_0 : List S80) (a0_1 : List S80) (a0_2 : List S73) (a1_0 : Int) (a1_1 : ByteArray) (a1_2 : ByteArray) (a1_3 : ByteArray) : PT (Int × (List S80) × (List S80) × (List S73)) Empty := .call _ (f89 k a1_0 a1_1 a1_2 a1_3) fun t1 => .ite (t1 = true) (fun h1 => .call _ (f61 k a1_0 a1_1 a1_2 a1_3 a0_0) fun t2 => .either _ _ t2 (fun t2 => .ite (((a0_2.length : Nat) : Int) = 200) (fun h2 => .triv (((a0_2.length : Nat) : Int) = 200) h2 <| .triv (((a0_2.length : Nat) : Int) = 200) h2 <| .triv (((a0_2.length : Nat) : Int) = 200) h2 <| .call _ (f79 k a0_0 a0_1 a0_2) fun t3 => .triv (t3.1.length = t3.1.length) rfl <| .triv (t3.2.1.length = t3.2.1.length) rfl <| .triv (t3.2.2.length = t3.2.2.length) rfl <| .ret (4, t3.1, t3.2.1, t3.2.2)) (fun h2 => .triv (¬ (((a0_2.length : Nat) : Int) = 200)) h2 <| .triv (t2.length = t2.length) rfl <| .call _ (f62 k t2) fun t4 => .triv (¬ (((a0_2.length : Nat) : Int) = 200)) h2 <| .triv (¬ (((a0_2.length : Nat) : Int) = 200)) h2 <| .ite (t4 = true) (fun h3 => .call _ (f79 k a0_0 a0_1 a0_2) fun t5 => .triv (t2.length = t2.length) rfl <| .call _ (f59 k t2) fun t6 => .triv (1 = ([(⟨a1_0, a1_1, a1_2, a1_3⟩ : S73)] : List S73).length) tv <| .triv (t5.2.2.length = t5.2.2.length) rfl <| .need ((t5.2.2.length + 1) * 56 ≤ 70368744177664) fun h4 => .need ((t5.2.2.length + 1) ≤ 70368744177664) fun h5 => .triv (t6.length = t6.length) rfl <| .triv (t5.2.1.length = t5.2.1.length) rfl <| .triv ((t5.2.2.length + 1) = (t5.2.2 ++ ([(⟨a1_0, a1_1, a1_2, a1_3⟩ : S73)] : List S73)).length) tv <| .ret (0, t6, t5.2.1, (t5.2.2 ++ ([(⟨a1_0, a1_1, a1_2, a1_3⟩ : S73)] : List S73)))) (fun h3 => .call _ (f79 k a0_0 a0_1 a0_2) fun t7 => .triv (t7.1.length = t7.1.length) rfl <| .triv (t7.2.1.length = t7.2.1.length) rfl <| .triv (t7.2.2.length = t7.2.2.length) rfl <| .ret (4, t7.1, t7.2.1, t7.2.2)))) (fun t2 => .call _ (f79 k a0_0 a0_1 a0_2) fun t8 => .triv (t8.1.length = t8.1.length) rfl <| .triv (t8.2.1.length = t8.2.1.length) rfl <| .triv (t8.2.2.length = t8.2.2.length) rfl <| .ret (3, t8.1, t8.2.1, t8.2.2))) (fun h1 => .call _ (f79 k a0_0 a0_1 a0_2) fun t9 => .triv (t9.1.length = t9.1.length) rfl <| .triv (t9.2.1.length = t9.2.1.length) rfl <| .triv (t9.2.2.length = t9.2.2.length) rfl <| .ret (2, t9.1, t9.2.1, t9.2.2))
def f104.o (a0_0 : List S80) (a0_1 : List S80) (a0_2 : List S73) (a1_0 : Int) (a1_1 : ByteArray) (a1_2 : ByteArray) (a1_3 : ByteArray) : (Int × (List S80) × (List S80) × (List S73)) → V El × List (O El) := fun r => (.tup [.agg [.win 0 true (.l 0) (.d 0 r.2.1.length), .win 1 true (.l 0) (.d 0 r.2.2.1.length), .win 2 true (.l 0) (.d 0 r.2.2.2.length)], .id .i64 0 r.1], [.row true true true 0 1 r.2.1 none, .row true true true 0 1 r.2.2.1 none, .row true true true 0 2 r.2.2.2 none])
def sf104 (k : Nat) : List (V G.El) → List (O G.El) → Q G.El (V G.El × List (O G.El)) := fun as0' os0' => lH as0' fun v0 as1' => lH as1' fun v1 as2' => lT as2' <| lT os0' <| argA v0 fun b1' => argH b1' fun y2' r2' => argH r2' fun y3' r3' => argH r3' fun y4' r4' => argT r4' <| argL 1 y2' fun a0_0 => argL 1 y3' fun a0_1 => argL 2 y4' fun a0_2 => argA v1 fun b5' => argH b5' fun y6' r6' => argH r6' fun y7' r7' => argH r7' fun y8' r8' => argH r8' fun y9' r9' => argT r9' <| argI .i64 y6' fun a1_0 => argS y7' fun a1_1 => argS y8' fun a1_2 => argS y9' fun a1_3 => .call _ (f104 k a0_0 a0_1 a0_2 a1_0 a1_1 a1_2 a1_3) fun r => .ret (.tup [.agg [.win 0 true (.l 0) (.d 0 r.2.1.length), .win 1 true (.l 0) (.d 0 r.2.2.1.length), .win 2 true (.l 0) (.d 0 r.2.2.2.length)], .id .i64 0 r.1], [.row true true true 0 1 r.2.1 none, .row true true true 0 1 r.2.2.1 none, .row true true true 0 2 r.2.2.2 none])
inductive f67.L where
  | l9 (q3 : List S73) (q4 : List S80) (q5 : List S80) (q6 : List S73) (x41 : Int) (x42 : Int) (b0_0 : List S80) (b0_1 : List S80) (b0_2 : List S73)
def f67.st : f67.L → Nat × S El
  | .l9 q3 q4 q5 q6 x41 x42 b0_0 b0_1 b0_2 => (9, ⟨60, .dead, [(3, .ptr 0 (.l 0) 0), (6, .ptr 1 (.l 0) 0), (10, .ptr 2 (.l 0) 0), (40, .win 3 true (.l 0) (.d 0 q3.length)), (41, .id .i64 42 x41), (42, .id .i64 43 x42)], [(0, .box true true 0 3 true [.sl 1 b0_0 [], .sl 1 b0_1 [], .sl 2 b0_2 []]), (1, .box true true 0 3 true [.nil, .nil, .nil]), (2, .box true true 0 3 true [.win 4 true (.l 0) (.d 0 q4.length), .win 5 true (.l 0) (.d 0 q5.length), .win 6 true (.l 0) (.d 0 q6.length)]), (3, .row true true true 0 2 q3 none), (4, .row true true true 0 1 q4 none), (5, .row true true true 0 1 q5 none), (6, .row true true true 0 2 q6 none)], 7, 0⟩)
def f67.hint : f67.L → H
  | .l9 .. => .all
def f67.blk (k : Nat) : f67.L → PT (Int × (List S80) × (List S80) × (List S73)) f67.L
  | .l9 q3 q4 q5 q6 x41 x42 b0_0 b0_1 b0_2 => .ite (x42 < x41) (fun h4 => .need (0 ≤ x42) fun h5 => .need (x42 < ((q3.length : Nat) : Int)) fun h6 => .triv (x42.toNat < q3.length) tv <| .triv (q4.length = q4.length) rfl <| .triv (q5.length = q5.length) rfl <| .triv (q6.length = q6.length) rfl <| .call _ (f104 k q4 q5 q6 ((at' q3 x42).f0) ((at' q3 x42).f1) ((at' q3 x42).f2) ((at' q3 x42).f3)) fun t5 => .ite (t5.1 = 0) (fun h7 => .triv (q3.length = q3.length) rfl <| .triv (t5.2.1.length = t5.2.1.length) rfl <| .triv (t5.2.2.1.length = t5.2.2.1.length) rfl <| .triv (t5.2.2.2.length = t5.2.2.2.length) rfl <| .jump (.l9 q3 t5.2.1 t5.2.2.1 t5.2.2.2 x41 (IntKind.i64.wrap (x42 + 1)) b0_0 b0_1 b0_2)) (fun h7 => .call _ (f79 k b0_0 b0_1 b0_2) fun t6 => .triv (t6.1.length = t6.1.length) rfl <| .triv (t6.2.1.length = t6.2.1.length) rfl <| .triv (t6.2.2.length = t6.2.2.length) rfl <| .ret (t5.1, t6.1, t6.2.1, t6.2.2))) (fun h4 => .triv (q4.length = q4.length) rfl <| .triv (q5.length = q5.length) rfl <| .triv (q6.length = q6.length) rfl <| .ret (0, q4, q5, q6))
def f67.D (k : Nat) : f67.L → Option (Int × (List S80) × (List S80) × (List S73))
  | .l9 q3 q4 q5 q6 x41 x42 b0_0 b0_1 b0_2 => f67.l9 k q3 q4 q5 q6 x41 x42 b0_0 b0_1 b0_2
def f67.start (k : Nat) (a0_0 : List S80) (a0_1 : List S80) (a0_2 : List S73) (a1_0 : ByteArray) (a2_0 : ByteArray) : PT (Int × (List S80) × (List S80) × (List S73)) f67.L := .call _ (f49 k a0_0 a0_1 a0_2) fun t1 => .ite (t1 = true) (fun h1 => .need' (a1_0.size + 4 ≤ 9223372036854775807) (a1_0.size + (⟨#[46, 110, 101, 119]⟩ : ByteArray).size ≤ 9223372036854775807) tv fun h2 => .call _ (f53 k a0_0 (a1_0 ++ (⟨#[46, 110, 101, 119]⟩ : ByteArray))) fun t2 => .ite (0 ≤ t2) (fun h3 => .triv (2 = ([(⟨1, (a1_0 ++ (⟨#[46, 110, 101, 119]⟩ : ByteArray)), (⟨#[]⟩ : ByteArray), a2_0⟩ : S73), (⟨2, (a1_0 ++ (⟨#[46, 110, 101, 119]⟩ : ByteArray)), a1_0, (⟨#[]⟩ : ByteArray)⟩ : S73)] : List S73).length) tv <| .triv (1 = ([(⟨3, (a1_0 ++ (⟨#[46, 110, 101, 119]⟩ : ByteArray)), (⟨#[]⟩ : ByteArray), (⟨#[]⟩ : ByteArray)⟩ : S73)] : List S73).length) tv <| .call _ (f103 k 0 ([(⟨1, (a1_0 ++ (⟨#[46, 110, 101, 119]⟩ : ByteArray)), (⟨#[]⟩ : ByteArray), a2_0⟩ : S73), (⟨2, (a1_0 ++ (⟨#[46, 110, 101, 119]⟩ : ByteArray)), a1_0, (⟨#[]⟩ : ByteArray)⟩ : S73)] : List S73) ([(⟨3, (a1_0 ++ (⟨#[46, 110, 101, 119]⟩ : ByteArray)), (⟨#[]⟩ : ByteArray), (⟨#[]⟩ : ByteArray)⟩ : S73)] : List S73)) fun t3 => .call _ (f79 k a0_0 a0_1 a0_2) fun t4 => .triv (t3.length = t3.length) rfl <| .triv (t4.1.length = t4.1.length) rfl <| .triv (t4.2.1.length = t4.2.1.length) rfl <| .triv (t4.2.2.length = t4.2.2.length) rfl <| .jump (.l9 t3 t4.1 t4.2.1 t4.2.2 ((t3.length : Nat) : Int) 0 a0_0 a0_1 a0_2)) (fun h3 => .call _ (f79 k a0_0 a0_1 a0_2) fun t7 => .triv (2 = ([(⟨1, (a1_0 ++ (⟨#[46, 110, 101, 119]⟩ : ByteArray)), (⟨#[]⟩ : ByteArray), a2_0⟩ : S73), (⟨2, (a1_0 ++ (⟨#[46, 110, 101, 119]⟩ : ByteArray)), a1_0, (⟨#[]⟩ : ByteArray)⟩ : S73)] : List S73).length) tv <| .triv (t7.1.length = t7.1.length) rfl <| .triv (t7.2.1.length = t7.2.1.length) rfl <| .triv (t7.2.2.length = t7.2.2.length) rfl <| .jump (.l9 ([(⟨1, (a1_0 ++ (⟨#[46, 110, 101, 119]⟩ : ByteArray)), (⟨#[]⟩ : ByteArray), a2_0⟩ : S73), (⟨2, (a1_0 ++ (⟨#[46, 110, 101, 119]⟩ : ByteArray)), a1_0, (⟨#[]⟩ : ByteArray)⟩ : S73)] : List S73) t7.1 t7.2.1 t7.2.2 2 0 a0_0 a0_1 a0_2))) (fun h1 => .triv (0 = ([] : List S80).length) tv <| .triv (0 = ([] : List S80).length) tv <| .triv (0 = ([] : List S73).length) tv <| .ret (1, ([] : List S80), ([] : List S80), ([] : List S73)))
def f67.o (a0_0 : List S80) (a0_1 : List S80) (a0_2 : List S73) (a1_0 : ByteArray) (a2_0 : ByteArray) : (Int × (List S80) × (List S80) × (List S73)) → V El × List (O El) := fun r => (.tup [.agg [.win 0 true (.l 0) (.d 0 r.2.1.length), .win 1 true (.l 0) (.d 0 r.2.2.1.length), .win 2 true (.l 0) (.d 0 r.2.2.2.length)], .id .i64 0 r.1], [.row true true true 0 1 r.2.1 none, .row true true true 0 1 r.2.2.1 none, .row true true true 0 2 r.2.2.2 none])
def sf67 (k : Nat) : List (V G.El) → List (O G.El) → Q G.El (V G.El × List (O G.El)) := fun as0' os0' => lH as0' fun v0 as1' => lH as1' fun v1 as2' => lH as2' fun v2 as3' => lT as3' <| lT os0' <| argA v0 fun b1' => argH b1' fun y2' r2' => argH r2' fun y3' r3' => argH r3' fun y4' r4' => argT r4' <| argL 1 y2' fun a0_0 => argL 1 y3' fun a0_1 => argL 2 y4' fun a0_2 => argS v1 fun a1_0 => argS v2 fun a2_0 => .call _ (f67 k a0_0 a0_1 a0_2 a1_0 a2_0) fun r => .ret (.tup [.agg [.win 0 true (.l 0) (.d 0 r.2.1.length), .win 1 true (.l 0) (.d 0 r.2.2.1.length), .win 2 true (.l 0) (.d 0 r.2.2.2.length)], .id .i64 0 r.1], [.row true true true 0 1 r.2.1 none, .row true true true 0 1 r.2.2.1 none, .row true true true 0 2 r.2.2.2 none])
def f27.start (k : Nat) (a0_0 : List S80) (a0_1 : List S80) (a0_2 : List S73) (a1_0 : ByteArray) (a2_0 : ByteArray) : PT (Int × (List S80) × (List S80) × (List S73)) Empty := .call _ (f67 k a0_0 a0_1 a0_2 a1_0 a2_0) fun t1 => .triv (t1.2.1.length = t1.2.1.length) rfl <| .triv (t1.2.2.1.length = t1.2.2.1.length) rfl <| .triv (t1.2.2.2.length = t1.2.2.2.length) rfl <| .ret (t1.1, t1.2.1, t1.2.2.1, t1.2.2.2)
def f27.o (a0_0 : List S80) (a0_1 : List S80) (a0_2 : List S73) (a1_0 : ByteArray) (a2_0 : ByteArray) : (Int × (List S80) × (List S80) × (List S73)) → V El × List (O El) := fun r => (.tup [.agg [.win 0 true (.l 0) (.d 0 r.2.1.length), .win 1 true (.l 0) (.d 0 r.2.2.1.length), .win 2 true (.l 0) (.d 0 r.2.2.2.length)], .id .i64 0 r.1], [.row true true true 0 1 r.2.1 none, .row true true true 0 1 r.2.2.1 none, .row true true true 0 2 r.2.2.2 none])
def sf27 (k : Nat) : List (V G.El) → List (O G.El) → Q G.El (V G.El × List (O G.El)) := fun as0' os0' => lH as0' fun v0 as1' => lH as1' fun v1 as2' => lH as2' fun v2 as3' => lT as3' <| lT os0' <| argA v0 fun b1' => argH b1' fun y2' r2' => argH r2' fun y3' r3' => argH r3' fun y4' r4' => argT r4' <| argL 1 y2' fun a0_0 => argL 1 y3' fun a0_1 => argL 2 y4' fun a0_2 => argS v1 fun a1_0 => argS v2 fun a2_0 => .call _ (f27 k a0_0 a0_1 a0_2 a1_0 a2_0) fun r => .ret (.tup [.agg [.win 0 true (.l 0) (.d 0 r.2.1.length), .win 1 true (.l 0) (.d 0 r.2.2.1.length), .win 2 true (.l 0) (.d 0 r.2.2.2.length)], .id .i64 0 r.1], [.row true true true 0 1 r.2.1 none, .row true true true 0 1 r.2.2.1 none, .row true true true 0 2 r.2.2.2 none])
def f24.start (k : Nat) (a0_0 : List S80) (a0_1 : List S80) (a0_2 : List S73) : PT ((List S80) × (List S80) × (List S73)) Empty := .call _ (f49 k a0_0 a0_1 a0_2) fun t1 => .ite (t1 = true) (fun h1 => .callh _ (f59 k a0_0) fun t2 ht2 => .recall _ (f59 k a0_0) t2 ht2 <| .triv (t2.length = t2.length) rfl <| .triv (t2.length = t2.length) rfl <| .triv (0 = ([] : List S73).length) tv <| .ret (t2, t2, ([] : List S73))) (fun h1 => .triv (0 = ([] : List S80).length) tv <| .triv (0 = ([] : List S80).length) tv <| .triv (0 = ([] : List S73).length) tv <| .ret (([] : List S80), ([] : List S80), ([] : List S73)))
def f24.o (a0_0 : List S80) (a0_1 : List S80) (a0_2 : List S73) : ((List S80) × (List S80) × (List S73)) → V El × List (O El) := fun r => (.agg [.win 0 true (.l 0) (.d 0 r.1.length), .win 1 true (.l 0) (.d 0 r.2.1.length), .win 2 true (.l 0) (.d 0 r.2.2.length)], [.row true true true 0 1 r.1 none, .row true true true 0 1 r.2.1 none, .row true true true 0 2 r.2.2 none])
def sf24 (k : Nat) : List (V G.El) → List (O G.El) → Q G.El (V G.El × List (O G.El)) := fun as0' os0' => lH as0' fun v0 as1' => lT as1' <| lT os0' <| argA v0 fun b1' => argH b1' fun y2' r2' => argH r2' fun y3' r3' => argH r3' fun y4' r4' => argT r4' <| argL 1 y2' fun a0_0 => argL 1 y3' fun a0_1 => argL 2 y4' fun a0_2 => .call _ (f24 k a0_0 a0_1 a0_2) fun r => .ret (.agg [.win 0 true (.l 0) (.d 0 r.1.length), .win 1 true (.l 0) (.d 0 r.2.1.length), .win 2 true (.l 0) (.d 0 r.2.2.length)], [.row true true true 0 1 r.1 none, .row true true true 0 1 r.2.1 none, .row true true true 0 2 r.2.2 none])
def f17.start (k : Nat) (a0_0 : List S80) (a0_1 : List S80) (a0_2 : List S73) (a1_0 : ByteArray) : PT (ByteArray × Bool) Empty := .call _ (f13 k a0_0 a0_1 a0_2) fun t1 => .ite (t1 = true) (fun h1 => .call _ (f52 k a0_0 a1_0) fun t2 => .ite (t2 < 0) (fun h2 => .ret ((⟨#[]⟩ : ByteArray), false)) (fun h2 => .need (0 ≤ t2) fun h3 => .need (t2 < ((a0_0.length : Nat) : Int)) fun h4 => .ret ((at' a0_0 t2).f1, true))) (fun h1 => .ret ((⟨#[]⟩ : ByteArray), false))
def f17.o (a0_0 : List S80) (a0_1 : List S80) (a0_2 : List S73) (a1_0 : ByteArray) : (ByteArray × Bool) → V El × List (O El) := fun r => (.tup [.s r.1, .bb false r.2], [])
def sf17 (k : Nat) : List (V G.El) → List (O G.El) → Q G.El (V G.El × List (O G.El)) := fun as0' os0' => lH as0' fun v0 as1' => lH as1' fun v1 as2' => lT as2' <| lT os0' <| argA v0 fun b1' => argH b1' fun y2' r2' => argH r2' fun y3' r3' => argH r3' fun y4' r4' => argT r4' <| argL 1 y2' fun a0_0 => argL 1 y3' fun a0_1 => argL 2 y4' fun a0_2 => argS v1 fun a1_0 => .call _ (f17 k a0_0 a0_1 a0_2 a1_0) fun r => .ret (.tup [.s r.1, .bb false r.2], [])
def f18.start (k : Nat) (a0_0 : List S80) (a0_1 : List S80) (a0_2 : List S73) (a1_0 : ByteArray) : PT (ByteArray × Bool) Empty := .call _ (f53 k a0_0 a1_0) fun t1 => .call _ (f49 k a0_0 a0_1 a0_2) fun t2 => .ite (t2 = true) (fun h1 => .triv (t2 = true) h1 <| .triv (t2 = true) h1 <| .ite (t1 < 0) (fun h2 => .ret ((⟨#[]⟩ : ByteArray), false)) (fun h2 => .need (0 ≤ t1) fun h3 => .need (t1 < ((a0_0.length : Nat) : Int)) fun h4 => .ret ((at' a0_0 t1).f1, true))) (fun h1 => .triv (¬ (t2 = true)) h1 <| .triv (¬ (t2 = true)) h1 <| .ret ((⟨#[]⟩ : ByteArray), false))
def f18.o (a0_0 : List S80) (a0_1 : List S80) (a0_2 : List S73) (a1_0 : ByteArray) : (ByteArray × Bool) → V El × List (O El) := fun r => (.tup [.s r.1, .bb false r.2], [])
def sf18 (k : Nat) : List (V G.El) → List (O G.El) → Q G.El (V G.El × List (O G.El)) := fun as0' os0' => lH as0' fun v0 as1' => lH as1' fun v1 as2' => lT as2' <| lT os0' <| argA v0 fun b1' => argH b1' fun y2' r2' => argH r2' fun y3' r3' => argH r3' fun y4' r4' => argT r4' <| argL 1 y2' fun a0_0 => argL 1 y3' fun a0_1 => argL 2 y4' fun a0_2 => argS v1 fun a1_0 => .call _ (f18 k a0_0 a0_1 a0_2 a1_0) fun r => .ret (.tup [.s r.1, .bb false r.2], [])
def f60.start (k : Nat) (a0_0 : Int) (a1_0 : Int) (a2_0 : Int) : PT (Bool) Empty := .ite (a1_0 ≤ a0_0) (fun h1 => .triv (a1_0 ≤ a0_0) h1 <| .triv (a1_0 ≤ a0_0) h1 <| .triv (a1_0 ≤ a0_0) h1 <| .ret (decide (a0_0 ≤ a2_0))) (fun h1 => .triv (¬ (a1_0 ≤ a0_0)) h1 <| .triv (¬ (a1_0 ≤ a0_0)) h1 <| .triv (¬ (a1_0 ≤ a0_0)) h1 <| .ret false)
def f60.o (a0_0 : Int) (a1_0 : Int) (a2_0 : Int) : (Bool) → V El × List (O El) := fun r => (.bb false r, [])
def sf60 (k : Nat) : List (V G.El) → List (O G.El) → Q G.El (V G.El × List (O G.El)) := fun as0' os0' => lH as0' fun v0 as1' => lH as1' fun v1 as2' => lH as2' fun v2 as3' => lT as3' <| lT os0' <| argI .i64 v0 fun a0_0 => argI .i64 v1 fun a1_0 => argI .i64 v2 fun a2_0 => .call _ (f60 k a0_0 a1_0 a2_0) fun r => .ret (.bb false r, [])
inductive f22.L where
  | l5 (q2 : List S80) (x1 : List Int) (x2 : Int) (x25 : List Int) (x26 : Int) (x27 : Int) (b0_0 : List S80) (b0_1 : List S80) (b0_2 : List S73)
def f22.st : f22.L → Nat × S El
  | .l5 q2 x1 x2 x25 x26 x27 b0_0 b0_1 b0_2 => (5, ⟨89, .dead, [(1, .sl 4 x1 []), (2, .id .i64 3 x2), (3, .ptr 0 (.l 0) 0), (6, .ptr 1 (.l 0) 0), (8, .win 2 true (.l 0) (.d 0 q2.length)), (25, .sl 4 x25 []), (26, .id .i64 27 x26), (27, .id .i64 28 x27)], [(0, .box true true 0 3 true [.sl 1 b0_0 [], .sl 1 b0_1 [], .sl 2 b0_2 []]), (1, .box true true 0 3 true [.nil, .nil, .nil]), (2, .row true true true 0 1 q2 none)], 3, 0⟩)
def f22.hint : f22.L → H
  | .l5 .. => (.both (.skip (.both (.l (.l (.both (.l (.l (.l (.l (.l (.l (.l (.l (.l .all))))))))) (.r (.r (.r (.r (.r (.r (.l (.r (.l .all)))))))))))) (.r (.r (.r (.r .all)))))) .all)
def f22.blk (k : Nat) : f22.L → PT (Bool × (List S80) × (List S80) × (List S73)) f22.L
  | .l5 q2 x1 x2 x25 x26 x27 b0_0 b0_1 b0_2 => .ite (x27 < x26) (fun h3 => .need (0 ≤ x27) fun h4 => .need (x27 < ((x25.length : Nat) : Int)) fun h5 => .call _ (f60 k (at' x25 x27) 0 (IntKind.i64.wrap (((b0_2.length : Nat) : Int) - 1))) fun t3 => .ite (t3 = true) (fun h6 => .triv (t3 = true) h6 <| .triv (t3 = true) h6 <| .ite (0 < x27) (fun h7 => .triv (0 < x27) h7 <| .triv (0 < x27) h7 <| .triv (0 < x27) h7 <| .need (0 ≤ (IntKind.i64.wrap (x27 - 1))) fun h8 => .need ((IntKind.i64.wrap (x27 - 1)) < ((x1.length : Nat) : Int)) fun h9 => .triv (0 < x27) h7 <| .triv (0 < x27) h7 <| .triv (0 < x27) h7 <| .triv (t3 = true) h6 <| .triv (0 < x27) h7 <| .triv (t3 = true) h6 <| .ite ((at' x25 x27) ≤ (at' x1 (IntKind.i64.wrap (x27 - 1)))) (fun h10 => .triv (0 = ([] : List S80).length) tv <| .triv (0 = ([] : List S80).length) tv <| .triv (0 = ([] : List S73).length) tv <| .ret (false, ([] : List S80), ([] : List S80), ([] : List S73))) (fun h10 => .need (0 ≤ (at' x25 x27)) fun h11 => .need ((at' x25 x27) < ((b0_2.length : Nat) : Int)) fun h12 => .ite (x27 = (IntKind.i64.wrap (((x1.length : Nat) : Int) - 1))) (fun h13 => .need (0 ≤ (minI x2 ((((at' b0_2 (at' x25 x27)).f3).size : Nat) : Int))) fun h14 => .need ((minI x2 ((((at' b0_2 (at' x25 x27)).f3).size : Nat) : Int)) ≤ ((((at' b0_2 (at' x25 x27)).f3).size : Nat) : Int)) fun h15 => .triv (q2.length = q2.length) rfl <| .call _ (f61 k ((at' b0_2 (at' x25 x27)).f0) ((at' b0_2 (at' x25 x27)).f1) ((at' b0_2 (at' x25 x27)).f2) (((at' b0_2 (at' x25 x27)).f3).extract 0 ((minI x2 ((((at' b0_2 (at' x25 x27)).f3).size : Nat) : Int)).toNat)) q2) fun t4 => .either _ _ t4 (fun t4 => .triv (t4.length = t4.length) rfl <| .jump (.l5 t4 x1 x2 x25 x26 (IntKind.i64.wrap (x27 + 1)) b0_0 b0_1 b0_2)) (fun t4 => .triv (q2.length = q2.length) rfl <| .jump (.l5 q2 x1 x2 x25 x26 (IntKind.i64.wrap (x27 + 1)) b0_0 b0_1 b0_2))) (fun h13 => .triv (q2.length = q2.length) rfl <| .call _ (f61 k ((at' b0_2 (at' x25 x27)).f0) ((at' b0_2 (at' x25 x27)).f1) ((at' b0_2 (at' x25 x27)).f2) ((at' b0_2 (at' x25 x27)).f3) q2) fun t5 => .either _ _ t5 (fun t5 => .triv (t5.length = t5.length) rfl <| .jump (.l5 t5 x1 x2 x25 x26 (IntKind.i64.wrap (x27 + 1)) b0_0 b0_1 b0_2)) (fun t5 => .triv (q2.length = q2.length) rfl <| .jump (.l5 q2 x1 x2 x25 x26 (IntKind.i64.wrap (x27 + 1)) b0_0 b0_1 b0_2))))) (fun h7 => .triv (¬ (0 < x27)) h7 <| .triv (¬ (0 < x27)) h7 <| .triv (¬ (0 < x27)) h7 <| .triv (¬ (0 < x27)) h7 <| .triv (¬ (0 < x27)) h7 <| .triv (¬ (0 < x27)) h7 <| .triv (t3 = true) h6 <| .triv (¬ (0 < x27)) h7 <| .triv (t3 = true) h6 <| .need (0 ≤ (at' x25 x27)) fun h16 => .need ((at' x25 x27) < ((b0_2.length : Nat) : Int)) fun h17 => .ite (x27 = (IntKind.i64.wrap (((x1.length : Nat) : Int) - 1))) (fun h18 => .need (0 ≤ (minI x2 ((((at' b0_2 (at' x25 x27)).f3).size : Nat) : Int))) fun h19 => .need ((minI x2 ((((at' b0_2 (at' x25 x27)).f3).size : Nat) : Int)) ≤ ((((at' b0_2 (at' x25 x27)).f3).size : Nat) : Int)) fun h20 => .triv (q2.length = q2.length) rfl <| .call _ (f61 k ((at' b0_2 (at' x25 x27)).f0) ((at' b0_2 (at' x25 x27)).f1) ((at' b0_2 (at' x25 x27)).f2) (((at' b0_2 (at' x25 x27)).f3).extract 0 ((minI x2 ((((at' b0_2 (at' x25 x27)).f3).size : Nat) : Int)).toNat)) q2) fun t6 => .either _ _ t6 (fun t6 => .triv (t6.length = t6.length) rfl <| .jump (.l5 t6 x1 x2 x25 x26 (IntKind.i64.wrap (x27 + 1)) b0_0 b0_1 b0_2)) (fun t6 => .triv (q2.length = q2.length) rfl <| .jump (.l5 q2 x1 x2 x25 x26 (IntKind.i64.wrap (x27 + 1)) b0_0 b0_1 b0_2))) (fun h18 => .triv (q2.length = q2.length) rfl <| .call _ (f61 k ((at' b0_2 (at' x25 x27)).f0) ((at' b0_2 (at' x25 x27)).f1) ((at' b0_2 (at' x25 x27)).f2) ((at' b0_2 (at' x25 x27)).f3) q2) fun t7 => .either _ _ t7 (fun t7 => .triv (t7.length = t7.length) rfl <| .jump (.l5 t7 x1 x2 x25 x26 (IntKind.i64.wrap (x27 + 1)) b0_0 b0_1 b0_2)) (fun t7 => .triv (q2.length = q2.length) rfl <| .jump (.l5 q2 x1 x2 x25 x26 (IntKind.i64.wrap (x27 + 1)) b0_0 b0_1 b0_2))))) (fun h6 => .triv (¬ (t3 = true)) h6 <| .triv (¬ (t3 = true)) h6 <| .triv (¬ (t3 = true)) h6 <| .triv (¬ (t3 = true)) h6 <| .triv (0 = ([] : List S80).length) tv <| .triv (0 = ([] : List S80).length) tv <| .triv (0 = ([] : List S73).length) tv <| .ret (false, ([] : List S80), ([] : List S80), ([] : List S73)))) (fun h3 => .triv (q2.length = q2.length) rfl <| .call _ (f62 k q2) fun t8 => .ite (t8 = true) (fun h21 => .triv (q2.length = q2.length) rfl <| .call _ (f59 k q2) fun t9 => .triv (q2.length = q2.length) rfl <| .triv (t9.length = t9.length) rfl <| .triv (0 = ([] : List S73).length) tv <| .ret (true, q2, t9, ([] : List S73))) (fun h21 => .triv (0 = ([] : List S80).length) tv <| .triv (0 = ([] : List S80).length) tv <| .triv (0 = ([] : List S73).length) tv <| .ret (false, ([] : List S80), ([] : List S80), ([] : List S73))))
def f22.D (k : Nat) : f22.L → Option (Bool × (List S80) × (List S80) × (List S73))
  | .l5 q2 x1 x2 x25 x26 x27 b0_0 b0_1 b0_2 => f22.l5 k q2 x1 x2 x25 x26 x27 b0_0 b0_1 b0_2
def f22.start (k : Nat) (a0_0 : List S80) (a0_1 : List S80) (a0_2 : List S73) (a1_0 : List Int) (a2_0 : Int) : PT (Bool × (List S80) × (List S80) × (List S73)) f22.L := .call _ (f49 k a0_0 a0_1 a0_2) fun t1 => .ite (t1 = true) (fun h1 => .triv (t1 = true) h1 <| .triv (t1 = true) h1 <| .ite (a2_0 < 0) (fun h2 => .triv (0 = ([] : List S80).length) tv <| .triv (0 = ([] : List S80).length) tv <| .triv (0 = ([] : List S73).length) tv <| .ret (false, ([] : List S80), ([] : List S80), ([] : List S73))) (fun h2 => .call _ (f59 k a0_1) fun t2 => .triv (t2.length = t2.length) rfl <| .jump (.l5 t2 a1_0 a2_0 a1_0 ((a1_0.length : Nat) : Int) 0 a0_0 a0_1 a0_2))) (fun h1 => .triv (¬ (t1 = true)) h1 <| .triv (¬ (t1 = true)) h1 <| .triv (0 = ([] : List S80).length) tv <| .triv (0 = ([] : List S80).length) tv <| .triv (0 = ([] : List S73).length) tv <| .ret (false, ([] : List S80), ([] : List S80), ([] : List S73)))
def f22.o (a0_0 : List S80) (a0_1 : List S80) (a0_2 : List S73) (a1_0 : List Int) (a2_0 : Int) : (Bool × (List S80) × (List S80) × (List S73)) → V El × List (O El) := fun r => (.tup [.agg [.win 0 true (.l 0) (.d 0 r.2.1.length), .win 1 true (.l 0) (.d 0 r.2.2.1.length), .win 2 true (.l 0) (.d 0 r.2.2.2.length)], .bb false r.1], [.row true true true 0 1 r.2.1 none, .row true true true 0 1 r.2.2.1 none, .row true true true 0 2 r.2.2.2 none])
def sf22 (k : Nat) : List (V G.El) → List (O G.El) → Q G.El (V G.El × List (O G.El)) := fun as0' os0' => lH as0' fun v0 as1' => lH as1' fun v1 as2' => lH as2' fun v2 as3' => lT as3' <| lT os0' <| argA v0 fun b1' => argH b1' fun y2' r2' => argH r2' fun y3' r3' => argH r3' fun y4' r4' => argT r4' <| argL 1 y2' fun a0_0 => argL 1 y3' fun a0_1 => argL 2 y4' fun a0_2 => argL 4 v1 fun a1_0 => argI .i64 v2 fun a2_0 => .call _ (f22 k a0_0 a0_1 a0_2 a1_0 a2_0) fun r => .ret (.tup [.agg [.win 0 true (.l 0) (.d 0 r.2.1.length), .win 1 true (.l 0) (.d 0 r.2.2.1.length), .win 2 true (.l 0) (.d 0 r.2.2.2.length)], .bb false r.1], [.row true true true 0 1 r.2.1 none, .row true true true 0 1 r.2.2.1 none, .row true true true 0 2 r.2.2.2 none])
inductive f6.L where
  | l22 (q1 : List S80) (q2 : List S80) (q3 : List S73) (x0 : List Int) (x4 : ByteArray) (x5 : ByteArray) (x13 : ByteArray) (x14 : Bool) (x19 : Int)
  | l26 (q1 : List Int) (q2 : List S80) (q3 : List S80) (q4 : List S73) (x0 : List Int) (x4 : ByteArray) (x5 : ByteArray) (x13 : ByteArray) (x14 : Bool) (x19 : Int) (x21 : Int)
def f6.st : f6.L → Nat × S El
  | .l22 q1 q2 q3 x0 x4 x5 x13 x14 x19 => (22, ⟨162, .dead, [(0, .sl 0 x0 []), (4, .s x4), (5, .s x5), (13, .s x13), (14, .bb false x14), (15, .ptr 0 (.l 0) 0), (19, .id .i64 20 x19)], [(0, .box true true 0 3 true [.win 1 true (.l 0) (.d 0 q1.length), .win 2 true (.l 0) (.d 0 q2.length), .win 3 true (.l 0) (.d 0 q3.length)]), (1, .row true true true 0 1 q1 none), (2, .row true true true 0 1 q2 none), (3, .row true true true 0 2 q3 none)], 4, 0⟩)
  | .l26 q1 q2 q3 q4 x0 x4 x5 x13 x14 x19 x21 => (26, ⟨162, .dead, [(0, .sl 0 x0 []), (4, .s x4), (5, .s x5), (13, .s x13), (14, .bb false x14), (15, .ptr 0 (.l 0) 0), (19, .id .i64 20 x19), (20, .win 1 true (.l 0) (.d 0 q1.length)), (21, .id .i64 22 x21)], [(0, .box true true 0 3 true [.win 2 true (.l 0) (.d 0 q2.length), .win 3 true (.l 0) (.d 0 q3.length), .win 4 true (.l 0) (.d 0 q4.length)]), (1, .row true true true 0 4 q1 none), (2, .row true true true 0 1 q2 none), (3, .row true true true 0 1 q3 none), (4, .row true true true 0 2 q4 none)], 5, 0⟩)
def f6.hint : f6.L → H
  | .l22 .. => .all
  | .l26 .. => (.both .all (.skip (.skip (.both (.l (.l (.l (.both (.l (.l (.l (.l (.l (.l (.both (.l (.l (.l (.both (.l (.l (.l (.l .all)))) (.r (.both (.l (.l (.r (.l (.r (.r .all)))))) (.r (.r (.r (.r (.r (.r .all)))))))))))) (.r (.r (.r .all)))))))))) (.r (.both (.l (.l (.r (.l (.r (.l (.r (.l (.both (.l (.l (.l (.l (.l (.l (.l (.l (.l (.l (.l (.l (.l (.l .all)))))))))))))) (.r (.r (.r (.r (.r .all)))))))))))))) (.r (.r (.r (.r (.r (.l (.r (.l .all)))))))))))))) (.r (.r (.r (.r (.r .all)))))))))
def f6.blk (k : Nat) : f6.L → PT (Bool) f6.L
  | .l22 q1 q2 q3 x0 x4 x5 x13 x14 x19 => .ite (x19 < 8) (fun h9 => .triv (0 = ([] : List Int).length) tv <| .triv (q1.length = q1.length) rfl <| .triv (q2.length = q2.length) rfl <| .triv (q3.length = q3.length) rfl <| .jump (.l26 ([] : List Int) q1 q2 q3 x0 x4 x5 x13 x14 x19 0)) (fun h9 => .ret true)
  | .l26 q1 q2 q3 q4 x0 x4 x5 x13 x14 x19 x21 => .ite (x21 < ((q4.length : Nat) : Int)) (fun h10 => .need (0 ≤ (IntKind.u64.wrap x21)) fun h11 => .ite ((andI .i64 (shrI .i64 x19 (IntKind.u64.wrap x21)) 1) = 1) (fun h12 => .triv (1 = ([x21] : List Int).length) tv <| .triv (q1.length = q1.length) rfl <| .need ((q1.length + 1) * 8 ≤ 70368744177664) fun h13 => .need ((q1.length + 1) ≤ 70368744177664) fun h14 => .triv ((q1.length + 1) = (q1 ++ ([x21] : List Int)).length) tv <| .triv (q2.length = q2.length) rfl <| .triv (q3.length = q3.length) rfl <| .triv (q4.length = q4.length) rfl <| .jump (.l26 (q1 ++ ([x21] : List Int)) q2 q3 q4 x0 x4 x5 x13 x14 x19 (IntKind.i64.wrap (x21 + 1)))) (fun h12 => .triv (q1.length = q1.length) rfl <| .triv (q2.length = q2.length) rfl <| .triv (q3.length = q3.length) rfl <| .triv (q4.length = q4.length) rfl <| .jump (.l26 q1 q2 q3 q4 x0 x4 x5 x13 x14 x19 (IntKind.i64.wrap (x21 + 1))))) (fun h10 => .triv (q2.length = q2.length) rfl <| .triv (q3.length = q3.length) rfl <| .triv (q4.length = q4.length) rfl <| .triv (q1.length = q1.length) rfl <| .call _ (f22 k q2 q3 q4 q1 (((x0.length : Nat) : Int).tmod 4)) fun t11 => .triv (t11.2.1.length = t11.2.1.length) rfl <| .triv (t11.2.2.1.length = t11.2.2.1.length) rfl <| .triv (t11.2.2.2.length = t11.2.2.2.length) rfl <| .call _ (f18 k t11.2.1 t11.2.2.1 t11.2.2.2 x4) fun t12 => .ite (t11.1 = true) (fun h15 => .triv (t11.1 = true) h15 <| .triv (t11.1 = true) h15 <| .triv (t11.1 = true) h15 <| .ite ((t12.2 == x14) = true) (fun h16 => .triv ((t12.2 == x14) = true) h16 <| .triv ((t12.2 == x14) = true) h16 <| .triv ((t12.2 == x14) = true) h16 <| .triv (t11.1 = true) h15 <| .triv ((t12.2 == x14) = true) h16 <| .triv (t11.1 = true) h15 <| .ite (t12.2 = true) (fun h17 => .triv (t12.2 = true) h17 <| .triv (t12.2 = true) h17 <| .triv (t12.2 = true) h17 <| .ite ((strEq t12.1 x5) = true) (fun h18 => .triv ((strEq t12.1 x5) = true) h18 <| .triv ((strEq t12.1 x5) = true) h18 <| .triv ((strEq t12.1 x5) = true) h18 <| .triv ((strEq t12.1 x5) = true) h18 <| .triv (q2.length = q2.length) rfl <| .triv (q3.length = q3.length) rfl <| .triv (q4.length = q4.length) rfl <| .jump (.l22 q2 q3 q4 x0 x4 x5 x13 x14 (IntKind.i64.wrap (x19 + 1)))) (fun h18 => .triv (¬ ((strEq t12.1 x5) = true)) h18 <| .ite (x14 = true) (fun h19 => .triv (x14 = true) h19 <| .triv (x14 = true) h19 <| .triv (¬ ((strEq t12.1 x5) = true)) h18 <| .triv (x14 = true) h19 <| .triv (¬ ((strEq t12.1 x5) = true)) h18 <| .triv (¬ ((strEq t12.1 x5) = true)) h18 <| .ite ((strEq t12.1 x13) = true) (fun h20 => .triv (q2.length = q2.length) rfl <| .triv (q3.length = q3.length) rfl <| .triv (q4.length = q4.length) rfl <| .jump (.l22 q2 q3 q4 x0 x4 x5 x13 x14 (IntKind.i64.wrap (x19 + 1)))) (fun h20 => .ret false)) (fun h19 => .triv (¬ (x14 = true)) h19 <| .triv (¬ (x14 = true)) h19 <| .triv (¬ ((strEq t12.1 x5) = true)) h18 <| .triv (¬ (x14 = true)) h19 <| .triv (¬ ((strEq t12.1 x5) = true)) h18 <| .triv (¬ ((strEq t12.1 x5) = true)) h18 <| .ret false))) (fun h17 => .triv (¬ (t12.2 = true)) h17 <| .triv (¬ (t12.2 = true)) h17 <| .triv (¬ (t12.2 = true)) h17 <| .triv (q2.length = q2.length) rfl <| .triv (q3.length = q3.length) rfl <| .triv (q4.length = q4.length) rfl <| .jump (.l22 q2 q3 q4 x0 x4 x5 x13 x14 (IntKind.i64.wrap (x19 + 1))))) (fun h16 => .triv (¬ ((t12.2 == x14) = true)) h16 <| .ite (t12.2 = true) (fun h21 => .triv (t12.2 = true) h21 <| .triv (t12.2 = true) h21 <| .triv (¬ ((t12.2 == x14) = true)) h16 <| .triv (t12.2 = true) h21 <| .triv (¬ ((t12.2 == x14) = true)) h16 <| .triv (t11.1 = true) h15 <| .triv (¬ ((t12.2 == x14) = true)) h16 <| .triv (t11.1 = true) h15 <| .ite ((strEq t12.1 x5) = true) (fun h22 => .triv ((strEq t12.1 x5) = true) h22 <| .triv (t12.2 = true) h21 <| .triv (t12.2 = true) h21 <| .triv (t12.2 = true) h21 <| .triv ((strEq t12.1 x5) = true) h22 <| .triv (t12.2 = true) h21 <| .triv ((strEq t12.1 x5) = true) h22 <| .triv ((strEq t12.1 x5) = true) h22 <| .triv ((strEq t12.1 x5) = true) h22 <| .triv ((strEq t12.1 x5) = true) h22 <| .triv ((strEq t12.1 x5) = true) h22 <| .triv ((strEq t12.1 x5) = true) h22 <| .triv ((strEq t12.1 x5) = true) h22 <| .triv ((strEq t12.1 x5) = true) h22 <| .triv (q2.length = q2.length) rfl <| .triv (q3.length = q3.length) rfl <| .triv (q4.length = q4.length) rfl <| .jump (.l22 q2 q3 q4 x0 x4 x5 x13 x14 (IntKind.i64.wrap (x19 + 1)))) (fun h22 => .triv (¬ ((strEq t12.1 x5) = true)) h22 <| .triv (¬ ((strEq t12.1 x5) = true)) h22 <| .triv (¬ ((strEq t12.1 x5) = true)) h22 <| .triv (¬ ((strEq t12.1 x5) = true)) h22 <| .triv (¬ ((strEq t12.1 x5) = true)) h22 <| .ret false)) (fun h21 => .triv (¬ (t12.2 = true)) h21 <| .triv (¬ (t12.2 = true)) h21 <| .triv (¬ ((t12.2 == x14) = true)) h16 <| .triv (¬ (t12.2 = true)) h21 <| .triv (¬ ((t12.2 == x14) = true)) h16 <| .triv (t11.1 = true) h15 <| .triv (¬ ((t12.2 == x14) = true)) h16 <| .triv (t11.1 = true) h15 <| .ret false))) (fun h15 => .triv (¬ (t11.1 = true)) h15 <| .triv (¬ (t11.1 = true)) h15 <| .triv (¬ (t11.1 = true)) h15 <| .triv (¬ (t11.1 = true)) h15 <| .triv (¬ (t11.1 = true)) h15 <| .ret false))
def f6.D (k : Nat) : f6.L → Option (Bool)
  | .l22 q1 q2 q3 x0 x4 x5 x13 x14 x19 => f6.l22 k q1 q2 q3 x0 x4 x5 x13 x14 x19
  | .l26 q1 q2 q3 q4 x0 x4 x5 x13 x14 x19 x21 => f6.l26 k q1 q2 q3 q4 x0 x4 x5 x13 x14 x19 x21
def f6.start (k : Nat) (a0_0 : List Int) : PT (Bool) f6.L := .call _ (f19 k a0_0) fun t1 => .ite (t1 = true) (fun h1 => .ret true) (fun h1 => .call _ (f25 k a0_0) fun t2 => .call _ (f26 k t2.1 t2.2.1 t2.2.2.1 t2.2.2.2.1 t2.2.2.2.2) fun t3 => .call _ (f27 k t2.1 t2.2.1 t2.2.2.1 t2.2.2.2.1 t2.2.2.2.2) fun t4 => .ite (t4.1 = t3.1) (fun h2 => .call _ (f13 k t2.1 t2.2.1 t2.2.2.1) fun t5 => .ite (t5 = true) (fun h3 => .call _ (f24 k t2.1 t2.2.1 t2.2.2.1) fun t6 => .need' (t2.2.2.2.1.size + 4 ≤ 9223372036854775807) (t2.2.2.2.1.size + (⟨#[46, 110, 101, 119]⟩ : ByteArray).size ≤ 9223372036854775807) tv fun h4 => .triv (t6.1.length = t6.1.length) rfl <| .triv (t6.2.1.length = t6.2.1.length) rfl <| .triv (t6.2.2.length = t6.2.2.length) rfl <| .call _ (f17 k t6.1 t6.2.1 t6.2.2 (t2.2.2.2.1 ++ (⟨#[46, 110, 101, 119]⟩ : ByteArray))) fun t7 => .ite (t7.2 = true) (fun h5 => .ret true) (fun h5 => .triv (t6.1.length = t6.1.length) rfl <| .triv (t6.2.1.length = t6.2.1.length) rfl <| .triv (t6.2.2.length = t6.2.2.length) rfl <| .call _ (f18 k t6.1 t6.2.1 t6.2.2 t2.2.2.2.1) fun t8 => .triv (t6.1.length = t6.1.length) rfl <| .triv (t6.2.1.length = t6.2.1.length) rfl <| .triv (t6.2.2.length = t6.2.2.length) rfl <| .call _ (f27 k t6.1 t6.2.1 t6.2.2 t2.2.2.2.1 t2.2.2.2.2) fun t9 => .ite (t9.1 = 0) (fun h6 => .triv (t9.2.1.length = t9.2.1.length) rfl <| .triv (t9.2.2.1.length = t9.2.2.1.length) rfl <| .triv (t9.2.2.2.length = t9.2.2.2.length) rfl <| .call _ (f18 k t9.2.1 t9.2.2.1 t9.2.2.2 t2.2.2.2.1) fun t10 => .ite (t10.2 = true) (fun h7 => .triv (t10.2 = true) h7 <| .triv (t10.2 = true) h7 <| .triv (t10.2 = true) h7 <| .ite ((strEq t10.1 t2.2.2.2.2) = true) (fun h8 => .triv (t9.2.1.length = t9.2.1.length) rfl <| .triv (t9.2.2.1.length = t9.2.2.1.length) rfl <| .triv (t9.2.2.2.length = t9.2.2.2.length) rfl <| .jump (.l22 t9.2.1 t9.2.2.1 t9.2.2.2 a0_0 t2.2.2.2.1 t2.2.2.2.2 t8.1 t8.2 0)) (fun h8 => .ret false)) (fun h7 => .triv (¬ (t10.2 = true)) h7 <| .triv (¬ (t10.2 = true)) h7 <| .triv (¬ (t10.2 = true)) h7 <| .ret false)) (fun h6 => .ret true))) (fun h3 => .ret true)) (fun h2 => .ret false))
def f6.o (a0_0 : List Int) : (Bool) → V El × List (O El) := fun r => (.bb false r, [])
def sf6 (k : Nat) : List (V G.El) → List (O G.El) → Q G.El (V G.El × List (O G.El)) := fun as0' os0' => lH as0' fun v0 as1' => lT as1' <| lT os0' <| argL 0 v0 fun a0_0 => .call _ (f6 k a0_0) fun r => .ret (.bb false r, [])
end Go.Proofs.Ytfjoamlgbegpgaa.P
namespace Go.Proofs.Ytfjoamlgbegpgaa.P
open Go Go.Proofs.Ytfjoamlgbegpgaa.PM Go.Proofs.Ytfjoamlgbegpgaa.PN Go.Proofs
set_option maxRecDepth 100000
set_option linter.unusedVariables false
theorem ti2 : TiOk Try.prog G 2 ⟨1, false, 8, .int .i64, some (.il .i64 0), some [none], none⟩ := ⟨by kernel_rfl, by kernel_rfl, by kernel_rfl, fun z h => some_all (p := fun z => zeroT Try.prog 2 = some (denA G z)) (by kernel_rfl) h, (by kernel_rfl : Try.prog.underlying 2 = some (.int .i64)), fun l h => some_all (p := fun l => cellKs Try.prog 8 2 = some (l.map (Option.map G.w))) (by kernel_rfl) h, fun l h => none_all h⟩
theorem ti3 : TiOk Try.prog G 3 ⟨1, false, 8, .int .i64, some (.il .i64 0), some [none], none⟩ := ⟨by kernel_rfl, by kernel_rfl, by kernel_rfl, fun z h => some_all (p := fun z => zeroT Try.prog 3 = some (denA G z)) (by kernel_rfl) h, (by kernel_rfl : Try.prog.underlying 3 = some (.int .i64)), fun l h => some_all (p := fun l => cellKs Try.prog 8 3 = some (l.map (Option.map G.w))) (by kernel_rfl) h, fun l h => none_all h⟩
theorem ti4 : TiOk Try.prog G 4 ⟨1, false, 1, .bool, some (.bl false), some [none], none⟩ := ⟨by kernel_rfl, by kernel_rfl, by kernel_rfl, fun z h => some_all (p := fun z => zeroT Try.prog 4 = some (denA G z)) (by kernel_rfl) h, (by kernel_rfl : Try.prog.underlying 4 = some .bool), fun l h => some_all (p := fun l => cellKs Try.prog 8 4 = some (l.map (Option.map G.w))) (by kernel_rfl) h, fun l h => none_all h⟩
theorem ti5 : TiOk Try.prog G 5 ⟨1, false, 1, .int .u8, some (.il .u8 0), some [none], none⟩ := ⟨by kernel_rfl, by kernel_rfl, by kernel_rfl, fun z h => some_all (p := fun z => zeroT Try.prog 5 = some (denA G z)) (by kernel_rfl) h, (by kernel_rfl : Try.prog.underlying 5 = some (.int .u8)), fun l h => some_all (p := fun l => cellKs Try.prog 8 5 = some (l.map (Option.map G.w))) (by kernel_rfl) h, fun l h => none_all h⟩
theorem ti9 : TiOk Try.prog G 9 ⟨1, false, 16, .string, some (.s (⟨#[]⟩ : ByteArray)), some [none], none⟩ := ⟨by kernel_rfl, by kernel_rfl, by kernel_rfl, fun z h => some_all (p := fun z => zeroT Try.prog 9 = some (denA G z)) (by kernel_rfl) h, (by kernel_rfl : Try.prog.underlying 9 = some .string), fun l h => some_all (p := fun l => cellKs Try.prog 8 9 = some (l.map (Option.map G.w))) (by kernel_rfl) h, fun l h => none_all h⟩
theorem ti28 : TiOk Try.prog G 28 ⟨1, false, 24, .slice 80 1, some (.nil), some [some 1], none⟩ := ⟨by kernel_rfl, by kernel_rfl, by kernel_rfl, fun z h => some_all (p := fun z => zeroT Try.prog 28 = some (denA G z)) (by kernel_rfl) h, (by kernel_rfl : Try.prog.underlying 28 = some (.slice 80)), fun l h => some_all (p := fun l => cellKs Try.prog 8 28 = some (l.map (Option.map G.w))) (by kernel_rfl) h, fun l h => none_all h⟩
theorem ti29 : TiOk Try.prog G 29 ⟨1, false, 24, .slice 73 2, some (.nil), some [some 2], none⟩ := ⟨by kernel_rfl, by kernel_rfl, by kernel_rfl, fun z h => some_all (p := fun z => zeroT Try.prog 29 = some (denA G z)) (by kernel_rfl) h, (by kernel_rfl : Try.prog.underlying 29 = some (.slice 73)), fun l h => some_all (p := fun l => cellKs Try.prog 8 29 = some (l.map (Option.map G.w))) (by kernel_rfl) h, fun l h => none_all h⟩
theorem ti31 : TiOk Try.prog G 31 ⟨3, true, 72, .struct [(0, 28), (1, 28), (2, 29)], some (.agg [.nil, .nil, .nil]), some [some 1, some 1, some 2], none⟩ := ⟨by kernel_rfl, by kernel_rfl, by kernel_rfl, fun z h => some_all (p := fun z => zeroT Try.prog 31 = some (denA G z)) (by kernel_rfl) h, ⟨by kernel_rfl, fun l h => (by kernel_rfl : fieldsT Try.prog 31 = fieldsK G [(0, 28), (1, 28), (2, 29)]).trans h⟩, fun l h => some_all (p := fun l => cellKs Try.prog 8 31 = some (l.map (Option.map G.w))) (by kernel_rfl) h, fun l h => none_all h⟩
theorem ti38 : TiOk Try.prog G 38 ⟨1, false, 24, .slice 5 0, some (.nil), some [some 0], none⟩ := ⟨by kernel_rfl, by kernel_rfl, by kernel_rfl, fun z h => some_all (p := fun z => zeroT Try.prog 38 = some (denA G z)) (by kernel_rfl) h, (by kernel_rfl : Try.prog.underlying 38 = some (.slice 5)), fun l h => some_all (p := fun l => cellKs Try.prog 8 38 = some (l.map (Option.map G.w))) (by kernel_rfl) h, fun l h => none_all h⟩
theorem ti40 : TiOk Try.prog G 40 ⟨1, false, 24, .slice 2 4, some (.nil), some [some 4], none⟩ := ⟨by kernel_rfl, by kernel_rfl, by kernel_rfl, fun z h => some_all (p := fun z => zeroT Try.prog 40 = some (denA G z)) (by kernel_rfl) h, (by kernel_rfl : Try.prog.underlying 40 = some (.slice 2)), fun l h => some_all (p := fun l => cellKs Try.prog 8 40 = some (l.map (Option.map G.w))) (by kernel_rfl) h, fun l h => none_all h⟩
theorem ti51 : TiOk Try.prog G 51 ⟨1, false, 8, .int .u64, some (.il .u64 0), some [none], none⟩ := ⟨by kernel_rfl, by kernel_rfl, by kernel_rfl, fun z h => some_all (p := fun z => zeroT Try.prog 51 = some (denA G z)) (by kernel_rfl) h, (by kernel_rfl : Try.prog.underlying 51 = some (.int .u64)), fun l h => some_all (p := fun l => cellKs Try.prog 8 51 = some (l.map (Option.map G.w))) (by kernel_rfl) h, fun l h => none_all h⟩
theorem ti73 : TiOk Try.prog G 73 ⟨4, true, 56, .struct [(0, 2), (1, 9), (2, 9), (3, 9)], some (.agg [.il .i64 0, .s (⟨#[]⟩ : ByteArray), .s (⟨#[]⟩ : ByteArray), .s (⟨#[]⟩ : ByteArray)]), some [none, none, none, none], none⟩ := ⟨by kernel_rfl, by kernel_rfl, by kernel_rfl, fun z h => some_all (p := fun z => zeroT Try.prog 73 = some (denA G z)) (by kernel_rfl) h, ⟨by kernel_rfl, fun l h => (by kernel_rfl : fieldsT Try.prog 73 = fieldsK G [(0, 2), (1, 9), (2, 9), (3, 9)]).trans h⟩, fun l h => some_all (p := fun l => cellKs Try.prog 8 73 = some (l.map (Option.map G.w))) (by kernel_rfl) h, fun l h => none_all h⟩
theorem ti80 : TiOk Try.prog G 80 ⟨2, true, 32, .struct [(0, 9), (1, 9)], some (.agg [.s (⟨#[]⟩ : ByteArray), .s (⟨#[]⟩ : ByteArray)]), some [none, none], some [(0, 9), (1, 9)]⟩ := ⟨by kernel_rfl, by kernel_rfl, by kernel_rfl, fun z h => some_all (p := fun z => zeroT Try.prog 80 = some (denA G z)) (by kernel_rfl) h, ⟨by kernel_rfl, fun l h => (by kernel_rfl : fieldsT Try.prog 80 = fieldsK G [(0, 9), (1, 9)]).trans h⟩, fun l h => some_all (p := fun l => cellKs Try.prog 8 80 = some (l.map (Option.map G.w))) (by kernel_rfl) h, fun l h => some_all (p := fun l => eqT Try.prog 80 = some l) (by kernel_rfl) h⟩
theorem ti81 : TiOk Try.prog G 81 ⟨1, false, 8, .other, none, some [none], none⟩ := ⟨by kernel_rfl, by kernel_rfl, by kernel_rfl, fun z h => none_all h, trivial, fun l h => some_all (p := fun l => cellKs Try.prog 8 81 = some (l.map (Option.map G.w))) (by kernel_rfl) h, fun l h => none_all h⟩
theorem ti89 : TiOk Try.prog G 89 ⟨1, false, 24, .slice 9 3, some (.nil), some [some 3], none⟩ := ⟨by kernel_rfl, by kernel_rfl, by kernel_rfl, fun z h => some_all (p := fun z => zeroT Try.prog 89 = some (denA G z)) (by kernel_rfl) h, (by kernel_rfl : Try.prog.underlying 89 = some (.slice 9)), fun l h => some_all (p := fun l => cellKs Try.prog 8 89 = some (l.map (Option.map G.w))) (by kernel_rfl) h, fun l h => none_all h⟩
theorem ti120 : TiOk Try.prog G 120 ⟨2, true, 32, .struct [(0, 38), (1, 3)], some (.agg [.nil, .il .i64 0]), some [some 0, none], none⟩ := ⟨by kernel_rfl, by kernel_rfl, by kernel_rfl, fun z h => some_all (p := fun z => zeroT Try.prog 120 = some (denA G z)) (by kernel_rfl) h, ⟨by kernel_rfl, fun l h => (by kernel_rfl : fieldsT Try.prog 120 = fieldsK G [(0, 38), (1, 3)]).trans h⟩, fun l h => some_all (p := fun l => cellKs Try.prog 8 120 = some (l.map (Option.map G.w))) (by kernel_rfl) h, fun l h => none_all h⟩
theorem tis_ok : TisOk Try.prog G tis := (tis_cons ti2 (tis_cons ti3 (tis_cons ti4 (tis_cons ti5 (tis_cons ti9 (tis_cons ti28 (tis_cons ti29 (tis_cons ti31 (tis_cons ti38 (tis_cons ti40 (tis_cons ti51 (tis_cons ti73 (tis_cons ti80 (tis_cons ti81 (tis_cons ti89 (tis_cons ti120 tis_nil))))))))))))))))
theorem G_mk : ∀ t cs x, G.mkE t cs = some x → cs.map (den1 G) = (G.cells t x).map (den1 G)
  | 0 => fun cs x h => by
    match cs, h with
    | [c0], h => have h : (cI .u8 c0 fun a0 => some (a0 : Int) : Option (Int)) = some x := h; obtain ⟨a0, e0, h⟩ := cI_some h; obtain rfl := Option.some.inj h; simp only [List.map_cons, List.map_nil, e0]; rfl
    | [], h => cases h
    | _ :: _ :: _, h => cases h
  | 1 => fun cs x h => by
    match cs, h with
    | [c0, c1], h => have h : (cS c0 fun a0 => cS c1 fun a1 => some (⟨a0, a1⟩ : S80) : Option (S80)) = some x := h; obtain ⟨a0, e0, h⟩ := cS_some h; obtain ⟨a1, e1, h⟩ := cS_some h; obtain rfl := Option.some.inj h; simp only [List.map_cons, List.map_nil, e0, e1]; rfl
    | [], h => cases h
    | _ :: _ :: _ :: _, h => cases h
    | [_], h => cases h
  | 2 => fun cs x h => by
    match cs, h with
    | [c0, c1, c2, c3], h => have h : (cI .i64 c0 fun a0 => cS c1 fun a1 => cS c2 fun a2 => cS c3 fun a3 => some (⟨a0, a1, a2, a3⟩ : S73) : Option (S73)) = some x := h; obtain ⟨a0, e0, h⟩ := cI_some h; obtain ⟨a1, e1, h⟩ := cS_some h; obtain ⟨a2, e2, h⟩ := cS_some h; obtain ⟨a3, e3, h⟩ := cS_some h; obtain rfl := Option.some.inj h; simp only [List.map_cons, List.map_nil, e0, e1, e2, e3]; rfl
    | [], h => cases h
    | _ :: _ :: _ :: _ :: _ :: _, h => cases h
    | [_], h => cases h
    | [_, _], h => cases h
    | [_, _, _], h => cases h
  | 3 => fun cs x h => by
    match cs, h with
    | [c0], h => have h : (cS c0 fun a0 => some (a0 : ByteArray) : Option (ByteArray)) = some x := h; obtain ⟨a0, e0, h⟩ := cS_some h; obtain rfl := Option.some.inj h; simp only [List.map_cons, List.map_nil, e0]; rfl
    | [], h => cases h
    | _ :: _ :: _, h => cases h
  | 4 => fun cs x h => by
    match cs, h with
    | [c0], h => have h : (cI .i64 c0 fun a0 => some (a0 : Int) : Option (Int)) = some x := h; obtain ⟨a0, e0, h⟩ := cI_some h; obtain rfl := Option.some.inj h; simp only [List.map_cons, List.map_nil, e0]; rfl
    | [], h => cases h
    | _ :: _ :: _, h => cases h
  | _ + 5 => fun cs x h => by cases h
theorem G_ok : SgOk Try.prog G where
  enc := fun t => match t with | 0 => fun _ => rfl | 1 => fun _ => rfl | 2 => fun _ => rfl | 3 => fun _ => rfl | 4 => fun _ => rfl | _ + 5 => fun _ => rfl
  len := fun t => match t with | 0 => fun _ => rfl | 1 => fun _ => rfl | 2 => fun _ => rfl | 3 => fun _ => rfl | 4 => fun _ => rfl | _ + 5 => fun _ => rfl
  agg1 := fun t => match t with | 0 => fun _ => rfl | 1 => fun h => by cases h | 2 => fun h => by cases h | 3 => fun _ => rfl | 4 => fun _ => rfl | _ + 5 => fun h => by cases h
  mkC := G_mk
  ofStr := fun t => match t with | 0 => fun s xs h => by obtain rfl := Option.some.inj h; exact ofStr_u8 s | 1 => fun _ _ h => by cases h | 2 => fun _ _ h => by cases h | 3 => fun _ _ h => by cases h | 4 => fun _ _ h => by cases h | _ + 5 => fun _ _ h => by cases h
  toStr := fun t => match t with | 0 => fun xs s h => by obtain rfl := Option.some.inj h; exact toStr_u8 xs | 1 => fun _ _ h => by cases h | 2 => fun _ _ h => by cases h | 3 => fun _ _ h => by cases h | 4 => fun _ _ h => by cases h | _ + 5 => fun _ _ h => by cases h
  flat := fun t => match t with | 0 => fun _ _ => rfl | 1 => fun _ _ => rfl | 2 => fun _ _ => rfl | 3 => fun _ _ => rfl | 4 => fun _ _ => rfl | _ + 5 => fun _ _ => rfl
  ti := tis_ok
end Go.Proofs.Ytfjoamlgbegpgaa.P
namespace Go.Proofs.Ytfjoamlgbegpgaa.P
open Go Go.Proofs.Ytfjoamlgbegpgaa.PM Go.Proofs.Ytfjoamlgbegpgaa.PN Go.Proofs
set_option maxRecDepth 100000
set_option linter.unusedVariables false
def envf84 (k : Nat) : Ev El := envOf CC0 []
theorem envf84_ok (k : Nat) : EvOk Try.prog CC0 P0 G (envf84 k) := env_ok (sums_nil)
def ktf84 : Nat → Nat → Nat := fun rid q => 0
theorem f84_ok {k : Nat} {a0_0 : ByteArray} {r : Bool} (h : f84 k a0_0 = some r) : callT Try.prog CC0 P0 84 (List.map (denV G) [.s a0_0]) (List.map (denO G) []) = some (denV G (f84.o a0_0 r).1, List.map (denO G) (f84.o a0_0 r).2) :=
 fn_ok0 (k := k) (E := envf84) (kt := ktf84) (start := f84.start k a0_0) (o := f84.o a0_0) (h0 := (.both (.l (.l (.l .all))) (.r (.r (.r .all))))) (objs := []) G_ok envf84_ok rfl Try.func84 rfl (by kernel_rfl) (by kernel_rfl) rfl (Nat.le_of_ble_eq_true (by kernel_rfl)) (by kernel_rfl) ((by kernel_rfl : (f84.start k a0_0).run Empty.elim = f84 k a0_0).trans h)
theorem sf84_ok (k : Nat) : SumOk Try.prog CC0 P0 G 84 (sf84 k) := by
 intro as0' os0' lk r l h0'
 unfold sf84 at h0'
 obtain ⟨v0, as1', rfl, h1'⟩ := lH_runs h0'; obtain ⟨rfl, h2'⟩ := lT_runs h1'; obtain ⟨rfl, h3'⟩ := lT_runs h2'; obtain ⟨a0_0, e1, h4'⟩ := argS_runs h3'; obtain ⟨z', hz', h⟩ := call_runs h4'
 obtain ⟨rfl, rfl⟩ := runs_ret.1 h; exact ⟨rfl, by simp only [List.map_cons, List.map_nil, e1]; exact f84_ok hz'⟩
end Go.Proofs.Ytfjoamlgbegpgaa.P
namespace Go.Proofs.Ytfjoamlgbegpgaa.P
open Go Go.Proofs.Ytfjoamlgbegpgaa.PM Go.Proofs.Ytfjoamlgbegpgaa.PN Go.Proofs
set_option maxRecDepth 100000
set_option linter.unusedVariables false
def envf43 (k : Nat) : Ev El := envOf CC0 [(84, sf84 k)]
theorem envf43_ok (k : Nat) : EvOk Try.prog CC0 P0 G (envf43 k) := env_ok (sums_cons (sf84_ok k) (sums_nil))
def ktf43 : Nat → Nat → Nat := fun rid q => 0
theorem f43_ok {k : Nat} {a0_0 : List S80} {r : Bool} (h : f43 k a0_0 = some r) : callT Try.prog CC0 P0 43 (List.map (denV G) [.sl 1 a0_0 []]) (List.map (denO G) []) = some (denV G (f43.o a0_0 r).1, List.map (denO G) (f43.o a0_0 r).2) :=
 fn_ok (k := k) (E := envf43) (kt := ktf43) (start := f43.start k a0_0) (stt := f43.st) (o := f43.o a0_0) (h0 := .all) (D := f43.D) (blk := f43.blk) (hint := f43.hint) (objs := []) G_ok envf43_ok rfl Try.func43 rfl (by kernel_rfl) (by kernel_rfl) rfl (Nat.le_of_ble_eq_true (by kernel_rfl)) (fun x => by cases x <;> kernel_rfl) (fun k x => by cases x <;> kernel_rfl) (fun k x => by cases x <;> kernel_rfl) (by kernel_rfl) ((by kernel_rfl : (f43.start k a0_0).run (f43.D k) = f43 k a0_0).trans h)
theorem sf43_ok (k : Nat) : SumOk Try.prog CC0 P0 G 43 (sf43 k) := by
 intro as0' os0' lk r l h0'
 unfold sf43 at h0'
 obtain ⟨v0, as1', rfl, h1'⟩ := lH_runs h0'; obtain ⟨rfl, h2'⟩ := lT_runs h1'; obtain ⟨rfl, h3'⟩ := lT_runs h2'; obtain ⟨a0_0, e1, h4'⟩ := argL_runs h3'; obtain ⟨z', hz', h⟩ := call_runs h4'
 obtain ⟨rfl, rfl⟩ := runs_ret.1 h; exact ⟨rfl, by simp only [List.map_cons, List.map_nil, e1]; exact f43_ok hz'⟩
end Go.Proofs.Ytfjoamlgbegpgaa.P
namespace Go.Proofs.Ytfjoamlgbegpgaa.P
open Go Go.Proofs.Ytfjoamlgbegpgaa.PM Go.Proofs.Ytfjoamlgbegpgaa.PN Go.Proofs
set_option maxRecDepth 100000
set_option linter.unusedVariables false
def envf52 (k : Nat) : Ev El := envOf CC0 []
theorem envf52_ok (k : Nat) : EvOk Try.prog CC0 P0 G (envf52 k) := env_ok (sums_nil)
def ktf52 : Nat → Nat → Nat := fun rid q => 0
theorem f52_ok {k : Nat} {a0_0 : List S80} {a1_0 : ByteArray} {r : Int} (h : f52 k a0_0 a1_0 = some r) : callT Try.prog CC0 P0 52 (List.map (denV G) [.sl 1 a0_0 [], .s a1_0]) (List.map (denO G) []) = some (denV G (f52.o a0_0 a1_0 r).1, List.map (denO G) (f52.o a0_0 a1_0 r).2) :=
 fn_ok (k := k) (E := envf52) (kt := ktf52) (start := f52.start k a0_0 a1_0) (stt := f52.st) (o := f52.o a0_0 a1_0) (h0 := .all) (D := f52.D) (blk := f52.blk) (hint := f52.hint) (objs := []) G_ok envf52_ok rfl Try.func52 rfl (by kernel_rfl) (by kernel_rfl) rfl (Nat.le_of_ble_eq_true (by kernel_rfl)) (fun x => by cases x <;> kernel_rfl) (fun k x => by cases x <;> kernel_rfl) (fun k x => by cases x <;> kernel_rfl) (by kernel_rfl) ((by kernel_rfl : (f52.start k a0_0 a1_0).run (f52.D k) = f52 k a0_0 a1_0).trans h)
theorem sf52_ok (k : Nat) : SumOk Try.prog CC0 P0 G 52 (sf52 k) := by
 intro as0' os0' lk r l h0'
 unfold sf52 at h0'
 obtain ⟨v0, as1', rfl, h1'⟩ := lH_runs h0'; obtain ⟨v1, as2', rfl, h2'⟩ := lH_runs h1'; obtain ⟨rfl, h3'⟩ := lT_runs h2'; obtain ⟨rfl, h4'⟩ := lT_runs h3'; obtain ⟨a0_0, e1, h5'⟩ := argL_runs h4'; obtain ⟨a1_0, e2, h6'⟩ := argS_runs h5'; obtain ⟨z', hz', h⟩ := call_runs h6'
 obtain ⟨rfl, rfl⟩ := runs_ret.1 h; exact ⟨rfl, by simp only [List.map_cons, List.map_nil, e1, e2]; exact f52_ok hz'⟩
end Go.Proofs.Ytfjoamlgbegpgaa.P
namespace Go.Proofs.Ytfjoamlgbegpgaa.P
open Go Go.Proofs.Ytfjoamlgbegpgaa.PM Go.Proofs.Ytfjoamlgbegpgaa.PN Go.Proofs
set_option maxRecDepth 100000
set_option linter.unusedVariables false
def envf85 (k : Nat) : Ev El := envOf CC0 []
theorem envf85_ok (k : Nat) : EvOk Try.prog CC0 P0 G (envf85 k) := env_ok (sums_nil)
def ktf85 : Nat → Nat → Nat := fun rid q => 0
theorem f85_ok {k : Nat} {a0_0 : List S80} {a1_0 : ByteArray} {a2_0 : ByteArray} {r : (List S80)} (h : f85 k a0_0 a1_0 a2_0 = some r) : callT Try.prog CC0 P0 85 (List.map (denV G) [.sl 1 a0_0 [], .s a1_0, .s a2_0]) (List.map (denO G) []) = some (denV G (f85.o a0_0 a1_0 a2_0 r).1, List.map (denO G) (f85.o a0_0 a1_0 a2_0 r).2) :=
 fn_ok (k := k) (E := envf85) (kt := ktf85) (start := f85.start k a0_0 a1_0 a2_0) (stt := f85.st) (o := f85.o a0_0 a1_0 a2_0) (h0 := .all) (D := f85.D) (blk := f85.blk) (hint := f85.hint) (objs := []) G_ok envf85_ok rfl Try.func85 rfl (by kernel_rfl) (by kernel_rfl) rfl (Nat.le_of_ble_eq_true (by kernel_rfl)) (fun x => by cases x <;> kernel_rfl) (fun k x => by cases x <;> kernel_rfl) (fun k x => by cases x <;> kernel_rfl) (by kernel_rfl) ((by kernel_rfl : (f85.start k a0_0 a1_0 a2_0).run (f85.D k) = f85 k a0_0 a1_0 a2_0).trans h)
theorem sf85_ok (k : Nat) : SumOk Try.prog CC0 P0 G 85 (sf85 k) := by
 intro as0' os0' lk r l h0'
 unfold sf85 at h0'
 obtain ⟨v0, as1', rfl, h1'⟩ := lH_runs h0'; obtain ⟨v1, as2', rfl, h2'⟩ := lH_runs h1'; obtain ⟨v2, as3', rfl, h3'⟩ := lH_runs h2'; obtain ⟨rfl, h4'⟩ := lT_runs h3'; obtain ⟨rfl, h5'⟩ := lT_runs h4'; obtain ⟨a0_0, e1, h6'⟩ := argL_runs h5'; obtain ⟨a1_0, e2, h7'⟩ := argS_runs h6'; obtain ⟨a2_0, e3, h8'⟩ := argS_runs h7'; obtain ⟨z', hz', h⟩ := call_runs h8'
 obtain ⟨rfl, rfl⟩ := runs_ret.1 h; exact ⟨rfl, by simp only [List.map_cons, List.map_nil, e1, e2, e3]; exact f85_ok hz'⟩
end Go.Proofs.Ytfjoamlgbegpgaa.P
namespace Go.Proofs.Ytfjoamlgbegpgaa.P
open Go Go.Proofs.Ytfjoamlgbegpgaa.PM Go.Proofs.Ytfjoamlgbegpgaa.PN Go.Proofs
set_option maxRecDepth 100000
set_option linter.unusedVariables false
def envf86 (k : Nat) : Ev El := envOf CC0 []
theorem envf86_ok (k : Nat) : EvOk Try.prog CC0 P0 G (envf86 k) := env_ok (sums_nil)
def ktf86 : Nat → Nat → Nat := fun rid q => 0
theorem f86_ok {k : Nat} {a0_0 : List S80} {a1_0 : ByteArray} {r : (List S80)} (h : f86 k a0_0 a1_0 = some r) : callT Try.prog CC0 P0 86 (List.map (denV G) [.sl 1 a0_0 [], .s a1_0]) (List.map (denO G) []) = some (denV G (f86.o a0_0 a1_0 r).1, List.map (denO G) (f86.o a0_0 a1_0 r).2) :=
 fn_ok (k := k) (E := envf86) (kt := ktf86) (start := f86.start k a0_0 a1_0) (stt := f86.st) (o := f86.o a0_0 a1_0) (h0 := .all) (D := f86.D) (blk := f86.blk) (hint := f86.hint) (objs := []) G_ok envf86_ok rfl Try.func86 rfl (by kernel_rfl) (by kernel_rfl) rfl (Nat.le_of_ble_eq_true (by kernel_rfl)) (fun x => by cases x <;> kernel_rfl) (fun k x => by cases x <;> kernel_rfl) (fun k x => by cases x <;> kernel_rfl) (by kernel_rfl) ((by kernel_rfl : (f86.start k a0_0 a1_0).run (f86.D k) = f86 k a0_0 a1_0).trans h)
theorem sf86_ok (k : Nat) : SumOk Try.prog CC0 P0 G 86 (sf86 k) := by
 intro as0' os0' lk r l h0'
 unfold sf86 at h0'
 obtain ⟨v0, as1', rfl, h1'⟩ := lH_runs h0'; obtain ⟨v1, as2', rfl, h2'⟩ := lH_runs h1'; obtain ⟨rfl, h3'⟩ := lT_runs h2'; obtain ⟨rfl, h4'⟩ := lT_runs h3'; obtain ⟨a0_0, e1, h5'⟩ := argL_runs h4'; obtain ⟨a1_0, e2, h6'⟩ := argS_runs h5'; obtain ⟨z', hz', h⟩ := call_runs h6'
 obtain ⟨rfl, rfl⟩ := runs_ret.1 h; exact ⟨rfl, by simp only [List.map_cons, List.map_nil, e1, e2]; exact f86_ok hz'⟩
end Go.Proofs.Ytfjoamlgbegpgaa.P
namespace Go.Proofs.Ytfjoamlgbegpgaa.P
open Go Go.Proofs.Ytfjoamlgbegpgaa.PM Go.Proofs.Ytfjoamlgbegpgaa.PN Go.Proofs
set_option maxRecDepth 100000
set_option linter.unusedVariables false
def envf44 (k : Nat) : Ev El := envOf CC0 [(52, sf52 k), (85, sf85 k), (86, sf86 k)]
theorem envf44_ok (k : Nat) : EvOk Try.prog CC0 P0 G (envf44 k) := env_ok (sums_cons (sf52_ok k) (sums_cons (sf85_ok k) (sums_cons (sf86_ok k) (sums_nil))))
def ktf44 : Nat → Nat → Nat := fun rid q => 0
theorem f44_ok {k : Nat} {a0_0 : List S80} {a1_0 : Int} {a1_1 : ByteArray} {a1_2 : ByteArray} {a1_3 : ByteArray} {r : Bool × (List S80)} (h : f44 k a0_0 a1_0 a1_1 a1_2 a1_3 = some r) : callT Try.prog CC0 P0 44 (List.map (denV G) [.sl 1 a0_0 [], .agg [.id .i64 0 a1_0, .s a1_1, .s a1_2, .s a1_3]]) (List.map (denO G) []) = some (denV G (f44.o a0_0 a1_0 a1_1 a1_2 a1_3 r).1, List.map (denO G) (f44.o a0_0 a1_0 a1_1 a1_2 a1_3 r).2) :=
 fn_ok0 (k := k) (E := envf44) (kt := ktf44) (start := f44.start k a0_0 a1_0 a1_1 a1_2 a1_3) (o := f44.o a0_0 a1_0 a1_1 a1_2 a1_3) (h0 := .all) (objs := []) G_ok envf44_ok rfl Try.func44 rfl (by kernel_rfl) (by kernel_rfl) rfl (Nat.le_of_ble_eq_true (by kernel_rfl)) (by kernel_rfl) ((by kernel_rfl : (f44.start k a0_0 a1_0 a1_1 a1_2 a1_3).run Empty.elim = f44 k a0_0 a1_0 a1_1 a1_2 a1_3).trans h)
theorem sf44_ok (k : Nat) : SumOk Try.prog CC0 P0 G 44 (sf44 k) := by
 intro as0' os0' lk r l h0'
 unfold sf44 at h0'
 obtain ⟨v0, as1', rfl, h1'⟩ := lH_runs h0'; obtain ⟨v1, as2', rfl, h2'⟩ := lH_runs h1'; obtain ⟨rfl, h3'⟩ := lT_runs h2'; obtain ⟨rfl, h4'⟩ := lT_runs h3'; obtain ⟨a0_0, e1, h5'⟩ := argL_runs h4'; obtain ⟨b1', e2, h6'⟩ := argA_runs h5'; obtain ⟨y2', r2', e3, h7'⟩ := argH_runs h6'; obtain ⟨y3', r3', e4, h8'⟩ := argH_runs h7'; obtain ⟨y4', r4', e5, h9'⟩ := argH_runs h8'; obtain ⟨y5', r5', e6, h10'⟩ := argH_runs h9'; obtain ⟨e7, h11'⟩ := argT_runs h10'; obtain ⟨a1_0, e8, h12'⟩ := argI_runs h11'; obtain ⟨a1_1, e9, h13'⟩ := argS_runs h12'; obtain ⟨a1_2, e10, h14'⟩ := argS_runs h13'; obtain ⟨a1_3, e11, h15'⟩ := argS_runs h14'; obtain ⟨z', hz', h⟩ := call_runs h15'
 obtain ⟨rfl, rfl⟩ := runs_ret.1 h; exact ⟨rfl, by simp only [List.map_cons, List.map_nil, e1, e2, e3, e4, e5, e6, e7, e8, e9, e10, e11]; exact f44_ok hz'⟩
end Go.Proofs.Ytfjoamlgbegpgaa.P
namespace Go.Proofs.Ytfjoamlgbegpgaa.P
open Go Go.Proofs.Ytfjoamlgbegpgaa.PM Go.Proofs.Ytfjoamlgbegpgaa.PN Go.Proofs
set_option maxRecDepth 100000
set_option linter.unusedVariables false
def envf58 (k : Nat) : Ev El := envOf CC0 []
theorem envf58_ok (k : Nat) : EvOk Try.prog CC0 P0 G (envf58 k) := env_ok (sums_nil)
def ktf58 : Nat → Nat → Nat := fun rid q => 0
theorem f58_ok {k : Nat} {a0_0 : Int} {a1_0 : Int} {a2_0 : Int} {r : Bool} (h : f58 k a0_0 a1_0 a2_0 = some r) : callT Try.prog CC0 P0 58 (List.map (denV G) [.id .i64 1 a0_0, .id .i64 2 a1_0, .id .i64 3 a2_0]) (List.map (denO G) []) = some (denV G (f58.o a0_0 a1_0 a2_0 r).1, List.map (denO G) (f58.o a0_0 a1_0 a2_0 r).2) :=
 fn_ok0 (k := k) (E := envf58) (kt := ktf58) (start := f58.start k a0_0 a1_0 a2_0) (o := f58.o a0_0 a1_0 a2_0) (h0 := (.both (.l (.l (.l .all))) (.r (.r (.r .all))))) (objs := []) G_ok envf58_ok rfl Try.func58 rfl (by kernel_rfl) (by kernel_rfl) rfl (Nat.le_of_ble_eq_true (by kernel_rfl)) (by kernel_rfl) ((by kernel_rfl : (f58.start k a0_0 a1_0 a2_0).run Empty.elim = f58 k a0_0 a1_0 a2_0).trans h)
theorem sf58_ok (k : Nat) : SumOk Try.prog CC0 P0 G 58 (sf58 k) := by
 intro as0' os0' lk r l h0'
 unfold sf58 at h0'
 obtain ⟨v0, as1', rfl, h1'⟩ := lH_runs h0'; obtain ⟨v1, as2', rfl, h2'⟩ := lH_runs h1'; obtain ⟨v2, as3', rfl, h3'⟩ := lH_runs h2'; obtain ⟨rfl, h4'⟩ := lT_runs h3'; obtain ⟨rfl, h5'⟩ := lT_runs h4'; obtain ⟨a0_0, e1, h6'⟩ := argI_runs h5'; obtain ⟨a1_0, e2, h7'⟩ := argI_runs h6'; obtain ⟨a2_0, e3, h8'⟩ := argI_runs h7'; obtain ⟨z', hz', h⟩ := call_runs h8'
 obtain ⟨rfl, rfl⟩ := runs_ret.1 h; exact ⟨rfl, by simp only [List.map_cons, List.map_nil, e1, e2, e3]; exact f58_ok hz'⟩
end Go.Proofs.Ytfjoamlgbegpgaa.P
namespace Go.Proofs.Ytfjoamlgbegpgaa.P
open Go Go.Proofs.Ytfjoamlgbegpgaa.PM Go.Proofs.Ytfjoamlgbegpgaa.PN Go.Proofs
set_option maxRecDepth 100000
set_option linter.unusedVariables false
def envf45 (k : Nat) : Ev El := envOf CC0 [(58, sf58 k), (84, sf84 k)]
theorem envf45_ok (k : Nat) : EvOk Try.prog CC0 P0 G (envf45 k) := env_ok (sums_cons (sf58_ok k) (sums_cons (sf84_ok k) (sums_nil)))
def ktf45 : Nat → Nat → Nat := fun rid q => 0
theorem f45_ok {k : Nat} {a0_0 : Int} {a0_1 : ByteArray} {a0_2 : ByteArray} {a0_3 : ByteArray} {r : Bool} (h : f45 k a0_0 a0_1 a0_2 a0_3 = some r) : callT Try.prog CC0 P0 45 (List.map (denV G) [.agg [.id .i64 0 a0_0, .s a0_1, .s a0_2, .s a0_3]]) (List.map (denO G) []) = some (denV G (f45.o a0_0 a0_1 a0_2 a0_3 r).1, List.map (denO G) (f45.o a0_0 a0_1 a0_2 a0_3 r).2) :=
 fn_ok0 (k := k) (E := envf45) (kt := ktf45) (start := f45.start k a0_0 a0_1 a0_2 a0_3) (o := f45.o a0_0 a0_1 a0_2 a0_3) (h0 := (.skip (.both (.l (.l (.skip (.l (.l (.both (.both (.skip (.both (.l (.l (.l .all))) (.r (.r (.r .all))))) (.both (.l (.l (.l (.both (.l (.l (.l (.l (.l .all))))) (.r (.r (.l (.r (.l .all))))))))) (.r (.r (.r (.r (.r .all))))))) .all)))))) (.r (.r (.r (.r .all))))))) (objs := []) G_ok envf45_ok rfl Try.func45 rfl (by kernel_rfl) (by kernel_rfl) rfl (Nat.le_of_ble_eq_true (by kernel_rfl)) (by kernel_rfl) ((by kernel_rfl : (f45.start k a0_0 a0_1 a0_2 a0_3).run Empty.elim = f45 k a0_0 a0_1 a0_2 a0_3).trans h)
theorem sf45_ok (k : Nat) : SumOk Try.prog CC0 P0 G 45 (sf45 k) := by
 intro as0' os0' lk r l h0'
 unfold sf45 at h0'
 obtain ⟨v0, as1', rfl, h1'⟩ := lH_runs h0'; obtain ⟨rfl, h2'⟩ := lT_runs h1'; obtain ⟨rfl, h3'⟩ := lT_runs h2'; obtain ⟨b1', e1, h4'⟩ := argA_runs h3'; obtain ⟨y2', r2', e2, h5'⟩ := argH_runs h4'; obtain ⟨y3', r3', e3, h6'⟩ := argH_runs h5'; obtain ⟨y4', r4', e4, h7'⟩ := argH_runs h6'; obtain ⟨y5', r5', e5, h8'⟩ := argH_runs h7'; obtain ⟨e6, h9'⟩ := argT_runs h8'; obtain ⟨a0_0, e7, h10'⟩ := argI_runs h9'; obtain ⟨a0_1, e8, h11'⟩ := argS_runs h10'; obtain ⟨a0_2, e9, h12'⟩ := argS_runs h11'; obtain ⟨a0_3, e10, h13'⟩ := argS_runs h12'; obtain ⟨z', hz', h⟩ := call_runs h13'
 obtain ⟨rfl, rfl⟩ := runs_ret.1 h; exact ⟨rfl, by simp only [List.map_cons, List.map_nil, e1, e2, e3, e4, e5, e6, e7, e8, e9, e10]; exact f45_ok hz'⟩
end Go.Proofs.Ytfjoamlgbegpgaa.P
namespace Go.Proofs.Ytfjoamlgbegpgaa.P
open Go Go.Proofs.Ytfjoamlgbegpgaa.PM Go.Proofs.Ytfjoamlgbegpgaa.PN Go.Proofs
set_option maxRecDepth 100000
set_option linter.unusedVariables false
def envf46 (k : Nat) : Ev El := envOf CC0 []
theorem envf46_ok (k : Nat) : EvOk Try.prog CC0 P0 G (envf46 k) := env_ok (sums_nil)
def ktf46 : Nat → Nat → Nat := fun rid q => 0
theorem f46_ok {k : Nat} {a0_0 : List S80} {a1_0 : List S80} {r : Bool} (h : f46 k a0_0 a1_0 = some r) : callT Try.prog CC0 P0 46 (List.map (denV G) [.sl 1 a0_0 [], .sl 1 a1_0 []]) (List.map (denO G) []) = some (denV G (f46.o a0_0 a1_0 r).1, List.map (denO G) (f46.o a0_0 a1_0 r).2) :=
 fn_ok (k := k) (E := envf46) (kt := ktf46) (start := f46.start k a0_0 a1_0) (stt := f46.st) (o := f46.o a0_0 a1_0) (h0 := .all) (D := f46.D) (blk := f46.blk) (hint := f46.hint) (objs := []) G_ok envf46_ok rfl Try.func46 rfl (by kernel_rfl) (by kernel_rfl) rfl (Nat.le_of_ble_eq_true (by kernel_rfl)) (fun x => by cases x <;> kernel_rfl) (fun k x => by cases x <;> kernel_rfl) (fun k x => by cases x <;> kernel_rfl) (by kernel_rfl) ((by kernel_rfl : (f46.start k a0_0 a1_0).run (f46.D k) = f46 k a0_0 a1_0).trans h)
theorem sf46_ok (k : Nat) : SumOk Try.prog CC0 P0 G 46 (sf46 k) := by
 intro as0' os0' lk r l h0'
 unfold sf46 at h0'
 obtain ⟨v0, as1', rfl, h1'⟩ := lH_runs h0'; obtain ⟨v1, as2', rfl, h2'⟩ := lH_runs h1'; obtain ⟨rfl, h3'⟩ := lT_runs h2'; obtain ⟨rfl, h4'⟩ := lT_runs h3'; obtain ⟨a0_0, e1, h5'⟩ := argL_runs h4'; obtain ⟨a1_0, e2, h6'⟩ := argL_runs h5'; obtain ⟨z', hz', h⟩ := call_runs h6'
 obtain ⟨rfl, rfl⟩ := runs_ret.1 h; exact ⟨rfl, by simp only [List.map_cons, List.map_nil, e1, e2]; exact f46_ok hz'⟩
end Go.Proofs.Ytfjoamlgbegpgaa.P
namespace Go.Proofs.Ytfjoamlgbegpgaa.P
open Go Go.Proofs.Ytfjoamlgbegpgaa.PM Go.Proofs.Ytfjoamlgbegpgaa.PN Go.Proofs
set_option maxRecDepth 100000
set_option linter.unusedVariables false
def envf13 (k : Nat) : Ev El := envOf CC0 [(43, sf43 k), (44, sf44 k), (45, sf45 k), (46, sf46 k)]
theorem envf13_ok (k : Nat) : EvOk Try.prog CC0 P0 G (envf13 k) := env_ok (sums_cons (sf43_ok k) (sums_cons (sf44_ok k) (sums_cons (sf45_ok k) (sums_cons (sf46_ok k) (sums_nil)))))
def ktf13 : Nat → Nat → Nat := fun rid q => if rid = 5 ∧ q = 3 then 1 else 0
theorem f13_ok {k : Nat} {a0_0 : List S80} {a0_1 : List S80} {a0_2 : List S73} {r : Bool} (h : f13 k a0_0 a0_1 a0_2 = some r) : callT Try.prog CC0 P0 13 (List.map (denV G) [.agg [.sl 1 a0_0 [], .sl 1 a0_1 [], .sl 2 a0_2 []]]) (List.map (denO G) []) = some (denV G (f13.o a0_0 a0_1 a0_2 r).1, List.map (denO G) (f13.o a0_0 a0_1 a0_2 r).2) :=
 fn_ok (k := k) (E := envf13) (kt := ktf13) (start := f13.start k a0_0 a0_1 a0_2) (stt := f13.st) (o := f13.o a0_0 a0_1 a0_2) (h0 := (.skip (.both (.l (.l (.skip (.l (.l (.both (.l (.l (.l (.l .all)))) (.r (.r (.r (.r .all)))))))))) (.r (.r (.r (.r .all))))))) (D := f13.D) (blk := f13.blk) (hint := f13.hint) (objs := []) G_ok envf13_ok rfl Try.func13 rfl (by kernel_rfl) (by kernel_rfl) rfl (Nat.le_of_ble_eq_true (by kernel_rfl)) (fun x => by cases x <;> kernel_rfl) (fun k x => by cases x <;> kernel_rfl) (fun k x => by cases x <;> kernel_rfl) (by kernel_rfl) ((by kernel_rfl : (f13.start k a0_0 a0_1 a0_2).run (f13.D k) = f13 k a0_0 a0_1 a0_2).trans h)
theorem sf13_ok (k : Nat) : SumOk Try.prog CC0 P0 G 13 (sf13 k) := by
 intro as0' os0' lk r l h0'
 unfold sf13 at h0'
 obtain ⟨v0, as1', rfl, h1'⟩ := lH_runs h0'; obtain ⟨rfl, h2'⟩ := lT_runs h1'; obtain ⟨rfl, h3'⟩ := lT_runs h2'; obtain ⟨b1', e1, h4'⟩ := argA_runs h3'; obtain ⟨y2', r2', e2, h5'⟩ := argH_runs h4'; obtain ⟨y3', r3', e3, h6'⟩ := argH_runs h5'; obtain ⟨y4', r4', e4, h7'⟩ := argH_runs h6'; obtain ⟨e5, h8'⟩ := argT_runs h7'; obtain ⟨a0_0, e6, h9'⟩ := argL_runs h8'; obtain ⟨a0_1, e7, h10'⟩ := argL_runs h9'; obtain ⟨a0_2, e8, h11'⟩ := argL_runs h10'; obtain ⟨z', hz', h⟩ := call_runs h11'
 obtain ⟨rfl, rfl⟩ := runs_ret.1 h; exact ⟨rfl, by simp only [List.map_cons, List.map_nil, e1, e2, e3, e4, e5, e6, e7, e8]; exact f13_ok hz'⟩
end Go.Proofs.Ytfjoamlgbegpgaa.P
namespace Go.Proofs.Ytfjoamlgbegpgaa.P
open Go Go.Proofs.Ytfjoamlgbegpgaa.PM Go.Proofs.Ytfjoamlgbegpgaa.PN Go.Proofs
set_option maxRecDepth 100000
set_option linter.unusedVariables false
def envf17 (k : Nat) : Ev El := envOf CC0 [(13, sf13 k), (52, sf52 k)]
theorem envf17_ok (k : Nat) : EvOk Try.prog CC0 P0 G (envf17 k) := env_ok (sums_cons (sf13_ok k) (sums_cons (sf52_ok k) (sums_nil)))
def ktf17 : Nat → Nat → Nat := fun rid q => 0
theorem f17_ok {k : Nat} {a0_0 : List S80} {a0_1 : List S80} {a0_2 : List S73} {a1_0 : ByteArray} {r : ByteArray × Bool} (h : f17 k a0_0 a0_1 a0_2 a1_0 = some r) : callT Try.prog CC0 P0 17 (List.map (denV G) [.agg [.sl 1 a0_0 [], .sl 1 a0_1 [], .sl 2 a0_2 []], .s a1_0]) (List.map (denO G) []) = some (denV G (f17.o a0_0 a0_1 a0_2 a1_0 r).1, List.map (denO G) (f17.o a0_0 a0_1 a0_2 a1_0 r).2) :=
 fn_ok0 (k := k) (E := envf17) (kt := ktf17) (start := f17.start k a0_0 a0_1 a0_2 a1_0) (o := f17.o a0_0 a0_1 a0_2 a1_0) (h0 := .all) (objs := []) G_ok envf17_ok rfl Try.func17 rfl (by kernel_rfl) (by kernel_rfl) rfl (Nat.le_of_ble_eq_true (by kernel_rfl)) (by kernel_rfl) ((by kernel_rfl : (f17.start k a0_0 a0_1 a0_2 a1_0).run Empty.elim = f17 k a0_0 a0_1 a0_2 a1_0).trans h)
theorem sf17_ok (k : Nat) : SumOk Try.prog CC0 P0 G 17 (sf17 k) := by
 intro as0' os0' lk r l h0'
 unfold sf17 at h0'
 obtain ⟨v0, as1', rfl, h1'⟩ := lH_runs h0'; obtain ⟨v1, as2', rfl, h2'⟩ := lH_runs h1'; obtain ⟨rfl, h3'⟩ := lT_runs h2'; obtain ⟨rfl, h4'⟩ := lT_runs h3'; obtain ⟨b1', e1, h5'⟩ := argA_runs h4'; obtain ⟨y2', r2', e2, h6'⟩ := argH_runs h5'; obtain ⟨y3', r3', e3, h7'⟩ := argH_runs h6'; obtain ⟨y4', r4', e4, h8'⟩ := argH_runs h7'; obtain ⟨e5, h9'⟩ := argT_runs h8'; obtain ⟨a0_0, e6, h10'⟩ := argL_runs h9'; obtain ⟨a0_1, e7, h11'⟩ := argL_runs h10'; obtain ⟨a0_2, e8, h12'⟩ := argL_runs h11'; obtain ⟨a1_0, e9, h13'⟩ := argS_runs h12'; obtain ⟨z', hz', h⟩ := call_runs h13'
 obtain ⟨rfl, rfl⟩ := runs_ret.1 h; exact ⟨rfl, by simp only [List.map_cons, List.map_nil, e1, e2, e3, e4, e5, e6, e7, e8, e9]; exact f17_ok hz'⟩
end Go.Proofs.Ytfjoamlgbegpgaa.P
namespace Go.Proofs.Ytfjoamlgbegpgaa.P
open Go Go.Proofs.Ytfjoamlgbegpgaa.PM Go.Proofs.Ytfjoamlgbegpgaa.PN Go.Proofs
set_option maxRecDepth 100000
set_option linter.unusedVariables false
theorem f100_ok {k : Nat} {a1_0 : Int} {a2_0 : Int} {o0 : List S80} {r : (List S80)} (h : f100 k a1_0 a2_0 o0 = some r) : callT Try.prog CC0 P0 100 [T.win 0 0 o0.length, T.sc (.int .i64 a1_0), T.sc (.int .i64 a2_0)] [Ob.mkRow 2 (List.map e80 o0)] = some (T.win 1 0 r.length, [(⟨true, false, true, true, 0, 2, List.map e80 o0⟩ : Ob), Ob.mkRow 2 (List.map e80 r)]) := by
 unfold f100 at h
 obtain ⟨⟨h0, h1, h2⟩, h⟩ := ite_l h
 obtain rfl := Option.some.inj h
 refine callT_prim (d := delD 2) rfl ?_
 have hl : (o0.take a1_0.toNat ++ o0.drop (a1_0.toNat + 1)).length = o0.length - 1 := by simp only [List.length_append, List.length_take, List.length_drop]; omega
 simp only [delD, List.length_map]
 rw [if_pos (by simp; omega), hl]
 simp [Ob.dead, Ob.mkRow]
theorem sf100_ok (k : Nat) : SumOk Try.prog CC0 P0 G 100 (sf100 k) := by
 intro as0' os0' lk r l h0'
 unfold sf100 at h0'
 obtain ⟨v0, as1', rfl, h1'⟩ := lH_runs h0'; obtain ⟨v1, as2', rfl, h2'⟩ := lH_runs h1'; obtain ⟨v2, as3', rfl, h3'⟩ := lH_runs h2'; obtain ⟨rfl, h4'⟩ := lT_runs h3'; obtain ⟨x0, os1', rfl, h5'⟩ := lH_runs h4'; obtain ⟨rfl, h6'⟩ := lT_runs h5'; obtain ⟨o0, e1, h7'⟩ := argR_runs h6'; obtain ⟨e2, h8'⟩ := argW_runs h7'; obtain ⟨a1_0, e3, h9'⟩ := argI_runs h8'; obtain ⟨a2_0, e4, h10'⟩ := argI_runs h9'; obtain ⟨z', hz', h⟩ := call_runs h10'
 obtain ⟨rfl, rfl⟩ := runs_ret.1 h; exact ⟨rfl, by simp only [List.map_cons, List.map_nil, e1, e2, e3, e4]; exact f100_ok hz'⟩
end Go.Proofs.Ytfjoamlgbegpgaa.P
namespace Go.Proofs.Ytfjoamlgbegpgaa.P
open Go Go.Proofs.Ytfjoamlgbegpgaa.PM Go.Proofs.Ytfjoamlgbegpgaa.PN Go.Proofs
set_option maxRecDepth 100000
set_option linter.unusedVariables false
def envf94 (k : Nat) : Ev El := envOf CC0 []
theorem envf94_ok (k : Nat) : EvOk Try.prog CC0 P0 G (envf94 k) := env_ok (sums_nil)
def ktf94 : Nat → Nat → Nat := fun rid q => 0
theorem f94_ok {k : Nat} {a0_0 : ByteArray} {a0_1 : ByteArray} {o0_0 : ByteArray} {r : Bool} (h : f94 k a0_0 a0_1 o0_0 = some r) : callT Try.prog CC0 P0 94 (List.map (denV G) [.agg [.s a0_0, .s a0_1], .ptr 0 (.l 0) 0]) (List.map (denO G) [.box true true 0 1 false [.s o0_0]]) = some (denV G (f94.o a0_0 a0_1 o0_0 r).1, List.map (denO G) (f94.o a0_0 a0_1 o0_0 r).2) :=
 fn_ok0 (k := k) (E := envf94) (kt := ktf94) (start := f94.start k a0_0 a0_1 o0_0) (o := f94.o a0_0 a0_1 o0_0) (h0 := .all) (objs := [.box true true 0 1 false [.s o0_0]]) G_ok envf94_ok rfl Try.func94 rfl (by kernel_rfl) (by kernel_rfl) rfl (Nat.le_of_ble_eq_true (by kernel_rfl)) (by kernel_rfl) ((by kernel_rfl : (f94.start k a0_0 a0_1 o0_0).run Empty.elim = f94 k a0_0 a0_1 o0_0).trans h)
theorem sf94_ok (k : Nat) : SumOk Try.prog CC0 P0 G 94 (sf94 k) := by
 intro as0' os0' lk r l h0'
 unfold sf94 at h0'
 obtain ⟨v0, as1', rfl, h1'⟩ := lH_runs h0'; obtain ⟨v1, as2', rfl, h2'⟩ := lH_runs h1'; obtain ⟨rfl, h3'⟩ := lT_runs h2'; obtain ⟨x0, os1', rfl, h4'⟩ := lH_runs h3'; obtain ⟨rfl, h5'⟩ := lT_runs h4'; obtain ⟨b1', e1, h6'⟩ := argX_runs h5'; obtain ⟨y2', r2', e2, h7'⟩ := argH_runs h6'; obtain ⟨e3, h8'⟩ := argT_runs h7'; obtain ⟨o0_0, e4, h9'⟩ := argS_runs h8'; obtain ⟨b3', e5, h10'⟩ := argA_runs h9'; obtain ⟨y4', r4', e6, h11'⟩ := argH_runs h10'; obtain ⟨y5', r5', e7, h12'⟩ := argH_runs h11'; obtain ⟨e8, h13'⟩ := argT_runs h12'; obtain ⟨a0_0, e9, h14'⟩ := argS_runs h13'; obtain ⟨a0_1, e10, h15'⟩ := argS_runs h14'; obtain ⟨e11, h16'⟩ := argV_runs h15'; obtain ⟨z', hz', h⟩ := call_runs h16'
 obtain ⟨rfl, rfl⟩ := runs_ret.1 h; exact ⟨rfl, by simp only [List.map_cons, List.map_nil, e1, e2, e3, e4, e5, e6, e7, e8, e9, e10, e11]; exact f94_ok hz'⟩
end Go.Proofs.Ytfjoamlgbegpgaa.P
namespace Go.Proofs.Ytfjoamlgbegpgaa.P
open Go Go.Proofs.Ytfjoamlgbegpgaa.PM Go.Proofs.Ytfjoamlgbegpgaa.PN Go.Proofs
set_option maxRecDepth 100000
set_option linter.unusedVariables false
def envf93 (k : Nat) : Ev El := envOf CC0 [(94, sf94 k)]
theorem envf93_ok (k : Nat) : EvOk Try.prog CC0 P0 G (envf93 k) := env_ok (sums_cons (sf94_ok k) (sums_nil))
def ktf93 : Nat → Nat → Nat := fun rid q => 0
theorem f93_ok {k : Nat} {a0_0 : List S80} {o0_0 : ByteArray} {r : Int × ByteArray} (h : f93 k a0_0 o0_0 = some r) : callT Try.prog CC0 P0 93 (List.map (denV G) [.sl 1 a0_0 [], .fn 94 [.ptr 0 (.l 0) 0]]) (List.map (denO G) [.box true true 0 1 false [.s o0_0]]) = some (denV G (f93.o a0_0 o0_0 r).1, List.map (denO G) (f93.o a0_0 o0_0 r).2) :=
 fn_ok (k := k) (E := envf93) (kt := ktf93) (start := f93.start k a0_0 o0_0) (stt := f93.st) (o := f93.o a0_0 o0_0) (h0 := .all) (D := f93.D) (blk := f93.blk) (hint := f93.hint) (objs := [.box true true 0 1 false [.s o0_0]]) G_ok envf93_ok rfl Try.func93 rfl (by kernel_rfl) (by kernel_rfl) rfl (Nat.le_of_ble_eq_true (by kernel_rfl)) (fun x => by cases x <;> kernel_rfl) (fun k x => by cases x <;> kernel_rfl) (fun k x => by cases x <;> kernel_rfl) (by kernel_rfl) ((by kernel_rfl : (f93.start k a0_0 o0_0).run (f93.D k) = f93 k a0_0 o0_0).trans h)
theorem sf93_ok (k : Nat) : SumOk Try.prog CC0 P0 G 93 (sf93 k) := by
 intro as0' os0' lk r l h0'
 unfold sf93 at h0'
 obtain ⟨v0, as1', rfl, h1'⟩ := lH_runs h0'; obtain ⟨v1, as2', rfl, h2'⟩ := lH_runs h1'; obtain ⟨rfl, h3'⟩ := lT_runs h2'; obtain ⟨x0, os1', rfl, h4'⟩ := lH_runs h3'; obtain ⟨rfl, h5'⟩ := lT_runs h4'; obtain ⟨b1', e1, h6'⟩ := argX_runs h5'; obtain ⟨y2', r2', e2, h7'⟩ := argH_runs h6'; obtain ⟨e3, h8'⟩ := argT_runs h7'; obtain ⟨o0_0, e4, h9'⟩ := argS_runs h8'; obtain ⟨a0_0, e5, h10'⟩ := argL_runs h9'; obtain ⟨c3', e6, h11'⟩ := argF_runs h10'; obtain ⟨y4', r4', e7, h12'⟩ := argPH_runs h11'; obtain ⟨e8, h13'⟩ := argPT_runs h12'; obtain ⟨e9, h14'⟩ := argV_runs h13'; obtain ⟨z', hz', h⟩ := call_runs h14'
 obtain ⟨rfl, rfl⟩ := runs_ret.1 h; exact ⟨rfl, by simp only [List.map_cons, List.map_nil, e1, e2, e3, e4, e5, e6, e7, e8, e9]; exact f93_ok hz'⟩
end Go.Proofs.Ytfjoamlgbegpgaa.P
namespace Go.Proofs.Ytfjoamlgbegpgaa.P
open Go Go.Proofs.Ytfjoamlgbegpgaa.PM Go.Proofs.Ytfjoamlgbegpgaa.PN Go.Proofs
set_option maxRecDepth 100000
set_option linter.unusedVariables false
def envf53 (k : Nat) : Ev El := envOf CC0 [(93, sf93 k)]
theorem envf53_ok (k : Nat) : EvOk Try.prog CC0 P0 G (envf53 k) := env_ok (sums_cons (sf93_ok k) (sums_nil))
def ktf53 : Nat → Nat → Nat := fun rid q => 0
theorem f53_ok {k : Nat} {a0_0 : List S80} {a1_0 : ByteArray} {r : Int} (h : f53 k a0_0 a1_0 = some r) : callT Try.prog CC0 P0 53 (List.map (denV G) [.sl 1 a0_0 [], .s a1_0]) (List.map (denO G) []) = some (denV G (f53.o a0_0 a1_0 r).1, List.map (denO G) (f53.o a0_0 a1_0 r).2) :=
 fn_ok0 (k := k) (E := envf53) (kt := ktf53) (start := f53.start k a0_0 a1_0) (o := f53.o a0_0 a1_0) (h0 := .all) (objs := []) G_ok envf53_ok rfl Try.func53 rfl (by kernel_rfl) (by kernel_rfl) rfl (Nat.le_of_ble_eq_true (by kernel_rfl)) (by kernel_rfl) ((by kernel_rfl : (f53.start k a0_0 a1_0).run Empty.elim = f53 k a0_0 a1_0).trans h)
theorem sf53_ok (k : Nat) : SumOk Try.prog CC0 P0 G 53 (sf53 k) := by
 intro as0' os0' lk r l h0'
 unfold sf53 at h0'
 obtain ⟨v0, as1', rfl, h1'⟩ := lH_runs h0'; obtain ⟨v1, as2', rfl, h2'⟩ := lH_runs h1'; obtain ⟨rfl, h3'⟩ := lT_runs h2'; obtain ⟨rfl, h4'⟩ := lT_runs h3'; obtain ⟨a0_0, e1, h5'⟩ := argL_runs h4'; obtain ⟨a1_0, e2, h6'⟩ := argS_runs h5'; obtain ⟨z', hz', h⟩ := call_runs h6'
 obtain ⟨rfl, rfl⟩ := runs_ret.1 h; exact ⟨rfl, by simp only [List.map_cons, List.map_nil, e1, e2]; exact f53_ok hz'⟩
end Go.Proofs.Ytfjoamlgbegpgaa.P
namespace Go.Proofs.Ytfjoamlgbegpgaa.P
open Go Go.Proofs.Ytfjoamlgbegpgaa.PM Go.Proofs.Ytfjoamlgbegpgaa.PN Go.Proofs
set_option maxRecDepth 100000
set_option linter.unusedVariables false
def envf59 (k : Nat) : Ev El := envOf CC0 []
theorem envf59_ok (k : Nat) : EvOk Try.prog CC0 P0 G (envf59 k) := env_ok (sums_nil)
def ktf59 : Nat → Nat → Nat := fun rid q => 0
theorem f59_ok {k : Nat} {a0_0 : List S80} {r : (List S80)} (h : f59 k a0_0 = some r) : callT Try.prog CC0 P0 59 (List.map (denV G) [.sl 1 a0_0 []]) (List.map (denO G) []) = some (denV G (f59.o a0_0 r).1, List.map (denO G) (f59.o a0_0 r).2) :=
 fn_ok0 (k := k) (E := envf59) (kt := ktf59) (start := f59.start k a0_0) (o := f59.o a0_0) (h0 := .all) (objs := []) G_ok envf59_ok rfl Try.func59 rfl (by kernel_rfl) (by kernel_rfl) rfl (Nat.le_of_ble_eq_true (by kernel_rfl)) (by kernel_rfl) ((by kernel_rfl : (f59.start k a0_0).run Empty.elim = f59 k a0_0).trans h)
theorem sf59_ok (k : Nat) : SumOk Try.prog CC0 P0 G 59 (sf59 k) := by
 intro as0' os0' lk r l h0'
 unfold sf59 at h0'
 obtain ⟨v0, as1', rfl, h1'⟩ := lH_runs h0'; obtain ⟨rfl, h2'⟩ := lT_runs h1'; obtain ⟨rfl, h3'⟩ := lT_runs h2'; obtain ⟨a0_0, e1, h4'⟩ := argL_runs h3'; obtain ⟨z', hz', h⟩ := call_runs h4'
 obtain ⟨rfl, rfl⟩ := runs_ret.1 h; exact ⟨rfl, by simp only [List.map_cons, List.map_nil, e1]; exact f59_ok hz'⟩
end Go.Proofs.Ytfjoamlgbegpgaa.P
namespace Go.Proofs.Ytfjoamlgbegpgaa.P
open Go Go.Proofs.Ytfjoamlgbegpgaa.PM Go.Proofs.Ytfjoamlgbegpgaa.PN Go.Proofs
set_option maxRecDepth 100000
set_option linter.unusedVariables false
theorem f132_ok {k : Nat} {a0_0 : ByteArray} {a1_0 : ByteArray} {r : Int} (h : f132 k a0_0 a1_0 = some r) : callT Try.prog CC0 P0 132 [T.sc (.string a0_0), T.sc (.string a1_0)] [] = some (T.sc (.int .i64 r), []) := by
 unfold f132 at h
 obtain rfl := Option.some.inj h
 exact callT_prim (d := cmpD) rfl rfl
theorem sf132_ok (k : Nat) : SumOk Try.prog CC0 P0 G 132 (sf132 k) := by
 intro as0' os0' lk r l h0'
 unfold sf132 at h0'
 obtain ⟨v0, as1', rfl, h1'⟩ := lH_runs h0'; obtain ⟨v1, as2', rfl, h2'⟩ := lH_runs h1'; obtain ⟨rfl, h3'⟩ := lT_runs h2'; obtain ⟨rfl, h4'⟩ := lT_runs h3'; obtain ⟨a0_0, e1, h5'⟩ := argS_runs h4'; obtain ⟨a1_0, e2, h6'⟩ := argS_runs h5'; obtain ⟨z', hz', h⟩ := call_runs h6'
 obtain ⟨rfl, rfl⟩ := runs_ret.1 h; exact ⟨rfl, by simp only [List.map_cons, List.map_nil, e1, e2]; exact f132_ok hz'⟩
end Go.Proofs.Ytfjoamlgbegpgaa.P
namespace Go.Proofs.Ytfjoamlgbegpgaa.P
open Go Go.Proofs.Ytfjoamlgbegpgaa.PM Go.Proofs.Ytfjoamlgbegpgaa.PN Go.Proofs
set_option maxRecDepth 100000
set_option linter.unusedVariables false
def envf120 (k : Nat) : Ev El := envOf CC0 [(132, sf132 k)]
theorem envf120_ok (k : Nat) : EvOk Try.prog CC0 P0 G (envf120 k) := env_ok (sums_cons (sf132_ok k) (sums_nil))
def ktf120 : Nat → Nat → Nat := fun rid q => 0
theorem f120_ok {k : Nat} {a0_0 : ByteArray} {a1_0 : ByteArray} {r : Int} (h : f120 k a0_0 a1_0 = some r) : callT Try.prog CC0 P0 120 (List.map (denV G) [.s a0_0, .s a1_0]) (List.map (denO G) []) = some (denV G (f120.o a0_0 a1_0 r).1, List.map (denO G) (f120.o a0_0 a1_0 r).2) :=
 fn_ok0 (k := k) (E := envf120) (kt := ktf120) (start := f120.start k a0_0 a1_0) (o := f120.o a0_0 a1_0) (h0 := .all) (objs := []) G_ok envf120_ok rfl Try.func120 rfl (by kernel_rfl) (by kernel_rfl) rfl (Nat.le_of_ble_eq_true (by kernel_rfl)) (by kernel_rfl) ((by kernel_rfl : (f120.start k a0_0 a1_0).run Empty.elim = f120 k a0_0 a1_0).trans h)
theorem sf120_ok (k : Nat) : SumOk Try.prog CC0 P0 G 120 (sf120 k) := by
 intro as0' os0' lk r l h0'
 unfold sf120 at h0'
 obtain ⟨v0, as1', rfl, h1'⟩ := lH_runs h0'; obtain ⟨v1, as2', rfl, h2'⟩ := lH_runs h1'; obtain ⟨rfl, h3'⟩ := lT_runs h2'; obtain ⟨rfl, h4'⟩ := lT_runs h3'; obtain ⟨a0_0, e1, h5'⟩ := argS_runs h4'; obtain ⟨a1_0, e2, h6'⟩ := argS_runs h5'; obtain ⟨z', hz', h⟩ := call_runs h6'
 obtain ⟨rfl, rfl⟩ := runs_ret.1 h; exact ⟨rfl, by simp only [List.map_cons, List.map_nil, e1, e2]; exact f120_ok hz'⟩
end Go.Proofs.Ytfjoamlgbegpgaa.P
namespace Go.Proofs.Ytfjoamlgbegpgaa.P
open Go Go.Proofs.Ytfjoamlgbegpgaa.PM Go.Proofs.Ytfjoamlgbegpgaa.PN Go.Proofs
set_option maxRecDepth 100000
set_option linter.unusedVariables false
def envf119 (k : Nat) : Ev El := envOf CC0 [(120, sf120 k)]
theorem envf119_ok (k : Nat) : EvOk Try.prog CC0 P0 G (envf119 k) := env_ok (sums_cons (sf120_ok k) (sums_nil))
def ktf119 : Nat → Nat → Nat := fun rid q => 0
theorem f119_ok {k : Nat} {a0_0 : ByteArray} {a0_1 : ByteArray} {a1_0 : ByteArray} {r : Int} (h : f119 k a0_0 a0_1 a1_0 = some r) : callT Try.prog CC0 P0 119 (List.map (denV G) [.agg [.s a0_0, .s a0_1], .s a1_0]) (List.map (denO G) []) = some (denV G (f119.o a0_0 a0_1 a1_0 r).1, List.map (denO G) (f119.o a0_0 a0_1 a1_0 r).2) :=
 fn_ok0 (k := k) (E := envf119) (kt := ktf119) (start := f119.start k a0_0 a0_1 a1_0) (o := f119.o a0_0 a0_1 a1_0) (h0 := .all) (objs := []) G_ok envf119_ok rfl Try.func119 rfl (by kernel_rfl) (by kernel_rfl) rfl (Nat.le_of_ble_eq_true (by kernel_rfl)) (by kernel_rfl) ((by kernel_rfl : (f119.start k a0_0 a0_1 a1_0).run Empty.elim = f119 k a0_0 a0_1 a1_0).trans h)
theorem sf119_ok (k : Nat) : SumOk Try.prog CC0 P0 G 119 (sf119 k) := by
 intro as0' os0' lk r l h0'
 unfold sf119 at h0'
 obtain ⟨v0, as1', rfl, h1'⟩ := lH_runs h0'; obtain ⟨v1, as2', rfl, h2'⟩ := lH_runs h1'; obtain ⟨rfl, h3'⟩ := lT_runs h2'; obtain ⟨rfl, h4'⟩ := lT_runs h3'; obtain ⟨b1', e1, h5'⟩ := argA_runs h4'; obtain ⟨y2', r2', e2, h6'⟩ := argH_runs h5'; obtain ⟨y3', r3', e3, h7'⟩ := argH_runs h6'; obtain ⟨e4, h8'⟩ := argT_runs h7'; obtain ⟨a0_0, e5, h9'⟩ := argS_runs h8'; obtain ⟨a0_1, e6, h10'⟩ := argS_runs h9'; obtain ⟨a1_0, e7, h11'⟩ := argS_runs h10'; obtain ⟨z', hz', h⟩ := call_runs h11'
 obtain ⟨rfl, rfl⟩ := runs_ret.1 h; exact ⟨rfl, by simp only [List.map_cons, List.map_nil, e1, e2, e3, e4, e5, e6, e7]; exact f119_ok hz'⟩
end Go.Proofs.Ytfjoamlgbegpgaa.P
namespace Go.Proofs.Ytfjoamlgbegpgaa.P
open Go Go.Proofs.Ytfjoamlgbegpgaa.PM Go.Proofs.Ytfjoamlgbegpgaa.PN Go.Proofs
set_option maxRecDepth 100000
set_option linter.unusedVariables false
def envf118 (k : Nat) : Ev El := envOf CC0 [(119, sf119 k)]
theorem envf118_ok (k : Nat) : EvOk Try.prog CC0 P0 G (envf118 k) := env_ok (sums_cons (sf119_ok k) (sums_nil))
def ktf118 : Nat → Nat → Nat := fun rid q => 0
theorem f118_ok {k : Nat} {a0_0 : List S80} {a1_0 : ByteArray} {r : Int × Bool} (h : f118 k a0_0 a1_0 = some r) : callT Try.prog CC0 P0 118 (List.map (denV G) [.sl 1 a0_0 [], .s a1_0, .fn 119 []]) (List.map (denO G) []) = some (denV G (f118.o a0_0 a1_0 r).1, List.map (denO G) (f118.o a0_0 a1_0 r).2) :=
 fn_ok (k := k) (E := envf118) (kt := ktf118) (start := f118.start k a0_0 a1_0) (stt := f118.st) (o := f118.o a0_0 a1_0) (h0 := .all) (D := f118.D) (blk := f118.blk) (hint := f118.hint) (objs := []) G_ok envf118_ok rfl Try.func118 rfl (by kernel_rfl) (by kernel_rfl) rfl (Nat.le_of_ble_eq_true (by kernel_rfl)) (fun x => by cases x <;> kernel_rfl) (fun k x => by cases x <;> kernel_rfl) (fun k x => by cases x <;> kernel_rfl) (by kernel_rfl) ((by kernel_rfl : (f118.start k a0_0 a1_0).run (f118.D k) = f118 k a0_0 a1_0).trans h)
theorem sf118_ok (k : Nat) : SumOk Try.prog CC0 P0 G 118 (sf118 k) := by
 intro as0' os0' lk r l h0'
 unfold sf118 at h0'
 obtain ⟨v0, as1', rfl, h1'⟩ := lH_runs h0'; obtain ⟨v1, as2', rfl, h2'⟩ := lH_runs h1'; obtain ⟨v2, as3', rfl, h3'⟩ := lH_runs h2'; obtain ⟨rfl, h4'⟩ := lT_runs h3'; obtain ⟨rfl, h5'⟩ := lT_runs h4'; obtain ⟨a0_0, e1, h6'⟩ := argL_runs h5'; obtain ⟨a1_0, e2, h7'⟩ := argS_runs h6'; obtain ⟨c1', e3, h8'⟩ := argF_runs h7'; obtain ⟨e4, h9'⟩ := argPT_runs h8'; obtain ⟨z', hz', h⟩ := call_runs h9'
 obtain ⟨rfl, rfl⟩ := runs_ret.1 h; exact ⟨rfl, by simp only [List.map_cons, List.map_nil, e1, e2, e3, e4]; exact f118_ok hz'⟩
end Go.Proofs.Ytfjoamlgbegpgaa.P
namespace Go.Proofs.Ytfjoamlgbegpgaa.P
open Go Go.Proofs.Ytfjoamlgbegpgaa.PM Go.Proofs.Ytfjoamlgbegpgaa.PN Go.Proofs
set_option maxRecDepth 100000
set_option linter.unusedVariables false
theorem f121_ok {k : Nat} {a1_0 : Int} {o0 : List S80} {o1 : List S80} {r : (List S80)} (h : f121 k a1_0 o0 o1 = some r) : callT Try.prog CC0 P0 121 [T.win 0 0 o0.length, T.sc (.int .i64 a1_0), T.win 1 0 o1.length] [Ob.mkRow 2 (List.map e80 o0), Ob.mkRow 2 (List.map e80 o1)] = some (T.win 2 0 r.length, [(⟨true, false, true, true, 0, 2, List.map e80 o0⟩ : Ob), Ob.mkRow 2 (List.map e80 o1), Ob.mkRow 2 (List.map e80 r)]) := by
 unfold f121 at h
 obtain ⟨⟨h0, h1, h2, h3, h4⟩, h⟩ := ite_l h
 obtain rfl := Option.some.inj h
 obtain ⟨y, rfl⟩ := List.length_eq_one_iff.1 h2
 refine callT_prim (d := insD 2 32) rfl ?_
 have hl : (o0.take a1_0.toNat ++ ([y] ++ o0.drop a1_0.toNat)).length = o0.length + 1 := by simp only [List.length_append, List.length_take, List.length_cons, List.length_nil, List.length_drop]; omega
 show insD 2 32 [.win 0 0 o0.length, .sc (.int .i64 a1_0), .win 1 0 1] [Ob.mkRow 2 (o0.map e80), Ob.mkRow 2 [e80 y]] = _
 rw [insD_eq, if_pos (by simp only [w80, beq_self_eq_true, Bool.true_and, List.length_map, Bool.and_eq_true, decide_eq_true_eq]; exact ⟨by simp [e80, T.width, T.cells], h0, by omega, by trivial, by unfold most; omega, by unfold most; omega⟩), hl]
 simp [Ob.mkRow]
theorem sf121_ok (k : Nat) : SumOk Try.prog CC0 P0 G 121 (sf121 k) := by
 intro as0' os0' lk r l h0'
 unfold sf121 at h0'
 obtain ⟨v0, as1', rfl, h1'⟩ := lH_runs h0'; obtain ⟨v1, as2', rfl, h2'⟩ := lH_runs h1'; obtain ⟨v2, as3', rfl, h3'⟩ := lH_runs h2'; obtain ⟨rfl, h4'⟩ := lT_runs h3'; obtain ⟨x0, os1', rfl, h5'⟩ := lH_runs h4'; obtain ⟨x1, os2', rfl, h6'⟩ := lH_runs h5'; obtain ⟨rfl, h7'⟩ := lT_runs h6'; obtain ⟨o0, e1, h8'⟩ := argR_runs h7'; obtain ⟨o1, e2, h9'⟩ := argR_runs h8'; obtain ⟨e3, h10'⟩ := argW_runs h9'; obtain ⟨a1_0, e4, h11'⟩ := argI_runs h10'; obtain ⟨e5, h12'⟩ := argW_runs h11'; obtain ⟨z', hz', h⟩ := call_runs h12'
 obtain ⟨rfl, rfl⟩ := runs_ret.1 h; exact ⟨rfl, by simp only [List.map_cons, List.map_nil, e1, e2, e3, e4, e5]; exact f121_ok hz'⟩
end Go.Proofs.Ytfjoamlgbegpgaa.P
namespace Go.Proofs.Ytfjoamlgbegpgaa.P
open Go Go.Proofs.Ytfjoamlgbegpgaa.PM Go.Proofs.Ytfjoamlgbegpgaa.PN Go.Proofs
set_option maxRecDepth 100000
set_option linter.unusedVariables false
def envf99 (k : Nat) : Ev El := envOf CC0 [(59, sf59 k), (118, sf118 k), (121, sf121 k)]
theorem envf99_ok (k : Nat) : EvOk Try.prog CC0 P0 G (envf99 k) := env_ok (sums_cons (sf59_ok k) (sums_cons (sf118_ok k) (sums_cons (sf121_ok k) (sums_nil))))
def ktf99 : Nat → Nat → Nat := fun rid q => 0
theorem f99_ok {k : Nat} {a0_0 : List S80} {a1_0 : ByteArray} {a1_1 : ByteArray} {r : (List S80)} (h : f99 k a0_0 a1_0 a1_1 = some r) : callT Try.prog CC0 P0 99 (List.map (denV G) [.sl 1 a0_0 [], .agg [.s a1_0, .s a1_1]]) (List.map (denO G) []) = some (denV G (f99.o a0_0 a1_0 a1_1 r).1, List.map (denO G) (f99.o a0_0 a1_0 a1_1 r).2) :=
 fn_ok0 (k := k) (E := envf99) (kt := ktf99) (start := f99.start k a0_0 a1_0 a1_1) (o := f99.o a0_0 a1_0 a1_1) (h0 := .all) (objs := []) G_ok envf99_ok rfl Try.func99 rfl (by kernel_rfl) (by kernel_rfl) rfl (Nat.le_of_ble_eq_true (by kernel_rfl)) (by kernel_rfl) ((by kernel_rfl : (f99.start k a0_0 a1_0 a1_1).run Empty.elim = f99 k a0_0 a1_0 a1_1).trans h)
theorem sf99_ok (k : Nat) : SumOk Try.prog CC0 P0 G 99 (sf99 k) := by
 intro as0' os0' lk r l h0'
 unfold sf99 at h0'
 obtain ⟨v0, as1', rfl, h1'⟩ := lH_runs h0'; obtain ⟨v1, as2', rfl, h2'⟩ := lH_runs h1'; obtain ⟨rfl, h3'⟩ := lT_runs h2'; obtain ⟨rfl, h4'⟩ := lT_runs h3'; obtain ⟨a0_0, e1, h5'⟩ := argL_runs h4'; obtain ⟨b1', e2, h6'⟩ := argA_runs h5'; obtain ⟨y2', r2', e3, h7'⟩ := argH_runs h6'; obtain ⟨y3', r3', e4, h8'⟩ := argH_runs h7'; obtain ⟨e5, h9'⟩ := argT_runs h8'; obtain ⟨a1_0, e6, h10'⟩ := argS_runs h9'; obtain ⟨a1_1, e7, h11'⟩ := argS_runs h10'; obtain ⟨z', hz', h⟩ := call_runs h11'
 obtain ⟨rfl, rfl⟩ := runs_ret.1 h; exact ⟨rfl, by simp only [List.map_cons, List.map_nil, e1, e2, e3, e4, e5, e6, e7]; exact f99_ok hz'⟩
end Go.Proofs.Ytfjoamlgbegpgaa.P
namespace Go.Proofs.Ytfjoamlgbegpgaa.P
open Go Go.Proofs.Ytfjoamlgbegpgaa.PM Go.Proofs.Ytfjoamlgbegpgaa.PN Go.Proofs
set_option maxRecDepth 100000
set_option linter.unusedVariables false
def envf61 (k : Nat) : Ev El := envOf CC0 [(53, sf53 k), (59, sf59 k), (99, sf99 k), (100, sf100 k)]
theorem envf61_ok (k : Nat) : EvOk Try.prog CC0 P0 G (envf61 k) := env_ok (sums_cons (sf53_ok k) (sums_cons (sf59_ok k) (sums_cons (sf99_ok k) (sums_cons (sf100_ok k) (sums_nil)))))
def ktf61 : Nat → Nat → Nat := fun rid q => 0
theorem f61_ok {k : Nat} {a0_0 : Int} {a0_1 : ByteArray} {a0_2 : ByteArray} {a0_3 : ByteArray} {a1_0 : List S80} {r : ((List S80)) ⊕ ((List S80))} (h : f61 k a0_0 a0_1 a0_2 a0_3 a1_0 = some r) : callT Try.prog CC0 P0 61 (List.map (denV G) [.agg [.id .i64 0 a0_0, .s a0_1, .s a0_2, .s a0_3], .sl 1 a1_0 []]) (List.map (denO G) []) = some (denV G (f61.o a0_0 a0_1 a0_2 a0_3 a1_0 r).1, List.map (denO G) (f61.o a0_0 a0_1 a0_2 a0_3 a1_0 r).2) :=
 fn_ok0 (k := k) (E := envf61) (kt := ktf61) (start := f61.start k a0_0 a0_1 a0_2 a0_3 a1_0) (o := f61.o a0_0 a0_1 a0_2 a0_3 a1_0) (h0 := .all) (objs := []) G_ok envf61_ok rfl Try.func61 rfl (by kernel_rfl) (by kernel_rfl) rfl (Nat.le_of_ble_eq_true (by kernel_rfl)) (by kernel_rfl) ((by kernel_rfl : (f61.start k a0_0 a0_1 a0_2 a0_3 a1_0).run Empty.elim = f61 k a0_0 a0_1 a0_2 a0_3 a1_0).trans h)
theorem sf61_ok (k : Nat) : SumOk Try.prog CC0 P0 G 61 (sf61 k) := by
 intro as0' os0' lk r l h0'
 unfold sf61 at h0'
 obtain ⟨v0, as1', rfl, h1'⟩ := lH_runs h0'; obtain ⟨v1, as2', rfl, h2'⟩ := lH_runs h1'; obtain ⟨rfl, h3'⟩ := lT_runs h2'; obtain ⟨rfl, h4'⟩ := lT_runs h3'; obtain ⟨b1', e1, h5'⟩ := argA_runs h4'; obtain ⟨y2', r2', e2, h6'⟩ := argH_runs h5'; obtain ⟨y3', r3', e3, h7'⟩ := argH_runs h6'; obtain ⟨y4', r4', e4, h8'⟩ := argH_runs h7'; obtain ⟨y5', r5', e5, h9'⟩ := argH_runs h8'; obtain ⟨e6, h10'⟩ := argT_runs h9'; obtain ⟨a0_0, e7, h11'⟩ := argI_runs h10'; obtain ⟨a0_1, e8, h12'⟩ := argS_runs h11'; obtain ⟨a0_2, e9, h13'⟩ := argS_runs h12'; obtain ⟨a0_3, e10, h14'⟩ := argS_runs h13'; obtain ⟨a1_0, e11, h15'⟩ := argL_runs h14'; obtain ⟨z', hz', h⟩ := call_runs h15'
 rcases z' with z' | z'
 · replace h := either_l h; obtain ⟨rfl, rfl⟩ := runs_ret.1 h; exact ⟨rfl, by simp only [List.map_cons, List.map_nil, e1, e2, e3, e4, e5, e6, e7, e8, e9, e10, e11]; exact f61_ok hz'⟩
 · replace h := either_r h; obtain ⟨rfl, rfl⟩ := runs_ret.1 h; exact ⟨rfl, by simp only [List.map_cons, List.map_nil, e1, e2, e3, e4, e5, e6, e7, e8, e9, e10, e11]; exact f61_ok hz'⟩
end Go.Proofs.Ytfjoamlgbegpgaa.P
namespace Go.Proofs.Ytfjoamlgbegpgaa.P
open Go Go.Proofs.Ytfjoamlgbegpgaa.PM Go.Proofs.Ytfjoamlgbegpgaa.PN Go.Proofs
set_option maxRecDepth 100000
set_option linter.unusedVariables false
def envf101 (k : Nat) : Ev El := envOf CC0 []
theorem envf101_ok (k : Nat) : EvOk Try.prog CC0 P0 G (envf101 k) := env_ok (sums_nil)
def ktf101 : Nat → Nat → Nat := fun rid q => 0
theorem f101_ok {k : Nat} {a0_0 : ByteArray} {r : Bool} (h : f101 k a0_0 = some r) : callT Try.prog CC0 P0 101 (List.map (denV G) [.s a0_0]) (List.map (denO G) []) = some (denV G (f101.o a0_0 r).1, List.map (denO G) (f101.o a0_0 r).2) :=
 fn_ok0 (k := k) (E := envf101) (kt := ktf101) (start := f101.start k a0_0) (o := f101.o a0_0) (h0 := (.both (.l (.l (.l .all))) (.r (.r (.r .all))))) (objs := []) G_ok envf101_ok rfl Try.func101 rfl (by kernel_rfl) (by kernel_rfl) rfl (Nat.le_of_ble_eq_true (by kernel_rfl)) (by kernel_rfl) ((by kernel_rfl : (f101.start k a0_0).run Empty.elim = f101 k a0_0).trans h)
theorem sf101_ok (k : Nat) : SumOk Try.prog CC0 P0 G 101 (sf101 k) := by
 intro as0' os0' lk r l h0'
 unfold sf101 at h0'
 obtain ⟨v0, as1', rfl, h1'⟩ := lH_runs h0'; obtain ⟨rfl, h2'⟩ := lT_runs h1'; obtain ⟨rfl, h3'⟩ := lT_runs h2'; obtain ⟨a0_0, e1, h4'⟩ := argS_runs h3'; obtain ⟨z', hz', h⟩ := call_runs h4'
 obtain ⟨rfl, rfl⟩ := runs_ret.1 h; exact ⟨rfl, by simp only [List.map_cons, List.map_nil, e1]; exact f101_ok hz'⟩
end Go.Proofs.Ytfjoamlgbegpgaa.P
namespace Go.Proofs.Ytfjoamlgbegpgaa.P
open Go Go.Proofs.Ytfjoamlgbegpgaa.PM Go.Proofs.Ytfjoamlgbegpgaa.PN Go.Proofs
set_option maxRecDepth 100000
set_option linter.unusedVariables false
def envf62 (k : Nat) : Ev El := envOf CC0 [(101, sf101 k)]
theorem envf62_ok (k : Nat) : EvOk Try.prog CC0 P0 G (envf62 k) := env_ok (sums_cons (sf101_ok k) (sums_nil))
def ktf62 : Nat → Nat → Nat := fun rid q => 0
theorem f62_ok {k : Nat} {a0_0 : List S80} {r : Bool} (h : f62 k a0_0 = some r) : callT Try.prog CC0 P0 62 (List.map (denV G) [.sl 1 a0_0 []]) (List.map (denO G) []) = some (denV G (f62.o a0_0 r).1, List.map (denO G) (f62.o a0_0 r).2) :=
 fn_ok (k := k) (E := envf62) (kt := ktf62) (start := f62.start k a0_0) (stt := f62.st) (o := f62.o a0_0) (h0 := .all) (D := f62.D) (blk := f62.blk) (hint := f62.hint) (objs := []) G_ok envf62_ok rfl Try.func62 rfl (by kernel_rfl) (by kernel_rfl) rfl (Nat.le_of_ble_eq_true (by kernel_rfl)) (fun x => by cases x <;> kernel_rfl) (fun k x => by cases x <;> kernel_rfl) (fun k x => by cases x <;> kernel_rfl) (by kernel_rfl) ((by kernel_rfl : (f62.start k a0_0).run (f62.D k) = f62 k a0_0).trans h)
theorem sf62_ok (k : Nat) : SumOk Try.prog CC0 P0 G 62 (sf62 k) := by
 intro as0' os0' lk r l h0'
 unfold sf62 at h0'
 obtain ⟨v0, as1', rfl, h1'⟩ := lH_runs h0'; obtain ⟨rfl, h2'⟩ := lT_runs h1'; obtain ⟨rfl, h3'⟩ := lT_runs h2'; obtain ⟨a0_0, e1, h4'⟩ := argL_runs h3'; obtain ⟨z', hz', h⟩ := call_runs h4'
 obtain ⟨rfl, rfl⟩ := runs_ret.1 h; exact ⟨rfl, by simp only [List.map_cons, List.map_nil, e1]; exact f62_ok hz'⟩
end Go.Proofs.Ytfjoamlgbegpgaa.P
namespace Go.Proofs.Ytfjoamlgbegpgaa.P
open Go Go.Proofs.Ytfjoamlgbegpgaa.PM Go.Proofs.Ytfjoamlgbegpgaa.PN Go.Proofs
set_option maxRecDepth 100000
set_option linter.unusedVariables false
def envf89 (k : Nat) : Ev El := envOf CC0 [(101, sf101 k)]
theorem envf89_ok (k : Nat) : EvOk Try.prog CC0 P0 G (envf89 k) := env_ok (sums_cons (sf101_ok k) (sums_nil))
def ktf89 : Nat → Nat → Nat := fun rid q => 0
theorem f89_ok {k : Nat} {a0_0 : Int} {a0_1 : ByteArray} {a0_2 : ByteArray} {a0_3 : ByteArray} {r : Bool} (h : f89 k a0_0 a0_1 a0_2 a0_3 = some r) : callT Try.prog CC0 P0 89 (List.map (denV G) [.agg [.id .i64 0 a0_0, .s a0_1, .s a0_2, .s a0_3]]) (List.map (denO G) []) = some (denV G (f89.o a0_0 a0_1 a0_2 a0_3 r).1, List.map (denO G) (f89.o a0_0 a0_1 a0_2 a0_3 r).2) :=
 fn_ok0 (k := k) (E := envf89) (kt := ktf89) (start := f89.start k a0_0 a0_1 a0_2 a0_3) (o := f89.o a0_0 a0_1 a0_2 a0_3) (h0 := (.both (.skip (.both (.l (.l (.l .all))) (.r (.r (.r .all))))) (.both (.skip (.both (.l (.l (.skip (.l (.both (.l (.l (.l .all))) (.r (.r (.r .all)))))))) (.r (.r (.r .all))))) (.both (.skip (.both (.l (.l (.l (.both (.l (.l (.l .all))) (.r (.r (.r .all))))))) (.r (.r (.r .all))))) .all)))) (objs := []) G_ok envf89_ok rfl Try.func89 rfl (by kernel_rfl) (by kernel_rfl) rfl (Nat.le_of_ble_eq_true (by kernel_rfl)) (by kernel_rfl) ((by kernel_rfl : (f89.start k a0_0 a0_1 a0_2 a0_3).run Empty.elim = f89 k a0_0 a0_1 a0_2 a0_3).trans h)
theorem sf89_ok (k : Nat) : SumOk Try.prog CC0 P0 G 89 (sf89 k) := by
 intro as0' os0' lk r l h0'
 unfold sf89 at h0'
 obtain ⟨v0, as1', rfl, h1'⟩ := lH_runs h0'; obtain ⟨rfl, h2'⟩ := lT_runs h1'; obtain ⟨rfl, h3'⟩ := lT_runs h2'; obtain ⟨b1', e1, h4'⟩ := argA_runs h3'; obtain ⟨y2', r2', e2, h5'⟩ := argH_runs h4'; obtain ⟨y3', r3', e3, h6'⟩ := argH_runs h5'; obtain ⟨y4', r4', e4, h7'⟩ := argH_runs h6'; obtain ⟨y5', r5', e5, h8'⟩ := argH_runs h7'; obtain ⟨e6, h9'⟩ := argT_runs h8'; obtain ⟨a0_0, e7, h10'⟩ := argI_runs h9'; obtain ⟨a0_1, e8, h11'⟩ := argS_runs h10'; obtain ⟨a0_2, e9, h12'⟩ := argS_runs h11'; obtain ⟨a0_3, e10, h13'⟩ := argS_runs h12'; obtain ⟨z', hz', h⟩ := call_runs h13'
 obtain ⟨rfl, rfl⟩ := runs_ret.1 h; exact ⟨rfl, by simp only [List.map_cons, List.map_nil, e1, e2, e3, e4, e5, e6, e7, e8, e9, e10]; exact f89_ok hz'⟩
end Go.Proofs.Ytfjoamlgbegpgaa.P
namespace Go.Proofs.Ytfjoamlgbegpgaa.P
open Go Go.Proofs.Ytfjoamlgbegpgaa.PM Go.Proofs.Ytfjoamlgbegpgaa.PN Go.Proofs
set_option maxRecDepth 100000
set_option linter.unusedVariables false
def envf90 (k : Nat) : Ev El := envOf CC0 []
theorem envf90_ok (k : Nat) : EvOk Try.prog CC0 P0 G (envf90 k) := env_ok (sums_nil)
def ktf90 : Nat → Nat → Nat := fun rid q => 0
theorem f90_ok {k : Nat} {a0_0 : List S80} {a1_0 : List S80} {r : Bool} (h : f90 k a0_0 a1_0 = some r) : callT Try.prog CC0 P0 90 (List.map (denV G) [.sl 1 a0_0 [], .sl 1 a1_0 []]) (List.map (denO G) []) = some (denV G (f90.o a0_0 a1_0 r).1, List.map (denO G) (f90.o a0_0 a1_0 r).2) :=
 fn_ok (k := k) (E := envf90) (kt := ktf90) (start := f90.start k a0_0 a1_0) (stt := f90.st) (o := f90.o a0_0 a1_0) (h0 := .all) (D := f90.D) (blk := f90.blk) (hint := f90.hint) (objs := []) G_ok envf90_ok rfl Try.func90 rfl (by kernel_rfl) (by kernel_rfl) rfl (Nat.le_of_ble_eq_true (by kernel_rfl)) (fun x => by cases x <;> kernel_rfl) (fun k x => by cases x <;> kernel_rfl) (fun k x => by cases x <;> kernel_rfl) (by kernel_rfl) ((by kernel_rfl : (f90.start k a0_0 a1_0).run (f90.D k) = f90 k a0_0 a1_0).trans h)
theorem sf90_ok (k : Nat) : SumOk Try.prog CC0 P0 G 90 (sf90 k) := by
 intro as0' os0' lk r l h0'
 unfold sf90 at h0'
 obtain ⟨v0, as1', rfl, h1'⟩ := lH_runs h0'; obtain ⟨v1, as2', rfl, h2'⟩ := lH_runs h1'; obtain ⟨rfl, h3'⟩ := lT_runs h2'; obtain ⟨rfl, h4'⟩ := lT_runs h3'; obtain ⟨a0_0, e1, h5'⟩ := argL_runs h4'; obtain ⟨a1_0, e2, h6'⟩ := argL_runs h5'; obtain ⟨z', hz', h⟩ := call_runs h6'
 obtain ⟨rfl, rfl⟩ := runs_ret.1 h; exact ⟨rfl, by simp only [List.map_cons, List.map_nil, e1, e2]; exact f90_ok hz'⟩
end Go.Proofs.Ytfjoamlgbegpgaa.P
namespace Go.Proofs.Ytfjoamlgbegpgaa.P
open Go Go.Proofs.Ytfjoamlgbegpgaa.PM Go.Proofs.Ytfjoamlgbegpgaa.PN Go.Proofs
set_option maxRecDepth 100000
set_option linter.unusedVariables false
def envf49 (k : Nat) : Ev El := envOf CC0 [(61, sf61 k), (62, sf62 k), (89, sf89 k), (90, sf90 k)]
theorem envf49_ok (k : Nat) : EvOk Try.prog CC0 P0 G (envf49 k) := env_ok (sums_cons (sf61_ok k) (sums_cons (sf62_ok k) (sums_cons (sf89_ok k) (sums_cons (sf90_ok k) (sums_nil)))))
def ktf49 : Nat → Nat → Nat := fun rid q => if rid = 5 ∧ q = 3 then 1 else 0
theorem f49_ok {k : Nat} {a0_0 : List S80} {a0_1 : List S80} {a0_2 : List S73} {r : Bool} (h : f49 k a0_0 a0_1 a0_2 = some r) : callT Try.prog CC0 P0 49 (List.map (denV G) [.agg [.sl 1 a0_0 [], .sl 1 a0_1 [], .sl 2 a0_2 []]]) (List.map (denO G) []) = some (denV G (f49.o a0_0 a0_1 a0_2 r).1, List.map (denO G) (f49.o a0_0 a0_1 a0_2 r).2) :=
 fn_ok (k := k) (E := envf49) (kt := ktf49) (start := f49.start k a0_0 a0_1 a0_2) (stt := f49.st) (o := f49.o a0_0 a0_1 a0_2) (h0 := (.skip (.both (.l (.l (.skip (.l (.l (.both (.l (.l (.l (.l .all)))) (.r (.r (.r (.r .all)))))))))) (.r (.r (.r (.r .all))))))) (D := f49.D) (blk := f49.blk) (hint := f49.hint) (objs := []) G_ok envf49_ok rfl Try.func49 rfl (by kernel_rfl) (by kernel_rfl) rfl (Nat.le_of_ble_eq_true (by kernel_rfl)) (fun x => by cases x <;> kernel_rfl) (fun k x => by cases x <;> kernel_rfl) (fun k x => by cases x <;> kernel_rfl) (by kernel_rfl) ((by kernel_rfl : (f49.start k a0_0 a0_1 a0_2).run (f49.D k) = f49 k a0_0 a0_1 a0_2).trans h)
theorem sf49_ok (k : Nat) : SumOk Try.prog CC0 P0 G 49 (sf49 k) := by
 intro as0' os0' lk r l h0'
 unfold sf49 at h0'
 obtain ⟨v0, as1', rfl, h1'⟩ := lH_runs h0'; obtain ⟨rfl, h2'⟩ := lT_runs h1'; obtain ⟨rfl, h3'⟩ := lT_runs h2'; obtain ⟨b1', e1, h4'⟩ := argA_runs h3'; obtain ⟨y2', r2', e2, h5'⟩ := argH_runs h4'; obtain ⟨y3', r3', e3, h6'⟩ := argH_runs h5'; obtain ⟨y4', r4', e4, h7'⟩ := argH_runs h6'; obtain ⟨e5, h8'⟩ := argT_runs h7'; obtain ⟨a0_0, e6, h9'⟩ := argL_runs h8'; obtain ⟨a0_1, e7, h10'⟩ := argL_runs h9'; obtain ⟨a0_2, e8, h11'⟩ := argL_runs h10'; obtain ⟨z', hz', h⟩ := call_runs h11'
 obtain ⟨rfl, rfl⟩ := runs_ret.1 h; exact ⟨rfl, by simp only [List.map_cons, List.map_nil, e1, e2, e3, e4, e5, e6, e7, e8]; exact f49_ok hz'⟩
end Go.Proofs.Ytfjoamlgbegpgaa.P
namespace Go.Proofs.Ytfjoamlgbegpgaa.P
open Go Go.Proofs.Ytfjoamlgbegpgaa.PM Go.Proofs.Ytfjoamlgbegpgaa.PN Go.Proofs
set_option maxRecDepth 100000
set_option linter.unusedVariables false
def envf18 (k : Nat) : Ev El := envOf CC0 [(49, sf49 k), (53, sf53 k)]
theorem envf18_ok (k : Nat) : EvOk Try.prog CC0 P0 G (envf18 k) := env_ok (sums_cons (sf49_ok k) (sums_cons (sf53_ok k) (sums_nil)))
def ktf18 : Nat → Nat → Nat := fun rid q => 0
theorem f18_ok {k : Nat} {a0_0 : List S80} {a0_1 : List S80} {a0_2 : List S73} {a1_0 : ByteArray} {r : ByteArray × Bool} (h : f18 k a0_0 a0_1 a0_2 a1_0 = some r) : callT Try.prog CC0 P0 18 (List.map (denV G) [.agg [.sl 1 a0_0 [], .sl 1 a0_1 [], .sl 2 a0_2 []], .s a1_0]) (List.map (denO G) []) = some (denV G (f18.o a0_0 a0_1 a0_2 a1_0 r).1, List.map (denO G) (f18.o a0_0 a0_1 a0_2 a1_0 r).2) :=
 fn_ok0 (k := k) (E := envf18) (kt := ktf18) (start := f18.start k a0_0 a0_1 a0_2 a1_0) (o := f18.o a0_0 a0_1 a0_2 a1_0) (h0 := (.skip (.skip (.both (.l (.l .all)) (.r (.r .all)))))) (objs := []) G_ok envf18_ok rfl Try.func18 rfl (by kernel_rfl) (by kernel_rfl) rfl (Nat.le_of_ble_eq_true (by kernel_rfl)) (by kernel_rfl) ((by kernel_rfl : (f18.start k a0_0 a0_1 a0_2 a1_0).run Empty.elim = f18 k a0_0 a0_1 a0_2 a1_0).trans h)
theorem sf18_ok (k : Nat) : SumOk Try.prog CC0 P0 G 18 (sf18 k) := by
 intro as0' os0' lk r l h0'
 unfold sf18 at h0'
 obtain ⟨v0, as1', rfl, h1'⟩ := lH_runs h0'; obtain ⟨v1, as2', rfl, h2'⟩ := lH_runs h1'; obtain ⟨rfl, h3'⟩ := lT_runs h2'; obtain ⟨rfl, h4'⟩ := lT_runs h3'; obtain ⟨b1', e1, h5'⟩ := argA_runs h4'; obtain ⟨y2', r2', e2, h6'⟩ := argH_runs h5'; obtain ⟨y3', r3', e3, h7'⟩ := argH_runs h6'; obtain ⟨y4', r4', e4, h8'⟩ := argH_runs h7'; obtain ⟨e5, h9'⟩ := argT_runs h8'; obtain ⟨a0_0, e6, h10'⟩ := argL_runs h9'; obtain ⟨a0_1, e7, h11'⟩ := argL_runs h10'; obtain ⟨a0_2, e8, h12'⟩ := argL_runs h11'; obtain ⟨a1_0, e9, h13'⟩ := argS_runs h12'; obtain ⟨z', hz', h⟩ := call_runs h13'
 obtain ⟨rfl, rfl⟩ := runs_ret.1 h; exact ⟨rfl, by simp only [List.map_cons, List.map_nil, e1, e2, e3, e4, e5, e6, e7, e8, e9]; exact f18_ok hz'⟩
end Go.Proofs.Ytfjoamlgbegpgaa.P
namespace Go.Proofs.Ytfjoamlgbegpgaa.P
open Go Go.Proofs.Ytfjoamlgbegpgaa.PM Go.Proofs.Ytfjoamlgbegpgaa.PN Go.Proofs
set_option maxRecDepth 100000
set_option linter.unusedVariables false
def envf19 (k : Nat) : Ev El := envOf CC0 []
theorem envf19_ok (k : Nat) : EvOk Try.prog CC0 P0 G (envf19 k) := env_ok (sums_nil)
def ktf19 : Nat → Nat → Nat := fun rid q => 0
theorem f19_ok {k : Nat} {a0_0 : List Int} {r : Bool} (h : f19 k a0_0 = some r) : callT Try.prog CC0 P0 19 (List.map (denV G) [.sl 0 a0_0 []]) (List.map (denO G) []) = some (denV G (f19.o a0_0 r).1, List.map (denO G) (f19.o a0_0 r).2) :=
 fn_ok0 (k := k) (E := envf19) (kt := ktf19) (start := f19.start k a0_0) (o := f19.o a0_0) (h0 := .all) (objs := []) G_ok envf19_ok rfl Try.func19 rfl (by kernel_rfl) (by kernel_rfl) rfl (Nat.le_of_ble_eq_true (by kernel_rfl)) (by kernel_rfl) ((by kernel_rfl : (f19.start k a0_0).run Empty.elim = f19 k a0_0).trans h)
theorem sf19_ok (k : Nat) : SumOk Try.prog CC0 P0 G 19 (sf19 k) := by
 intro as0' os0' lk r l h0'
 unfold sf19 at h0'
 obtain ⟨v0, as1', rfl, h1'⟩ := lH_runs h0'; obtain ⟨rfl, h2'⟩ := lT_runs h1'; obtain ⟨rfl, h3'⟩ := lT_runs h2'; obtain ⟨a0_0, e1, h4'⟩ := argL_runs h3'; obtain ⟨z', hz', h⟩ := call_runs h4'
 obtain ⟨rfl, rfl⟩ := runs_ret.1 h; exact ⟨rfl, by simp only [List.map_cons, List.map_nil, e1]; exact f19_ok hz'⟩
end Go.Proofs.Ytfjoamlgbegpgaa.P
namespace Go.Proofs.Ytfjoamlgbegpgaa.P
open Go Go.Proofs.Ytfjoamlgbegpgaa.PM Go.Proofs.Ytfjoamlgbegpgaa.PN Go.Proofs
set_option maxRecDepth 100000
set_option linter.unusedVariables false
def envf60 (k : Nat) : Ev El := envOf CC0 []
theorem envf60_ok (k : Nat) : EvOk Try.prog CC0 P0 G (envf60 k) := env_ok (sums_nil)
def ktf60 : Nat → Nat → Nat := fun rid q => 0
theorem f60_ok {k : Nat} {a0_0 : Int} {a1_0 : Int} {a2_0 : Int} {r : Bool} (h : f60 k a0_0 a1_0 a2_0 = some r) : callT Try.prog CC0 P0 60 (List.map (denV G) [.id .i64 1 a0_0, .id .i64 2 a1_0, .id .i64 3 a2_0]) (List.map (denO G) []) = some (denV G (f60.o a0_0 a1_0 a2_0 r).1, List.map (denO G) (f60.o a0_0 a1_0 a2_0 r).2) :=
 fn_ok0 (k := k) (E := envf60) (kt := ktf60) (start := f60.start k a0_0 a1_0 a2_0) (o := f60.o a0_0 a1_0 a2_0) (h0 := (.both (.l (.l (.l .all))) (.r (.r (.r .all))))) (objs := []) G_ok envf60_ok rfl Try.func60 rfl (by kernel_rfl) (by kernel_rfl) rfl (Nat.le_of_ble_eq_true (by kernel_rfl)) (by kernel_rfl) ((by kernel_rfl : (f60.start k a0_0 a1_0 a2_0).run Empty.elim = f60 k a0_0 a1_0 a2_0).trans h)
theorem sf60_ok (k : Nat) : SumOk Try.prog CC0 P0 G 60 (sf60 k) := by
 intro as0' os0' lk r l h0'
 unfold sf60 at h0'
 obtain ⟨v0, as1', rfl, h1'⟩ := lH_runs h0'; obtain ⟨v1, as2', rfl, h2'⟩ := lH_runs h1'; obtain ⟨v2, as3', rfl, h3'⟩ := lH_runs h2'; obtain ⟨rfl, h4'⟩ := lT_runs h3'; obtain ⟨rfl, h5'⟩ := lT_runs h4'; obtain ⟨a0_0, e1, h6'⟩ := argI_runs h5'; obtain ⟨a1_0, e2, h7'⟩ := argI_runs h6'; obtain ⟨a2_0, e3, h8'⟩ := argI_runs h7'; obtain ⟨z', hz', h⟩ := call_runs h8'
 obtain ⟨rfl, rfl⟩ := runs_ret.1 h; exact ⟨rfl, by simp only [List.map_cons, List.map_nil, e1, e2, e3]; exact f60_ok hz'⟩
end Go.Proofs.Ytfjoamlgbegpgaa.P
