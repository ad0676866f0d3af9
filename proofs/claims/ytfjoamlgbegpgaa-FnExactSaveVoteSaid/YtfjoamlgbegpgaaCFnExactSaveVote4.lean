/- Part of the proof of FnExactSaveVote: no statement of its own. -/
import Derived.KernelRfl
import Derived.Test.YtfjoamlgbegpgaaProg
import Derived.Test.YtfjoamlgbegpgaaCFnExactSaveVote3
set_option linter.unusedVariables false
set_option linter.unusedSimpArgs false
namespace Go.Proofs.Ytfjoamlgbegpgaa.PN
open Go Go.Proofs.Ytfjoamlgbegpgaa.PM
variable {P : Program} {C : Cert} {prim : FuncId → Option (List T → List Ob → Option (T × List Ob))} {β : Type}
noncomputable def atK (P : Program) (C : Cert) (prim : FuncId → Option (List T → List Ob → Option (T × List Ob))) (cert : FCert) (rid : Nat) : Code → St → (RS → β) → Option β
  | .region id ops draw, s, K => if id = rid then some (regionK P (envT P C prim) (cert.predsOf id) ops draw s K) else none
  | .seq a b, s, K => match atK P C prim cert rid a s (seqK P C prim cert b K) with
    | some r => some r
    | none => atK P C prim cert rid b s K
  | .cond _ a b, s, K => match atK P C prim cert rid a s K with
    | some r => some r
    | none => atK P C prim cert rid b s K
  | .block id b, s, K => atK P C prim cert rid b s (blockK id K)
  | .loop b, s, K => atK P C prim cert rid b s (nextK P C prim cert b K)
  | _, _, _ => none
def ids : Code → List Nat
  | .region id _ _ => [id]
  | .seq a b => ids a ++ ids b
  | .cond _ a b => ids a ++ ids b
  | .block _ b => ids b
  | .loop b => ids b
  | _ => []
def distinct : List Nat → Bool
  | [] => true
  | a :: r => !r.contains a && distinct r
theorem distinct_append : ∀ {a b : List Nat}, distinct (a ++ b) = true → distinct a = true ∧ distinct b = true ∧ ∀ x ∈ a, x ∉ b
  | [], b, h => ⟨rfl, h, fun x hx => by cases hx⟩
  | y :: r, b, h => by
    simp only [List.cons_append, distinct, Bool.and_eq_true, Bool.not_eq_true', List.contains_eq_mem] at h ⊢
    obtain ⟨h1, h2⟩ := h
    obtain ⟨h3, h4, h5⟩ := distinct_append h2
    simp only [List.mem_append, decide_eq_false_iff_not, not_or] at h1 ⊢
    refine ⟨⟨h1.1, h3⟩, h4, fun x hx => ?_⟩
    rcases List.mem_cons.1 hx with rfl | hx
    · exact h1.2
    · exact h5 x hx
theorem atK_none {cert : FCert} {rid : Nat} : ∀ {c : Code} {s : St} {K : RS → β}, rid ∉ ids c → atK P C prim cert rid c s K = none
  | .region id ops draw, s, K, h => by
    have : ¬ id = rid := fun e => h (by simp [ids, e])
    simp only [atK, if_neg this]
  | .seq a b, s, K, h => by
    simp only [ids, List.mem_append, not_or] at h
    simp only [atK, atK_none h.1, atK_none h.2]
  | .cond c a b, s, K, h => by
    simp only [ids, List.mem_append, not_or] at h
    simp only [atK, atK_none h.1, atK_none h.2]
  | .block id b, s, K, h => by simp only [atK]; exact atK_none h
  | .loop b, s, K, h => by simp only [atK]; exact atK_none h
  | .skip, s, K, h => rfl
  | .exit id, s, K, h => rfl
  | .ret, s, K, h => rfl
  | .rangeFunc _ _ _ _, s, K, h => rfl
  | .scope _, s, K, h => rfl
  | .label _, s, K, h => rfl
  | .goto _, s, K, h => rfl
  | .refuse _, s, K, h => rfl
theorem atK_some {cert : FCert} {rid : Nat} : ∀ {c : Code} {s : St} {K : RS → β}, rid ∈ ids c → ∃ r, atK P C prim cert rid c s K = some r
  | .region id ops draw, s, K, h => by
    have : id = rid := by simp only [ids, List.mem_singleton] at h; exact h.symm
    exact ⟨_, by simp only [atK, if_pos this]; rfl⟩
  | .seq a b, s, K, h => by
    simp only [ids, List.mem_append] at h
    by_cases ha : rid ∈ ids a
    · obtain ⟨r, hr⟩ := atK_some (cert := cert) (s := s) (K := seqK P C prim cert b K) ha
      exact ⟨r, by simp only [atK, hr]⟩
    · rcases h with h | h
      · exact absurd h ha
      · obtain ⟨r, hr⟩ := atK_some (cert := cert) (s := s) (K := K) h
        exact ⟨r, by simp only [atK, atK_none ha, hr]⟩
  | .cond c a b, s, K, h => by
    simp only [ids, List.mem_append] at h
    by_cases ha : rid ∈ ids a
    · obtain ⟨r, hr⟩ := atK_some (cert := cert) (s := s) (K := K) ha
      exact ⟨r, by simp only [atK, hr]⟩
    · rcases h with h | h
      · exact absurd h ha
      · obtain ⟨r, hr⟩ := atK_some (cert := cert) (s := s) (K := K) h
        exact ⟨r, by simp only [atK, atK_none ha, hr]⟩
  | .block id b, s, K, h => by simp only [atK]; exact atK_some h
  | .loop b, s, K, h => by simp only [atK]; exact atK_some h
  | .skip, s, K, h => by cases h
  | .exit id, s, K, h => by cases h
  | .ret, s, K, h => by cases h
  | .rangeFunc _ _ _ _, s, K, h => by cases h
  | .scope _, s, K, h => by cases h
  | .label _, s, K, h => by cases h
  | .goto _, s, K, h => by cases h
  | .refuse _, s, K, h => by cases h
section
variable {X : Cx} {body : Code} {K0 : RS → β} {OUT : β} {R : Lf X.G.El → Prop}
def Ctx (P : Program) (C : Cert) (prim : FuncId → Option (List T → List Ob → Option (T × List Ob))) (cert : FCert) (body : Code) (K0 : RS → β) (c : Code) (K : RS → β) : Prop :=
  ∀ rid s r, rid ∈ ids c → atK P C prim cert rid body s K0 = some r → atK P C prim cert rid c s K = some r
theorem exec_ok (ok : SgOk P X.G) (hE : EvOk P C prim X.G X.E) (hR : ∀ rid s, R (.at rid s) → atK P C prim X.cert rid body (denS X.G s) K0 = some OUT) :
    ∀ {c : Code} {K : RS → β} {s : S X.G.El} {h : H} {k : PN.K X}, distinct (ids c) = true → Ctx P C prim X.cert body K0 c K → (∀ ex s' h', (k ex s' h').yields R → K (some (ex, denS X.G s')) = OUT) →
      (exec X c s h k).yields R → execK P C prim X.cert c (denS X.G s) K = OUT
  | .skip, K, s, h, k, hd, hc, hk, hy => by rw [execK_skip]; exact hk _ _ _ hy
  | .region id ops draw, K, s, h, k, hd, hc, hk, hy => by
    rw [execK_region]
    simp only [exec] at hy
    cases hf : findK X.cert.keep id with
    | none =>
      rw [hf] at hy
      obtain ⟨s', h', hr, hy⟩ := regionN_ok ok hE hy
      rw [clearK_none, regionK_eq hr]
      exact hk _ _ _ hy
    | some kp =>
      rw [hf] at hy
      obtain ⟨s', l, h', hr, hy⟩ := runQ_yields hy
      have hn := normS_ok hr
      rw [clearK_some, hn]
      have h1 := hc id (denS X.G s') OUT (by simp [ids]) (hR id s' hy)
      simpa [atK] using h1
  | .seq a b, K, s, h, k, hd, hc, hk, hy => by
    rw [execK_seq]
    obtain ⟨d1, d2, d3⟩ := distinct_append hd
    have cb : Ctx P C prim X.cert body K0 b K := by
      intro rid st r hm hr
      have := hc rid st r (by simp [ids, hm]) hr
      simp only [atK] at this
      have hna : rid ∉ ids a := fun ha => d3 rid ha hm
      rw [atK_none hna] at this
      exact this
    have ca : Ctx P C prim X.cert body K0 a (seqK P C prim X.cert b K) := by
      intro rid st r hm hr
      have := hc rid st r (by simp [ids, hm]) hr
      simp only [atK] at this
      obtain ⟨r', hr'⟩ := atK_some (P := P) (C := C) (prim := prim) (cert := X.cert) (s := st) (K := seqK P C prim X.cert b K) hm
      rw [hr'] at this ⊢
      exact this
    refine exec_ok ok hE hR d1 ca (fun ex s' h' hy' => ?_) hy
    cases ex with
    | normal => rw [seqK_normal]; exact exec_ok ok hE hR d2 cb hk hy'
    | exit i => rw [seqK_exit]; exact hk _ _ _ hy'
    | ret => rw [seqK_ret]; exact hk _ _ _ hy'
  | .cond c a b, K, s, h, k, hd, hc, hk, hy => by
    rw [execK_cond]
    obtain ⟨d1, d2, d3⟩ := distinct_append hd
    have cb : Ctx P C prim X.cert body K0 b K := by
      intro rid st r hm hr
      have := hc rid st r (by simp [ids, hm]) hr
      simp only [atK] at this
      have hna : rid ∉ ids a := fun ha => d3 rid ha hm
      rw [atK_none hna] at this
      exact this
    have ca : Ctx P C prim X.cert body K0 a K := by
      intro rid st r hm hr
      have := hc rid st r (by simp [ids, hm]) hr
      simp only [atK] at this
      obtain ⟨r', hr'⟩ := atK_some (P := P) (C := C) (prim := prim) (cert := X.cert) (s := st) (K := K) hm
      rw [hr'] at this ⊢
      exact this
    obtain ⟨t, h', hb, hy⟩ := fork_yields hy
    have : evalT (denS X.G s).tmps c = .sc (.bool t) := by rw [← eval_den]; exact (boolOf_some hb).1
    rw [this, condK_bool]
    cases t with
    | true => rw [if_pos rfl] at hy ⊢; exact exec_ok ok hE hR d1 ca hk hy
    | false => rw [if_neg (by simp)] at hy ⊢; exact exec_ok ok hE hR d2 cb hk hy
  | .block id b, K, s, h, k, hd, hc, hk, hy => by
    rw [execK_block]
    refine exec_ok ok hE hR hd (fun rid st r hm hr => hc rid st r hm hr) (fun ex s' h' hy' => ?_) hy
    cases ex with
    | normal => rw [blockK_normal]; exact hk _ _ _ hy'
    | exit i => rw [blockK_exit]; exact hk _ _ _ hy'
    | ret => rw [blockK_ret]; exact hk _ _ _ hy'
  | .loop b, K, s, h, k, hd, hc, hk, hy => by
    rw [execK_next]
    refine exec_ok ok hE hR hd (fun rid st r hm hr => hc rid st r hm hr) (fun ex s' h' hy' => ?_) hy
    cases ex with
    | normal => exact hy'.elim
    | exit i => rw [nextK_exit]; exact hk _ _ _ hy'
    | ret => rw [nextK_ret]; exact hk _ _ _ hy'
  | .exit id, K, s, h, k, hd, hc, hk, hy => by rw [execK_exit]; exact hk _ _ _ hy
  | .ret, K, s, h, k, hd, hc, hk, hy => by rw [execK_ret]; exact hk _ _ _ hy
  | .rangeFunc _ _ _ _, K, s, h, k, hd, hc, hk, hy => hy.elim
  | .scope _, K, s, h, k, hd, hc, hk, hy => hy.elim
  | .label _, K, s, h, k, hd, hc, hk, hy => hy.elim
  | .goto _, K, s, h, k, hd, hc, hk, hy => hy.elim
  | .refuse _, K, s, h, k, hd, hc, hk, hy => hy.elim
theorem resume_none {rid : Nat} : ∀ {c : Code} {s : S X.G.El} {h : H} {k : PN.K X}, resume X rid c s h k = none → rid ∉ ids c
  | .region id ops draw, s, h, k, hn => by
    simp only [resume] at hn
    split at hn
    · cases hn
    · rename_i hne; simp only [ids, List.mem_singleton]; exact fun e => hne e.symm
  | .seq a b, s, h, k, hn => by
    simp only [resume] at hn
    split at hn
    · cases hn
    · rename_i ha
      simp only [ids, List.mem_append, not_or]
      exact ⟨resume_none ha, resume_none hn⟩
  | .cond c a b, s, h, k, hn => by
    simp only [resume] at hn
    split at hn
    · cases hn
    · rename_i ha
      simp only [ids, List.mem_append, not_or]
      exact ⟨resume_none ha, resume_none hn⟩
  | .block id b, s, h, k, hn => by simp only [resume] at hn; exact resume_none (c := b) hn
  | .loop b, s, h, k, hn => by simp only [resume] at hn; exact resume_none (c := b) hn
  | .skip, s, h, k, hn => by simp [ids]
  | .exit id, s, h, k, hn => by simp [ids]
  | .ret, s, h, k, hn => by simp [ids]
  | .rangeFunc _ _ _ _, s, h, k, hn => by simp [ids]
  | .scope _, s, h, k, hn => by simp [ids]
  | .label _, s, h, k, hn => by simp [ids]
  | .goto _, s, h, k, hn => by simp [ids]
  | .refuse _, s, h, k, hn => by simp [ids]
theorem resume_ok (ok : SgOk P X.G) (hE : EvOk P C prim X.G X.E) (hR : ∀ rid s, R (.at rid s) → atK P C prim X.cert rid body (denS X.G s) K0 = some OUT) {rid : Nat} :
    ∀ {c : Code} {K : RS → β} {s : S X.G.El} {h : H} {k : PN.K X} {t : Tree (Lf X.G.El)}, distinct (ids c) = true → Ctx P C prim X.cert body K0 c K → (∀ ex s' h', (k ex s' h').yields R → K (some (ex, denS X.G s')) = OUT) →
      resume X rid c s h k = some t → t.yields R → atK P C prim X.cert rid c (denS X.G s) K = some OUT
  | .region id ops draw, K, s, h, k, t, hd, hc, hk, ht, hy => by
    simp only [resume] at ht
    split at ht
    · rename_i hid
      obtain rfl := Option.some.inj ht
      obtain ⟨s', h', hr, hy⟩ := regionN_ok ok hE hy
      simp only [atK, if_pos hid]
      rw [regionK_eq hr]
      exact congrArg some (hk _ _ _ hy)
    · cases ht
  | .seq a b, K, s, h, k, t, hd, hc, hk, ht, hy => by
    obtain ⟨d1, d2, d3⟩ := distinct_append hd
    have cb : Ctx P C prim X.cert body K0 b K := by
      intro rid st r hm hr
      have := hc rid st r (by simp [ids, hm]) hr
      simp only [atK] at this
      have hna : rid ∉ ids a := fun ha => d3 rid ha hm
      rw [atK_none hna] at this
      exact this
    have ca : Ctx P C prim X.cert body K0 a (seqK P C prim X.cert b K) := by
      intro rid st r hm hr
      have := hc rid st r (by simp [ids, hm]) hr
      simp only [atK] at this
      obtain ⟨r', hr'⟩ := atK_some (P := P) (C := C) (prim := prim) (cert := X.cert) (s := st) (K := seqK P C prim X.cert b K) hm
      rw [hr'] at this ⊢
      exact this
    simp only [resume] at ht
    simp only [atK]
    split at ht
    · rename_i t' ha
      obtain rfl := Option.some.inj ht
      have := resume_ok ok hE hR (K := seqK P C prim X.cert b K) d1 ca (fun ex s' h' hy' => ?_) ha hy
      · rw [this]
      · cases ex with
        | normal => rw [seqK_normal]; exact exec_ok ok hE hR d2 cb hk hy'
        | exit i => rw [seqK_exit]; exact hk _ _ _ hy'
        | ret => rw [seqK_ret]; exact hk _ _ _ hy'
    · rename_i ha
      rw [atK_none (resume_none ha)]
      exact resume_ok ok hE hR d2 cb hk ht hy
  | .cond c a b, K, s, h, k, t, hd, hc, hk, ht, hy => by
    obtain ⟨d1, d2, d3⟩ := distinct_append hd
    have cb : Ctx P C prim X.cert body K0 b K := by
      intro rid st r hm hr
      have := hc rid st r (by simp [ids, hm]) hr
      simp only [atK] at this
      have hna : rid ∉ ids a := fun ha => d3 rid ha hm
      rw [atK_none hna] at this
      exact this
    have ca : Ctx P C prim X.cert body K0 a K := by
      intro rid st r hm hr
      have := hc rid st r (by simp [ids, hm]) hr
      simp only [atK] at this
      obtain ⟨r', hr'⟩ := atK_some (P := P) (C := C) (prim := prim) (cert := X.cert) (s := st) (K := K) hm
      rw [hr'] at this ⊢
      exact this
    simp only [resume] at ht
    simp only [atK]
    split at ht
    · rename_i t' ha
      obtain rfl := Option.some.inj ht
      rw [resume_ok ok hE hR d1 ca hk ha hy]
    · rename_i ha
      rw [atK_none (resume_none ha)]
      exact resume_ok ok hE hR d2 cb hk ht hy
  | .block id b, K, s, h, k, t, hd, hc, hk, ht, hy => by
    simp only [resume] at ht
    simp only [atK]
    refine resume_ok ok hE hR hd (fun rid st r hm hr => hc rid st r hm hr) (fun ex s' h' hy' => ?_) ht hy
    cases ex with
    | normal => rw [blockK_normal]; exact hk _ _ _ hy'
    | exit i => rw [blockK_exit]; exact hk _ _ _ hy'
    | ret => rw [blockK_ret]; exact hk _ _ _ hy'
  | .loop b, K, s, h, k, t, hd, hc, hk, ht, hy => by
    simp only [resume] at ht
    simp only [atK]
    have cb : Ctx P C prim X.cert body K0 b (nextK P C prim X.cert b K) := fun rid st r hm hr => hc rid st r hm hr
    refine resume_ok ok hE hR hd cb (fun ex s' h' hy' => ?_) ht hy
    cases ex with
    | normal =>
      rw [nextK_normal, execK_next]
      refine exec_ok ok hE hR hd cb (fun ex s'' h'' hy'' => ?_) hy'
      cases ex with
      | normal => exact hy''.elim
      | exit i => rw [nextK_exit]; exact hk _ _ _ hy''
      | ret => rw [nextK_ret]; exact hk _ _ _ hy''
    | exit i => rw [nextK_exit]; exact hk _ _ _ hy'
    | ret => rw [nextK_ret]; exact hk _ _ _ hy'
  | .skip, K, s, h, k, t, hd, hc, hk, ht, hy => by cases ht
  | .exit id, K, s, h, k, t, hd, hc, hk, ht, hy => by cases ht
  | .ret, K, s, h, k, t, hd, hc, hk, ht, hy => by cases ht
  | .rangeFunc _ _ _ _, K, s, h, k, t, hd, hc, hk, ht, hy => by cases ht
  | .scope _, K, s, h, k, t, hd, hc, hk, ht, hy => by cases ht
  | .label _, K, s, h, k, t, hd, hc, hk, ht, hy => by cases ht
  | .goto _, K, s, h, k, t, hd, hc, hk, ht, hy => by cases ht
  | .refuse _, K, s, h, k, t, hd, hc, hk, ht, hy => by cases ht
end
theorem lay_yields {Rr Lb L : Type} {f : Rr → L} {g : Lb → L} {D : Lb → Option Rr} {R : L → Prop} {r : Rr} (hf : R (f r)) (hg : ∀ x, D x = some r → R (g x)) : ∀ {t : PT Rr Lb}, t.run D = some r → (t.lay f g).yields R := by
  intro t
  induction t with
  | ret r' => intro h; obtain rfl := Option.some.inj h; exact hf
  | jump x => intro h; exact hg x h
  | fail => intro h; cases h
  | need c k ih =>
    intro h
    simp only [PT.run] at h
    split at h
    · rename_i hc; exact ⟨hc, ih hc h⟩
    · cases h
  | need' c' c hcc k ih =>
    intro h
    simp only [PT.run] at h
    split at h
    · rename_i hc; exact ⟨hcc.1 hc, ih _ h⟩
    · cases h
  | triv c hc k ih => intro h; exact ⟨hc, ih h⟩
  | ite c t e ih1 ih2 =>
    intro h
    simp only [PT.run] at h
    split at h
    · rename_i hc; exact .inl ⟨hc, ih1 hc h⟩
    · rename_i hc; exact .inr ⟨hc, ih2 hc h⟩
  | ite' c' c hcc t e ih1 ih2 =>
    intro h
    simp only [PT.run] at h
    split at h
    · rename_i hc; exact .inl ⟨hcc.1 hc, ih1 _ h⟩
    · rename_i hc; exact .inr ⟨fun hx => hc (hcc.2 hx), ih2 _ h⟩
  | call ρ x k ih =>
    intro h
    simp only [PT.run, Option.bind_eq_some_iff] at h
    obtain ⟨y, hy, h⟩ := h
    exact ⟨y, hy, ih y h⟩
  | call' ρ x' x hx k ih =>
    intro h
    simp only [PT.run, Option.bind_eq_some_iff] at h
    obtain ⟨y, hy, h⟩ := h
    exact ⟨y, hx ▸ hy, ih y h⟩
  | callh ρ x k ih =>
    intro h
    simp only [PT.run] at h
    cases x with
    | none => cases h
    | some a => exact ⟨rfl, a, rfl, ih a rfl h⟩
  | recall ρ x r hx k ih => intro h; exact ⟨rfl, hx, ih h⟩
  | either β γ x l r ih1 ih2 =>
    intro h
    cases x with
    | inl a => exact ih1 a h
    | inr b => exact ih2 b h
def startS {G : Sg} (n : Nat) (args : List (V G.El)) (objs : List (O G.El)) : S G.El := ⟨n, undV, args.zipIdx.map fun p => (p.2, p.1), objs.zipIdx.map fun p => (p.2, p.1), objs.length, objs.length⟩
theorem findK_zip {γ : Type} : ∀ (l : List γ) (j i : Nat), findK ((l.zipIdx j).map fun p => (p.2, p.1)) (j + i) = l[i]?
  | [], j, i => by simp [findK]
  | a :: r, j, 0 => by simp [List.zipIdx_cons, findK]
  | a :: r, j, i + 1 => by
    rw [List.zipIdx_cons, List.map_cons]
    simp only [findK]
    rw [if_neg (by omega)]
    have := findK_zip r (j + 1) i
    rw [show j + 1 + i = j + (i + 1) by omega] at this
    rw [this]; rfl
theorem startS_den {G : Sg} {n : Nat} {args : List (V G.El)} {objs : List (O G.El)} (hn : args.length ≤ n) : denS G (startS n args objs) =
    ⟨args.map (denV G) ++ List.replicate (n - (args.map (denV G)).length) undT, (objs.map (denO G)).zipIdx.map fun p => (p.2, p.1), (objs.map (denO G)).length, (objs.map (denO G)).length⟩ := by
  simp only [denS, startS, St.mk.injEq, List.length_map, and_self, and_true]
  constructor
  · apply List.ext_getElem?
    intro i
    rw [List.getElem?_map]
    have hz := findK_zip args 0 i
    rw [Nat.zero_add] at hz
    by_cases hi : i < n
    · rw [List.getElem?_range hi]
      simp only [Option.map_some, lookV, hz]
      by_cases ha : i < args.length
      · rw [List.getElem?_append_left (by simpa using ha), List.getElem?_map, List.getElem?_eq_getElem ha]; rfl
      · rw [List.getElem?_append_right (by simp; omega), List.getElem?_eq_none (by omega : args.length ≤ i), List.getElem?_replicate]
        simp only [List.length_map]
        rw [if_pos (by omega)]; rfl
    · have e1 : (List.range n)[i]? = none := by rw [List.getElem?_eq_none_iff, List.length_range]; omega
      rw [e1]
      symm
      rw [Option.map_none, List.getElem?_eq_none_iff]
      simp; omega
  · simp [denWr, List.zipIdx_map, Function.comp_def]
def outL {G : Sg} {Rr : Type} (o : Rr → V G.El × List (O G.El)) (r : Rr) : Lf G.El := .ret (o r).1 (o r).2
def jumpL {G : Sg} {Lb : Type} (st : Lb → Nat × S G.El) (x : Lb) : Lf G.El := .at (st x).1 (st x).2
theorem labels_ok {G : Sg} {f : FuncId} {fn : Func} {c : Code} {m : Nat} {Rr Lb : Type} {E : Nat → Ev G.El} {kt : Nat → Nat → Nat} {D : Nat → Lb → Option Rr} {blk : Nat → Lb → PT Rr Lb} {stt : Lb → Nat × S G.El} {hint : Lb → H} {o : Rr → V G.El × List (O G.El)}
    (ok : SgOk P G) (hE : ∀ k, EvOk P C prim G (E k)) (hids : distinct (ids c) = true) (D0 : ∀ x, D 0 x = none) (DS : ∀ k x, D (k + 1) x = (blk k x).run (D k))
    (hT : ∀ k x, resume ⟨G, E k, C f, kt⟩ (stt x).1 c (stt x).2 (hint x) (endK ⟨G, E k, C f, kt⟩ fn m) = some ((blk k x).lay (outL o) (jumpL stt))) (r : Rr) :
    ∀ k x, D k x = some r → atK P C prim (C f) (stt x).1 c (denS G (stt x).2) (giveK P fn (C f).own m) = some (some (denV G (o r).1, (o r).2.map (denO G))) := by
  intro k
  induction k with
  | zero => intro x h; rw [D0] at h; cases h
  | succ k ih =>
    intro x h
    rw [DS] at h
    let R : Lf G.El → Prop := fun lf => match lf with
      | .ret v os => some (denV G v, os.map (denO G)) = some (denV G (o r).1, (o r).2.map (denO G))
      | .at rid s => atK P C prim (C f) rid c (denS G s) (giveK P fn (C f).own m) = some (some (denV G (o r).1, (o r).2.map (denO G)))
    have hy : ((blk k x).lay (outL o) (jumpL stt)).yields R := lay_yields (R := R) rfl (fun y hy => ih y hy) h
    refine resume_ok (X := ⟨G, E k, C f, kt⟩) (body := c) (K0 := giveK P fn (C f).own m) (R := R) ok (hE k) (fun rid s hr => hr) hids (fun rid s r hm hr => hr) (fun ex s' h' hy' => ?_) (hT k x) hy
    have key : ∀ (hy : (runQ (lookO s'.st) (giveQ G fn (C f).own m s') h' fun p _ _ => .leaf (.ret p.1 p.2)).yields R), giveR P fn (C f).own m (denS G s') = some (denV G (o r).1, (o r).2.map (denO G)) := by
      intro hy
      obtain ⟨p, l, h'', hg, hy⟩ := runQ_yields hy
      rw [giveQ_ok ok hg]; exact hy
    cases ex with
    | normal => rw [giveK_normal]; exact key hy'
    | exit i => exact hy'.elim
    | ret => rw [giveK_ret]; exact key hy'
theorem fn_ok {G : Sg} {f : FuncId} {fn : Func} {c : Code} {Rr Lb : Type} {E : Nat → Ev G.El} {kt : Nat → Nat → Nat} {D : Nat → Lb → Option Rr} {blk : Nat → Lb → PT Rr Lb} {start : PT Rr Lb} {stt : Lb → Nat × S G.El} {hint : Lb → H} {h0 : H} {o : Rr → V G.El × List (O G.El)} {args : List (V G.El)} {objs : List (O G.El)} {s0 : S G.El} {k : Nat} {r : Rr}
    (ok : SgOk P G) (hE : ∀ k, EvOk P C prim G (E k)) (hp : prim f = none) (hf : P.funcs[f]? = some fn) (hb : fn.body = some c) (ho : okCode (C f) c = true) (hids : distinct (ids c) = true)
    (hs : s0 = startS fn.ntmps args objs) (hn : args.length ≤ fn.ntmps) (D0 : ∀ x, D 0 x = none) (DS : ∀ k x, D (k + 1) x = (blk k x).run (D k))
    (hT : ∀ k x, resume ⟨G, E k, C f, kt⟩ (stt x).1 c (stt x).2 (hint x) (endK ⟨G, E k, C f, kt⟩ fn objs.length) = some ((blk k x).lay (outL o) (jumpL stt)))
    (h0T : PN.exec ⟨G, E k, C f, kt⟩ c s0 h0 (endK ⟨G, E k, C f, kt⟩ fn objs.length) = start.lay (outL o) (jumpL stt)) (h : start.run (D k) = some r) :
    callT P C prim f (args.map (denV G)) (objs.map (denO G)) = some (denV G (o r).1, (o r).2.map (denO G)) := by
  have hL := labels_ok (P := P) (C := C) (prim := prim) ok hE hids D0 DS hT r
  rw [callK_eq hp hf hb ho, ← startS_den hn, ← hs, List.length_map]
  let R : Lf G.El → Prop := fun lf => match lf with
    | .ret v os => some (denV G v, os.map (denO G)) = some (denV G (o r).1, (o r).2.map (denO G))
    | .at rid s => atK P C prim (C f) rid c (denS G s) (giveK P fn (C f).own objs.length) = some (some (denV G (o r).1, (o r).2.map (denO G)))
  have hy : (start.lay (outL o) (jumpL stt)).yields R := lay_yields (R := R) rfl (fun y hy => hL k y hy) h
  rw [← h0T] at hy
  refine exec_ok (X := ⟨G, E k, C f, kt⟩) (body := c) (K0 := giveK P fn (C f).own objs.length) (R := R) ok (hE k) (fun rid s hr => hr) hids (fun rid s r hm hr => hr) (fun ex s' h' hy' => ?_) hy
  have key : ∀ (hy : (runQ (lookO s'.st) (giveQ G fn (C f).own objs.length s') h' fun p _ _ => .leaf (.ret p.1 p.2)).yields R), giveR P fn (C f).own objs.length (denS G s') = some (denV G (o r).1, (o r).2.map (denO G)) := by
    intro hy
    obtain ⟨p, l, h'', hg, hy⟩ := runQ_yields hy
    rw [giveQ_ok ok hg]; exact hy
  cases ex with
  | normal => rw [giveK_normal]; exact key hy'
  | exit i => exact hy'.elim
  | ret => rw [giveK_ret]; exact key hy'
end Go.Proofs.Ytfjoamlgbegpgaa.PN
namespace Go.Proofs.Ytfjoamlgbegpgaa.PN
open Go Go.Proofs.Ytfjoamlgbegpgaa.PM
variable {P : Program} {C : Cert} {prim : FuncId → Option (List T → List Ob → Option (T × List Ob))} {G : Sg} {β : Type} {lk : Nat → O G.El} {r : β} {l : List Nat}
theorem argI_runs {k : IntKind} {v : V G.El} {f : Int → Q G.El β} (h : (argI k v f).runs lk r l) : ∃ a, denV G v = .sc (.int k a) ∧ (f a).runs lk r l := by
  cases v with
  | il k' n =>
    simp only [argI] at h
    by_cases hk : k' = k
    · subst hk; rw [decide_eq_true rfl] at h; exact ⟨n, rfl, h⟩
    · rw [decide_eq_false hk] at h; exact h.elim
  | id k' m n =>
    simp only [argI] at h
    by_cases hk : k' = k
    · subst hk; rw [decide_eq_true rfl] at h; exact ⟨n, rfl, h⟩
    · rw [decide_eq_false hk] at h; exact h.elim
  | _ => exact h.elim
theorem argS_runs {v : V G.El} {f : ByteArray → Q G.El β} (h : (argS v f).runs lk r l) : ∃ a, denV G v = .sc (.string a) ∧ (f a).runs lk r l := by
  cases v with
  | s x => exact ⟨x, rfl, h⟩
  | _ => exact h.elim
theorem argL_runs {e : Nat} {v : V G.El} {f : List (G.El e) → Q G.El β} (h : (argL e v f).runs lk r l) : ∃ xs, denV G v = .sl (List.map (G.enc e) xs) [] ∧ (f xs).runs lk r l := by
  cases v with
  | sl t xs src =>
    cases src with
    | nil =>
      simp only [argL] at h
      split at h
      · rename_i he; subst he; exact ⟨xs, rfl, h⟩
      · exact h.elim
    | cons a q => exact h.elim
  | s0 src =>
    cases src with
    | nil => exact ⟨[], rfl, h⟩
    | cons a q => exact h.elim
  | _ => exact h.elim
theorem argA_runs {v : V G.El} {f : List (V G.El) → Q G.El β} (h : (argA v f).runs lk r l) : ∃ cs, denV G v = .agg (cs.map (den1 G)) ∧ (f cs).runs lk r l := by
  cases v with
  | agg cs => exact ⟨cs, rfl, h⟩
  | _ => exact h.elim
theorem denV_cell1 (v : V G.El) : denV G (cell1 v) = den1 G v := by
  cases v with
  | bp n c d => cases n <;> rfl
  | bb n x => cases n <;> rfl
  | _ => rfl
theorem argH_runs {cs : List (V G.El)} {f : V G.El → List (V G.El) → Q G.El β} (h : (argH cs f).runs lk r l) : ∃ y q, cs.map (den1 G) = denV G y :: q.map (den1 G) ∧ (f y q).runs lk r l := by
  cases cs with
  | nil => exact h.elim
  | cons y q => exact ⟨cell1 y, q, by rw [denV_cell1]; rfl, h⟩
theorem argT_runs {cs : List (V G.El)} {f : Q G.El β} (h : (argT cs f).runs lk r l) : cs.map (den1 G) = [] ∧ f.runs lk r l := by
  cases cs with
  | nil => exact ⟨rfl, h⟩
  | cons y q => exact h.elim
theorem lH_runs {γ : Type} {cs : List γ} {f : γ → List γ → Q G.El β} (h : (lH cs f).runs lk r l) : ∃ y q, cs = y :: q ∧ (f y q).runs lk r l := by
  cases cs with
  | nil => exact h.elim
  | cons y q => exact ⟨y, q, rfl, h⟩
theorem lT_runs {γ : Type} {cs : List γ} {f : Q G.El β} (h : (lT cs f).runs lk r l) : cs = [] ∧ f.runs lk r l := by
  cases cs with
  | nil => exact ⟨rfl, h⟩
  | cons y q => exact h.elim
theorem argPH_runs {cs : List (V G.El)} {f : V G.El → List (V G.El) → Q G.El β} (h : (argPH cs f).runs lk r l) : ∃ y q, cs.map denP = denV G y :: q.map denP ∧ (f y q).runs lk r l := by
  cases cs with
  | nil => exact h.elim
  | cons y q =>
    simp only [argPH] at h
    cases y with
    | ptr o i j => exact ⟨_, q, rfl, h⟩
    | _ => exact h.elim
theorem argPT_runs {cs : List (V G.El)} {f : Q G.El β} (h : (argT cs f).runs lk r l) : cs.map denP = [] ∧ f.runs lk r l := by
  cases cs with
  | nil => exact ⟨rfl, h⟩
  | cons y q => exact h.elim
theorem argR_runs {e : Nat} {x : O G.El} {f : List (G.El e) → Q G.El β} (h : (argR e x f).runs lk r l) : ∃ xs, denO G x = Ob.mkRow (G.w e) (List.map (G.enc e) xs) ∧ (f xs).runs lk r l := by
  cases x with
  | row a m k v t xs last =>
    cases a <;> cases m <;> first | exact h.elim | skip
    cases v with
    | succ n => exact h.elim
    | zero =>
      simp only [argR] at h
      split at h
      · rename_i he; subst he; exact ⟨_, rfl, h⟩
      · exact h.elim
  | _ => exact h.elim
theorem argW_runs {o n : Nat} {v : V G.El} {f : Q G.El β} (h : (argW o n v f).runs lk r l) : denV G v = .win o 0 n ∧ f.runs lk r l := by
  cases v with
  | win o' full off len =>
    simp only [argW] at h
    cases hb : o' == o && off.is0 with
    | false => rw [hb] at h; exact h.elim
    | true =>
      rw [hb] at h
      simp only [runs_bind, runs_nd] at h
      obtain ⟨_, _, _, ⟨hl, rfl⟩, h, rfl⟩ := h
      simp only [Bool.and_eq_true, beq_iff_eq] at hb
      refine ⟨?_, h⟩
      show T.win o' off.v len.v = _
      rw [hb.1, is0_v hb.2, hl]
  | _ => exact h.elim
theorem argV_runs {o j : Nat} {v : V G.El} {f : Q G.El β} (h : (argV o j v f).runs lk r l) : denV G v = .ptr o 0 j ∧ f.runs lk r l := by
  cases v with
  | ptr o' i j' =>
    simp only [argV] at h
    cases hb : o' == o && i.is0 && j' == j with
    | false => rw [hb] at h; exact h.elim
    | true =>
      rw [hb] at h
      simp only [Bool.and_eq_true, beq_iff_eq] at hb
      refine ⟨?_, h⟩
      show T.ptr o' i.v j' = _
      rw [hb.1.1, is0_v hb.1.2, hb.2]
  | _ => exact h.elim
theorem argF_runs {g : FuncId} {v : V G.El} {f : List (V G.El) → Q G.El β} (h : (argF g v f).runs lk r l) : ∃ cs : List (V G.El), denV G v = .fn g (cs.map denP) ∧ (f cs).runs lk r l := by
  cases v with
  | fn g' caps =>
    simp only [argF] at h
    cases hb : g' == g with
    | false => rw [hb] at h; exact h.elim
    | true =>
      rw [hb] at h
      have : g' = g := by simpa using hb
      exact ⟨caps, by rw [← this]; rfl, h⟩
  | _ => exact h.elim
theorem argX_runs {k : Nat} {agg : Bool} {x : O G.El} {f : List (V G.El) → Q G.El β} (h : (argX k agg x f).runs lk r l) : ∃ cs, denO G x = Ob.mkBox k (wrapT agg (cs.map (den1 G))) ∧ (f cs).runs lk r l := by
  cases x with
  | box a m v k' g cs =>
    cases a <;> cases m <;> first | exact h.elim | skip
    cases v with
    | succ n => exact h.elim
    | zero =>
      simp only [argX] at h
      cases hb : k' == k && (g == agg) && oneOr g cs with
      | false => rw [hb] at h; exact h.elim
      | true =>
        rw [hb] at h
        simp only [Bool.and_eq_true, beq_iff_eq] at hb
        obtain ⟨⟨rfl, rfl⟩, _⟩ := hb
        exact ⟨cs, rfl, h⟩
  | _ => exact h.elim
theorem either_l {γ δ : Type} {a : γ} {f : γ → Q G.El β} {g : δ → Q G.El β} (h : (Q.either γ δ (.inl a) f g).runs lk r l) : (f a).runs lk r l := h
theorem either_r {γ δ : Type} {a : δ} {f : γ → Q G.El β} {g : δ → Q G.El β} (h : (Q.either γ δ (.inr a) f g).runs lk r l) : (g a).runs lk r l := h
theorem call_runs {ρ : Type} {x : Option ρ} {f : ρ → Q G.El β} (h : (Q.call ρ x f).runs lk r l) : ∃ y, x = some y ∧ (f y).runs lk r l := h
def SumOk (P : Program) (C : Cert) (prim : FuncId → Option (List T → List Ob → Option (T × List Ob))) (G : Sg) (f : FuncId) (s : List (V G.El) → List (O G.El) → Q G.El (V G.El × List (O G.El))) : Prop :=
  ∀ (args : List (V G.El)) (objs : List (O G.El)) (lk : Nat → O G.El) (r : V G.El × List (O G.El)) (l : List Nat), (s args objs).runs lk r l →
    l = [] ∧ callT P C prim f (args.map (denV G)) (objs.map (denO G)) = some (denV G r.1, r.2.map (denO G))
def SumsOk (P : Program) (C : Cert) (prim : FuncId → Option (List T → List Ob → Option (T × List Ob))) (G : Sg) (l : List (Nat × (List (V G.El) → List (O G.El) → Q G.El (V G.El × List (O G.El))))) : Prop := ∀ f s, findU l f = some s → SumOk P C prim G f s
theorem sums_nil : SumsOk P C prim G [] := fun f s h => by cases h
theorem sums_cons {f : Nat} {s : List (V G.El) → List (O G.El) → Q G.El (V G.El × List (O G.El))} {l : List (Nat × (List (V G.El) → List (O G.El) → Q G.El (V G.El × List (O G.El))))} (h1 : SumOk P C prim G f s) (h2 : SumsOk P C prim G l) : SumsOk P C prim G ((f, s) :: l) := by
  intro g t h
  simp only [findU] at h
  split at h
  · rename_i he; subst he; obtain rfl := Option.some.inj h; exact h1
  · exact h2 g t h
theorem env_ok {l : List (Nat × (List (V G.El) → List (O G.El) → Q G.El (V G.El × List (O G.El))))} (h : SumsOk P C prim G l) : EvOk P C prim G (envOf C l) := by
  refine ⟨fun f => rfl, fun f args objs lk r q hr => ?_⟩
  simp only [envOf] at hr
  cases hf : findU l f with
  | none => rw [hf] at hr; exact hr.elim
  | some s => rw [hf] at hr; exact h f s hf args objs lk r q hr
theorem fn_ok0 {f : FuncId} {fn : Func} {c : Code} {Rr : Type} {E : Nat → Ev G.El} {kt : Nat → Nat → Nat} {start : PT Rr Empty} {h0 : H} {o : Rr → V G.El × List (O G.El)} {args : List (V G.El)} {objs : List (O G.El)} {s0 : S G.El} {k : Nat} {r : Rr}
    (ok : SgOk P G) (hE : ∀ k, EvOk P C prim G (E k)) (hp : prim f = none) (hf : P.funcs[f]? = some fn) (hb : fn.body = some c) (ho : okCode (C f) c = true) (hids : distinct (ids c) = true)
    (hs : s0 = startS fn.ntmps args objs) (hn : args.length ≤ fn.ntmps)
    (h0T : PN.exec ⟨G, E k, C f, kt⟩ c s0 h0 (endK ⟨G, E k, C f, kt⟩ fn objs.length) = start.lay (outL o) (jumpL (Empty.elim : Empty → Nat × S G.El))) (h : start.run (Empty.elim) = some r) :
    callT P C prim f (args.map (denV G)) (objs.map (denO G)) = some (denV G (o r).1, (o r).2.map (denO G)) :=
  fn_ok (D := fun _ => Empty.elim) (blk := fun _ => Empty.elim) (stt := Empty.elim) (hint := Empty.elim) ok hE hp hf hb ho hids hs hn (fun x => x.elim) (fun _ x => x.elim) (fun _ x => x.elim) h0T h
theorem cI_some {k : IntKind} {v : V G.El} {f : Int → Option β} (h : cI k v f = some r) : ∃ a, den1 G v = .sc (.int k a) ∧ f a = some r := by
  cases v with
  | il k' n =>
    simp only [cI] at h
    by_cases hk : k' = k
    · subst hk; rw [decide_eq_true rfl] at h; exact ⟨n, rfl, h⟩
    · rw [decide_eq_false hk] at h; cases h
  | id k' m n =>
    simp only [cI] at h
    by_cases hk : k' = k
    · subst hk; rw [decide_eq_true rfl] at h; exact ⟨n, rfl, h⟩
    · rw [decide_eq_false hk] at h; cases h
  | _ => cases h
theorem cS_some {v : V G.El} {f : ByteArray → Option β} (h : cS v f = some r) : ∃ a, den1 G v = .sc (.string a) ∧ f a = some r := by
  cases v with
  | s x => exact ⟨x, rfl, h⟩
  | _ => cases h
def TisOk (P : Program) (G : Sg) (l : List (Nat × TI G.El)) : Prop := ∀ t i, findK l t = some i → TiOk P G t i
theorem tis_nil : TisOk P G [] := fun t i h => by cases h
theorem tis_cons {t : Nat} {i : TI G.El} {l : List (Nat × TI G.El)} (h1 : TiOk P G t i) (h2 : TisOk P G l) : TisOk P G ((t, i) :: l) := by
  intro g j h
  simp only [findK] at h
  split at h
  · rename_i he; subst he; obtain rfl := Option.some.inj h; exact h1
  · exact h2 g j h
theorem some_all {α : Type} {a b : α} {p : α → Prop} (h : p a) (e : some a = some b) : p b := by obtain rfl := Option.some.inj e; exact h
theorem none_all {α : Type} {b : α} {p : Prop} (e : none = some b) : p := by cases e
theorem ofStr_u8 (s : ByteArray) : (bytesL s).map (fun x => T.sc (.int .u8 x)) = s.data.toList.map fun b => T.sc (.int .u8 (b.toNat : Int)) := by unfold bytesL; rw [List.map_map]; rfl
theorem toStr_u8 (xs : List Int) : bytesOf (xs.map (fun x => T.sc (.int .u8 x))) = some (strOf xs).data.toList := by
  have := bytesOf_map xs
  unfold strOf
  exact this
end Go.Proofs.Ytfjoamlgbegpgaa.PN
namespace Go.Proofs.Ytfjoamlgbegpgaa.P
open Go Go.Proofs.Ytfjoamlgbegpgaa.PM Go.Proofs.Ytfjoamlgbegpgaa.PN Go.Proofs
set_option maxRecDepth 100000
set_option linter.unusedVariables false
def El : Nat → Type
  | 0 => S106
  | 1 => S108
  | 2 => S80
  | 3 => S73
  | 4 => S136
  | 5 => S104
  | 6 => Int
  | _ + 7 => Unit
def tis : List (Nat × TI El) := [
  (2, ⟨1, false, 8, .int .i64, some (.il .i64 0), some [none], none⟩),
  (3, ⟨1, false, 8, .int .i64, some (.il .i64 0), some [none], none⟩),
  (4, ⟨1, false, 1, .bool, some (.bl false), some [none], none⟩),
  (5, ⟨1, false, 1, .int .u8, some (.il .u8 0), some [none], none⟩),
  (9, ⟨1, false, 16, .string, some (.s (⟨#[]⟩ : ByteArray)), some [none], none⟩),
  (22, ⟨1, false, 24, .slice 106 0, some (.nil), some [some 0], none⟩),
  (23, ⟨1, false, 24, .slice 108 1, some (.nil), some [some 1], none⟩),
  (25, ⟨3, true, 72, .struct [(0, 22), (1, 22), (2, 23)], some (.agg [.nil, .nil, .nil]), some [some 0, some 0, some 1], none⟩),
  (28, ⟨1, false, 24, .slice 80 2, some (.nil), some [some 2], none⟩),
  (29, ⟨1, false, 24, .slice 73 3, some (.nil), some [some 3], none⟩),
  (31, ⟨3, true, 72, .struct [(0, 28), (1, 28), (2, 29)], some (.agg [.nil, .nil, .nil]), some [some 2, some 2, some 3], none⟩),
  (38, ⟨1, false, 24, .slice 5 6, some (.nil), some [some 6], none⟩),
  (51, ⟨1, false, 8, .int .u64, some (.il .u64 0), some [none], none⟩),
  (58, ⟨1, false, 24, .slice 136 4, some (.nil), some [some 4], none⟩),
  (60, ⟨3, true, 40, .struct [(0, 2), (1, 2), (2, 58)], some (.agg [.il .i64 0, .il .i64 0, .nil]), some [none, none, some 4], none⟩),
  (73, ⟨4, true, 56, .struct [(0, 2), (1, 9), (2, 9), (3, 9)], some (.agg [.il .i64 0, .s (⟨#[]⟩ : ByteArray), .s (⟨#[]⟩ : ByteArray), .s (⟨#[]⟩ : ByteArray)]), some [none, none, none, none], none⟩),
  (80, ⟨2, true, 32, .struct [(0, 9), (1, 9)], some (.agg [.s (⟨#[]⟩ : ByteArray), .s (⟨#[]⟩ : ByteArray)]), some [none, none], some [(0, 9), (1, 9)]⟩),
  (104, ⟨2, true, 24, .struct [(0, 2), (1, 9)], some (.agg [.il .i64 0, .s (⟨#[]⟩ : ByteArray)]), some [none, none], none⟩),
  (106, ⟨2, true, 32, .struct [(0, 9), (1, 9)], some (.agg [.s (⟨#[]⟩ : ByteArray), .s (⟨#[]⟩ : ByteArray)]), some [none, none], none⟩),
  (108, ⟨4, true, 56, .struct [(0, 2), (1, 9), (2, 9), (3, 9)], some (.agg [.il .i64 0, .s (⟨#[]⟩ : ByteArray), .s (⟨#[]⟩ : ByteArray), .s (⟨#[]⟩ : ByteArray)]), some [none, none, none, none], none⟩),
  (128, ⟨1, false, 24, .slice 104 5, some (.nil), some [some 5], none⟩),
  (136, ⟨3, true, 32, .struct [(0, 2), (1, 2), (2, 9)], some (.agg [.il .i64 0, .il .i64 0, .s (⟨#[]⟩ : ByteArray)]), some [none, none, none], none⟩),
  (141, ⟨0, true, 0, .struct [], some (.agg []), some [], none⟩),
  (143, ⟨1, false, 4, .int .u32, some (.il .u32 0), some [none], none⟩)]
def G : Sg where
  El := El
  w := fun t => match t with | 0 => (2) | 1 => (4) | 2 => (2) | 3 => (4) | 4 => (3) | 5 => (2) | 6 => (1) | _ + 7 => 0
  aggE := fun t => match t with | 0 => (true) | 1 => (true) | 2 => (true) | 3 => (true) | 4 => (true) | 5 => (true) | 6 => (false) | _ + 7 => true
  flat := fun t => match t with | 0 => (true) | 1 => (true) | 2 => (true) | 3 => (true) | 4 => (true) | 5 => (true) | 6 => (true) | _ + 7 => true
  inh := fun t => match t with | 0 => ((default : S106)) | 1 => ((default : S108)) | 2 => ((default : S80)) | 3 => ((default : S73)) | 4 => ((default : S136)) | 5 => ((default : S104)) | 6 => ((default : Int)) | _ + 7 => ()
  cells := fun t => match t with | 0 => (fun (x : S106) => [.s x.f0, .s x.f1]) | 1 => (fun (x : S108) => [.id .i64 0 x.f0, .s x.f1, .s x.f2, .s x.f3]) | 2 => (fun (x : S80) => [.s x.f0, .s x.f1]) | 3 => (fun (x : S73) => [.id .i64 0 x.f0, .s x.f1, .s x.f2, .s x.f3]) | 4 => (fun (x : S136) => [.id .i64 0 x.f0, .id .i64 0 x.f1, .s x.f2]) | 5 => (fun (x : S104) => [.id .i64 0 x.f0, .s x.f1]) | 6 => (fun (x : Int) => [.id .u8 0 x]) | _ + 7 => fun _ => []
  mkE := fun t => match t with | 0 => (fun cs => match cs with | [c0, c1] => cS c0 fun a0 => cS c1 fun a1 => some (⟨a0, a1⟩ : S106) | _ => none) | 1 => (fun cs => match cs with | [c0, c1, c2, c3] => cI .i64 c0 fun a0 => cS c1 fun a1 => cS c2 fun a2 => cS c3 fun a3 => some (⟨a0, a1, a2, a3⟩ : S108) | _ => none) | 2 => (fun cs => match cs with | [c0, c1] => cS c0 fun a0 => cS c1 fun a1 => some (⟨a0, a1⟩ : S80) | _ => none) | 3 => (fun cs => match cs with | [c0, c1, c2, c3] => cI .i64 c0 fun a0 => cS c1 fun a1 => cS c2 fun a2 => cS c3 fun a3 => some (⟨a0, a1, a2, a3⟩ : S73) | _ => none) | 4 => (fun cs => match cs with | [c0, c1, c2] => cI .i64 c0 fun a0 => cI .i64 c1 fun a1 => cS c2 fun a2 => some (⟨a0, a1, a2⟩ : S136) | _ => none) | 5 => (fun cs => match cs with | [c0, c1] => cI .i64 c0 fun a0 => cS c1 fun a1 => some (⟨a0, a1⟩ : S104) | _ => none) | 6 => (fun cs => match cs with | [c0] => cI .u8 c0 fun a0 => some (a0 : Int) | _ => none) | _ + 7 => fun _ => none
  ofStr := fun t => match t with | 0 => (fun _ => none) | 1 => (fun _ => none) | 2 => (fun _ => none) | 3 => (fun _ => none) | 4 => (fun _ => none) | 5 => (fun _ => none) | 6 => (fun s => some (bytesL s)) | _ + 7 => fun _ => none
  toStr := fun t => match t with | 0 => (fun _ => none) | 1 => (fun _ => none) | 2 => (fun _ => none) | 3 => (fun _ => none) | 4 => (fun _ => none) | 5 => (fun _ => none) | 6 => (fun xs => some (strOf xs)) | _ + 7 => fun _ => none
  ti := findK tis
  enc := fun t => match t with | 0 => (e106) | 1 => (e108) | 2 => (e80) | 3 => (e73) | 4 => (e136) | 5 => (e104) | 6 => (fun (x : Int) => T.sc (.int .u8 x)) | _ + 7 => fun _ => T.agg []
def cc10 : FCert := ⟨[], true, [], [(10, [[], [], [1], [0, 1, 2], []])]⟩
def cc11 : FCert := ⟨[], true, [], [(10, [[], [], [1], [0, 1, 2], []])]⟩
def cc12 : FCert := ⟨[], true, [], []⟩
def cc13 : FCert := ⟨[], true, [(5, [(1, 0), (3, 1), (4, 0)])], []⟩
def cc14 : FCert := ⟨[], true, [], []⟩
def cc16 : FCert := ⟨[], true, [], []⟩
def cc24 : FCert := ⟨[], true, [], [(3, [[], [], [1], [], [], [1, 2, 4], [], [1, 2, 4, 5]])]⟩
def cc26 : FCert := ⟨[], true, [], []⟩
def cc28 : FCert := ⟨[], true, [], [(3, [[], [], [], [0, 2], [], [], [], [0, 2, 3, 4, 6], [], [0, 2, 3, 4, 6, 7]])]⟩
def cc29 : FCert := ⟨[true], true, [], []⟩
def cc30 : FCert := ⟨[], true, [], []⟩
def cc34 : FCert := ⟨[], true, [], []⟩
def cc35 : FCert := ⟨[], true, [], []⟩
def cc36 : FCert := ⟨[], true, [], []⟩
def cc37 : FCert := ⟨[true], true, [], []⟩
def cc38 : FCert := ⟨[], true, [], []⟩
def cc39 : FCert := ⟨[], true, [], [(6, [[], [], [], [], [0, 3], [], [], [], [], [0, 3, 4, 8], []])]⟩
def cc40 : FCert := ⟨[], true, [], [(6, [[], [], [], [], [2], [], [], [2, 4], [0, 2, 4, 7], [], [], [], [], [0, 2, 4, 7, 8, 12], []])]⟩
def cc41 : FCert := ⟨[], true, [(5, [(0, 0), (1, 0), (5, 0)])], []⟩
def cc42 : FCert := ⟨[], true, [(5, [(0, 0), (1, 0), (5, 0)])], []⟩
def cc43 : FCert := ⟨[], true, [(5, [(0, 0), (3, 0), (4, 0)])], [(7, [[], [], [], [], [2], [2, 4], [], [], [], [], [], [], [], [2, 4, 5], [], [2, 4, 5, 13], [], [], [], [2, 4, 5], [], [2, 4, 5, 19], [], [], []])]⟩
def cc44 : FCert := ⟨[], true, [], [(11, [[], [], [], [], [], [], [], [5], [2, 5, 7], []])]⟩
def cc45 : FCert := ⟨[], true, [], []⟩
def cc46 : FCert := ⟨[], true, [(4, [(0, 0), (1, 0), (5, 0)])], [(6, [[], [], [], [2], [], [], [], [6], []])]⟩
def cc47 : FCert := ⟨[], true, [(3, [(0, 0), (3, 0), (4, 0)])], []⟩
def cc48 : FCert := ⟨[], true, [(3, [(0, 0), (3, 0), (4, 0)])], []⟩
def cc49 : FCert := ⟨[], true, [(5, [(1, 0), (3, 1), (27, 0), (28, 0), (29, 0)])], []⟩
def cc50 : FCert := ⟨[], true, [(4, [(0, 0), (1, 0), (5, 0)])], [(6, [[], [], [], [2], [], [], [], [6], [2, 3, 6, 7], []])]⟩
def cc51 : FCert := ⟨[], true, [(4, [(0, 0), (1, 0), (5, 0)])], [(6, [[], [], [], [2], [], [], [], [6], [2, 3, 6, 7], []])]⟩
def cc52 : FCert := ⟨[], true, [(2, [(0, 0), (1, 0), (5, 0)])], []⟩
def cc53 : FCert := ⟨[], true, [], []⟩
def cc58 : FCert := ⟨[], true, [], []⟩
def cc59 : FCert := ⟨[], true, [], []⟩
def cc60 : FCert := ⟨[], true, [], []⟩
def cc61 : FCert := ⟨[], true, [], [(13, [[], [], [], [], [], [], [], [5], [], [2, 5, 7], [], []])]⟩
def cc62 : FCert := ⟨[], true, [(3, [(0, 0), (3, 0), (6, 0), (7, 0), (8, 0)])], [(6, [[], [], [1], [], [], [], [], [], [], [], [], [], [], [], [], [1, 2], [], [1, 2, 15], [], [1, 2], [], [], []])]⟩
def cc65 : FCert := ⟨[], true, [], []⟩
def cc66 : FCert := ⟨[], true, [], [(1, [[], [], [], [0, 2], [], [], [], [0, 2, 3, 4, 6], [], [], [], [0, 2, 3, 4, 6, 7, 8, 10], [], [0, 2, 3, 4, 6, 7, 8, 10, 11]])]⟩
def cc67 : FCert := ⟨[], true, [(9, [(3, 0), (6, 0), (10, 0), (40, 0), (41, 0), (42, 0)])], []⟩
def cc68 : FCert := ⟨[true], true, [(2, [(0, 0), (1, 0), (5, 0)])], []⟩
def cc69 : FCert := ⟨[true], true, [(2, [(0, 0), (1, 0), (5, 0)])], []⟩
def cc70 : FCert := ⟨[], true, [(2, [(0, 0), (1, 0), (5, 0)])], [(4, [[], [], [], [], [2], [], [], []]), (7, [[], [], [], [], [2], [], [], []])]⟩
def cc71 : FCert := ⟨[], true, [(2, [(0, 0), (1, 0), (5, 0)])], [(7, [[], [], [], [], [2], [], [], []]), (10, [[], [], [], [], [2], [], [], []]), (13, [[], [], [], [], [2], [], [], []])]⟩
def cc72 : FCert := ⟨[], true, [], [(16, [[], [], [], [1], [], [1, 3], [], [], [1, 3, 5, 7], [], [], [], [], [1, 3, 5, 7, 8], []])]⟩
def cc73 : FCert := ⟨[], true, [(20, [(2, 0), (4, 0), (18, 0), (105, 0), (106, 0), (107, 0)])], []⟩
def cc74 : FCert := ⟨[], true, [(4, [(0, 0), (1, 0), (5, 0)])], [(6, [[], [], [], [2], [], [], [], [6], [2, 3, 6, 7], []])]⟩
def cc75 : FCert := ⟨[true], true, [(2, [(0, 0), (1, 0), (5, 0)])], []⟩
def cc76 : FCert := ⟨[], true, [(2, [(0, 0), (1, 0), (5, 0)])], [(10, [[], [], [], [], [2], [], [], []])]⟩
def cc77 : FCert := ⟨[], true, [], []⟩
def cc78 : FCert := ⟨[], true, [], []⟩
def cc79 : FCert := ⟨[], true, [], [(1, [[], [], [1], [], [], [1, 2, 4], [], [], [], [1, 2, 4, 5, 6, 8], [], [1, 2, 4, 5, 6, 8, 9]])]⟩
def cc80 : FCert := ⟨[], true, [], [(5, [[], [], [], [], [3], [0, 3, 4], [0, 3, 4, 5], []])]⟩
def cc81 : FCert := ⟨[], true, [(2, [(0, 0), (3, 0)])], []⟩
def cc82 : FCert := ⟨[], true, [], []⟩
def cc83 : FCert := ⟨[], true, [], []⟩
def cc84 : FCert := ⟨[], true, [], []⟩
def cc85 : FCert := ⟨[], true, [(4, [(0, 0), (1, 0), (2, 0), (7, 0), (8, 0), (9, 0)])], []⟩
def cc86 : FCert := ⟨[], true, [(3, [(0, 0), (1, 0), (5, 0), (6, 0)])], []⟩
def cc87 : FCert := ⟨[], true, [], []⟩
def cc88 : FCert := ⟨[], true, [], []⟩
def cc89 : FCert := ⟨[], true, [], []⟩
def cc90 : FCert := ⟨[], true, [(4, [(0, 0), (1, 0), (12, 0), (13, 0)])], [(6, [[], [], [], [2], [], [], [], [6], []])]⟩
def cc91 : FCert := ⟨[], true, [], []⟩
def cc92 : FCert := ⟨[], true, [], []⟩
def cc93 : FCert := ⟨[], true, [(2, [(0, 0), (1, 0), (7, 0), (8, 0)])], []⟩
def cc94 : FCert := ⟨[], true, [], []⟩
def cc99 : FCert := ⟨[], true, [], []⟩
def cc100 : FCert := ⟨[true], true, [], []⟩
def cc101 : FCert := ⟨[], true, [], []⟩
def cc103 : FCert := ⟨[true, false, true], true, [], []⟩
def cc104 : FCert := ⟨[], true, [], []⟩
def cc105 : FCert := ⟨[], true, [(4, [(0, 0), (3, 0)])], []⟩
def cc106 : FCert := ⟨[], true, [(3, [(0, 0), (5, 0), (6, 0)])], []⟩
def cc107 : FCert := ⟨[], true, [(4, [(0, 0), (5, 0), (6, 0), (7, 0)])], []⟩
def cc108 : FCert := ⟨[], true, [(5, [(1, 0), (6, 0), (7, 0), (8, 0), (11, 0)])], [(8, [[], [], [], [], [], [], [], [], [], [], [], [], [], [4], [], [], [], [4], [], [4, 17], [], [], []])]⟩
def cc109 : FCert := ⟨[], true, [(3, [(0, 0), (5, 0), (6, 0)])], [(12, [[], [], [], [0, 2], []]), (19, [[], [], [], [], [0, 3], [], [0, 3, 4], []]), (21, [[], [], [], [2], [2, 3], [], [], [], [2, 3, 4, 6], [2, 3, 4, 6, 8], []])]⟩
def cc110 : FCert := ⟨[], true, [(3, [(0, 0), (5, 0), (6, 0)])], []⟩
def cc111 : FCert := ⟨[], true, [], []⟩
def cc112 : FCert := ⟨[], true, [], []⟩
def cc113 : FCert := ⟨[], true, [], [(3, [[], [], [1], [1, 2], [1, 2, 3], [], [], [6], [6, 7], [6, 7, 8], [], [], [], [], []])]⟩
def cc114 : FCert := ⟨[], true, [(4, [(0, 0), (3, 0)])], []⟩
def cc115 : FCert := ⟨[false, true], true, [], []⟩
def cc116 : FCert := ⟨[], true, [(3, [(0, 0), (3, 0), (7, 0), (8, 0)]), (7, [(0, 0), (3, 0), (7, 0), (8, 0), (17, 0)])], []⟩
def cc118 : FCert := ⟨[], true, [(3, [(0, 0), (1, 0), (2, 0), (8, 0), (9, 0), (10, 0)])], []⟩
def cc119 : FCert := ⟨[], true, [], []⟩
def cc120 : FCert := ⟨[], true, [], []⟩
def cc121 : FCert := ⟨[true, false, true], true, [], []⟩
def cc124 : FCert := ⟨[], true, [], [(12, [[], [], [], [], [], [4], [], [], [], [], [4, 5, 9], []]), (14, [[], [], [], [], [], [], [], [], [], [2, 6], [], []])]⟩
def cc125 : FCert := ⟨[], true, [], [(5, [[], [], [], [], [], [], [], [], [], [], [], [], [], [], [], [], [], [], [2], [2, 18], [], [0, 2, 18, 19], []])]⟩
def cc126 : FCert := ⟨[], true, [], [(3, [[], [], [1], [], [], [1, 2, 4], [], [], [], [1, 2, 4, 5, 8], [], [], [1, 2, 4, 5, 8, 9], []])]⟩
def cc127 : FCert := ⟨[], true, [], [(2, [[], [], [1], [1, 2], [], [], [5], [5, 6], [], [], [], [], [11], [11, 12], [], [], [], [], [17], [17, 18], [], [], []])]⟩
def cc128 : FCert := ⟨[], true, [], []⟩
def cc129 : FCert := ⟨[], true, [], []⟩
def cc130 : FCert := ⟨[], true, [], []⟩
def cc131 : FCert := ⟨[], true, [(3, [(0, 0), (3, 0), (4, 0)]), (7, [(0, 0), (3, 0), (4, 0), (5, 0)])], []⟩
def cc132 : FCert := ⟨[], true, [], []⟩
def cc136 : FCert := ⟨[], true, [], []⟩
def cc137 : FCert := ⟨[], true, [], []⟩
def cc138 : FCert := ⟨[], true, [], []⟩
def cc139 : FCert := ⟨[], true, [], []⟩
def CC0 : Cert := fun f => if f = 10 then cc10 else if f = 11 then cc11 else if f = 12 then cc12 else if f = 13 then cc13 else if f = 14 then cc14 else if f = 16 then cc16 else if f = 24 then cc24 else if f = 26 then cc26 else if f = 28 then cc28 else if f = 29 then cc29 else if f = 30 then cc30 else if f = 34 then cc34 else if f = 35 then cc35 else if f = 36 then cc36 else if f = 37 then cc37 else if f = 38 then cc38 else if f = 39 then cc39 else if f = 40 then cc40 else if f = 41 then cc41 else if f = 42 then cc42 else if f = 43 then cc43 else if f = 44 then cc44 else if f = 45 then cc45 else if f = 46 then cc46 else if f = 47 then cc47 else if f = 48 then cc48 else if f = 49 then cc49 else if f = 50 then cc50 else if f = 51 then cc51 else if f = 52 then cc52 else if f = 53 then cc53 else if f = 58 then cc58 else if f = 59 then cc59 else if f = 60 then cc60 else if f = 61 then cc61 else if f = 62 then cc62 else if f = 65 then cc65 else if f = 66 then cc66 else if f = 67 then cc67 else if f = 68 then cc68 else if f = 69 then cc69 else if f = 70 then cc70 else if f = 71 then cc71 else if f = 72 then cc72 else if f = 73 then cc73 else if f = 74 then cc74 else if f = 75 then cc75 else if f = 76 then cc76 else if f = 77 then cc77 else if f = 78 then cc78 else if f = 79 then cc79 else if f = 80 then cc80 else if f = 81 then cc81 else if f = 82 then cc82 else if f = 83 then cc83 else if f = 84 then cc84 else if f = 85 then cc85 else if f = 86 then cc86 else if f = 87 then cc87 else if f = 88 then cc88 else if f = 89 then cc89 else if f = 90 then cc90 else if f = 91 then cc91 else if f = 92 then cc92 else if f = 93 then cc93 else if f = 94 then cc94 else if f = 99 then cc99 else if f = 100 then cc100 else if f = 101 then cc101 else if f = 103 then cc103 else if f = 104 then cc104 else if f = 105 then cc105 else if f = 106 then cc106 else if f = 107 then cc107 else if f = 108 then cc108 else if f = 109 then cc109 else if f = 110 then cc110 else if f = 111 then cc111 else if f = 112 then cc112 else if f = 113 then cc113 else if f = 114 then cc114 else if f = 115 then cc115 else if f = 116 then cc116 else if f = 118 then cc118 else if f = 119 then cc119 else if f = 120 then cc120 else if f = 121 then cc121 else if f = 124 then cc124 else if f = 125 then cc125 else if f = 126 then cc126 else if f = 127 then cc127 else if f = 128 then cc128 else if f = 129 then cc129 else if f = 130 then cc130 else if f = 131 then cc131 else if f = 132 then cc132 else if f = 136 then cc136 else if f = 137 then cc137 else if f = 138 then cc138 else if f = 139 then cc139 else ⟨[], false, [], []⟩
def f82.start (k : Nat) (a0_0 : ByteArray) (a0_1 : ByteArray) (a1_0 : Int) : PT (Int) Empty := .ite ((IntKind.i64.wrap (a1_0 - ((a0_0.size : Nat) : Int))) < 0) (fun h1 => .ret (-1)) (fun h1 => .ite ((IntKind.i64.wrap ((IntKind.i64.wrap (a1_0 - ((a0_0.size : Nat) : Int))) - ((a0_1.size : Nat) : Int))) < 0) (fun h2 => .ret (-1)) (fun h2 => .ret (IntKind.i64.wrap ((IntKind.i64.wrap (a1_0 - ((a0_0.size : Nat) : Int))) - ((a0_1.size : Nat) : Int)))))
def f82.o (a0_0 : ByteArray) (a0_1 : ByteArray) (a1_0 : Int) : (Int) → V El × List (O El) := fun r => (.id .i64 0 r, [])
def sf82 (k : Nat) : List (V G.El) → List (O G.El) → Q G.El (V G.El × List (O G.El)) := fun as0' os0' => lH as0' fun v0 as1' => lH as1' fun v1 as2' => lT as2' <| lT os0' <| argA v0 fun b1' => argH b1' fun y2' r2' => argH r2' fun y3' r3' => argT r3' <| argS y2' fun a0_0 => argS y3' fun a0_1 => argI .i64 v1 fun a1_0 => .call _ (f82 k a0_0 a0_1 a1_0) fun r => .ret (.id .i64 0 r, [])
inductive f41.L where
  | l5 (x0 : List S106) (x1 : Int) (x5 : Int)
def f41.st : f41.L → Nat × S El
  | .l5 x0 x1 x5 => (5, ⟨27, .dead, [(0, .sl 0 x0 []), (1, .id .i64 2 x1), (5, .id .i64 6 x5)], [], 0, 0⟩)
def f41.hint : f41.L → H
  | .l5 .. => .all
def f41.blk (k : Nat) : f41.L → PT (Int) f41.L
  | .l5 x0 x1 x5 => .ite (x5 < ((x0.length : Nat) : Int)) (fun h2 => .need (0 ≤ x5) fun h3 => .th h2 <| .call _ (f82 k ((at' x0 x5).f0) ((at' x0 x5).f1) x1) fun t1 => .ite (t1 < 0) (fun h4 => .ret (-1)) (fun h4 => .jump (.l5 x0 t1 (IntKind.i64.wrap (x5 + 1))))) (fun h2 => .ret x1)
def f41.D (k : Nat) : f41.L → Option (Int)
  | .l5 x0 x1 x5 => f41.l5 k x0 x1 x5
def f41.start (k : Nat) (a0_0 : List S106) (a1_0 : Int) : PT (Int) f41.L := .ite ((IntKind.i64.wrap (a1_0 - ((a0_0.length : Nat) : Int))) < 0) (fun h1 => .ret (-1)) (fun h1 => .jump (.l5 a0_0 (IntKind.i64.wrap (a1_0 - ((a0_0.length : Nat) : Int))) 0))
def f41.o (a0_0 : List S106) (a1_0 : Int) : (Int) → V El × List (O El) := fun r => (.id .i64 0 r, [])
def sf41 (k : Nat) : List (V G.El) → List (O G.El) → Q G.El (V G.El × List (O G.El)) := fun as0' os0' => lH as0' fun v0 as1' => lH as1' fun v1 as2' => lT as2' <| lT os0' <| argL 0 v0 fun a0_0 => argI .i64 v1 fun a1_0 => .call _ (f41 k a0_0 a1_0) fun r => .ret (.id .i64 0 r, [])
def f83.start (k : Nat) (a0_0 : Int) (a0_1 : ByteArray) (a0_2 : ByteArray) (a0_3 : ByteArray) (a1_0 : Int) : PT (Int) Empty := .ite ((IntKind.i64.wrap (a1_0 - ((a0_1.size : Nat) : Int))) < 0) (fun h1 => .ret (-1)) (fun h1 => .ite ((IntKind.i64.wrap ((IntKind.i64.wrap (a1_0 - ((a0_1.size : Nat) : Int))) - ((a0_2.size : Nat) : Int))) < 0) (fun h2 => .ret (-1)) (fun h2 => .ite ((IntKind.i64.wrap ((IntKind.i64.wrap ((IntKind.i64.wrap (a1_0 - ((a0_1.size : Nat) : Int))) - ((a0_2.size : Nat) : Int))) - ((a0_3.size : Nat) : Int))) < 0) (fun h3 => .ret (-1)) (fun h3 => .ret (IntKind.i64.wrap ((IntKind.i64.wrap ((IntKind.i64.wrap (a1_0 - ((a0_1.size : Nat) : Int))) - ((a0_2.size : Nat) : Int))) - ((a0_3.size : Nat) : Int))))))
def f83.o (a0_0 : Int) (a0_1 : ByteArray) (a0_2 : ByteArray) (a0_3 : ByteArray) (a1_0 : Int) : (Int) → V El × List (O El) := fun r => (.id .i64 0 r, [])
def sf83 (k : Nat) : List (V G.El) → List (O G.El) → Q G.El (V G.El × List (O G.El)) := fun as0' os0' => lH as0' fun v0 as1' => lH as1' fun v1 as2' => lT as2' <| lT os0' <| argA v0 fun b1' => argH b1' fun y2' r2' => argH r2' fun y3' r3' => argH r3' fun y4' r4' => argH r4' fun y5' r5' => argT r5' <| argI .i64 y2' fun a0_0 => argS y3' fun a0_1 => argS y4' fun a0_2 => argS y5' fun a0_3 => argI .i64 v1 fun a1_0 => .call _ (f83 k a0_0 a0_1 a0_2 a0_3 a1_0) fun r => .ret (.id .i64 0 r, [])
inductive f42.L where
  | l5 (x0 : List S108) (x1 : Int) (x5 : Int)
def f42.st : f42.L → Nat × S El
  | .l5 x0 x1 x5 => (5, ⟨27, .dead, [(0, .sl 1 x0 []), (1, .id .i64 2 x1), (5, .id .i64 6 x5)], [], 0, 0⟩)
def f42.hint : f42.L → H
  | .l5 .. => .all
def f42.blk (k : Nat) : f42.L → PT (Int) f42.L
  | .l5 x0 x1 x5 => .ite (x5 < ((x0.length : Nat) : Int)) (fun h2 => .need (0 ≤ x5) fun h3 => .th h2 <| .call _ (f83 k ((at' x0 x5).f0) ((at' x0 x5).f1) ((at' x0 x5).f2) ((at' x0 x5).f3) x1) fun t1 => .ite (t1 < 0) (fun h4 => .ret (-1)) (fun h4 => .jump (.l5 x0 t1 (IntKind.i64.wrap (x5 + 1))))) (fun h2 => .ret x1)
def f42.D (k : Nat) : f42.L → Option (Int)
  | .l5 x0 x1 x5 => f42.l5 k x0 x1 x5
def f42.start (k : Nat) (a0_0 : List S108) (a1_0 : Int) : PT (Int) f42.L := .ite ((IntKind.i64.wrap (a1_0 - ((a0_0.length : Nat) : Int))) < 0) (fun h1 => .ret (-1)) (fun h1 => .jump (.l5 a0_0 (IntKind.i64.wrap (a1_0 - ((a0_0.length : Nat) : Int))) 0))
def f42.o (a0_0 : List S108) (a1_0 : Int) : (Int) → V El × List (O El) := fun r => (.id .i64 0 r, [])
def sf42 (k : Nat) : List (V G.El) → List (O G.El) → Q G.El (V G.El × List (O G.El)) := fun as0' os0' => lH as0' fun v0 as1' => lH as1' fun v1 as2' => lT as2' <| lT os0' <| argL 1 v0 fun a0_0 => argI .i64 v1 fun a1_0 => .call _ (f42 k a0_0 a1_0) fun r => .ret (.id .i64 0 r, [])
def f12.start (k : Nat) (a0_0 : List S106) (a0_1 : List S106) (a0_2 : List S108) (a1_0 : Int) : PT (Int) Empty := .call _ (f41 k a0_0 a1_0) fun t1 => .ite (t1 < 0) (fun h1 => .ret (-1)) (fun h1 => .call _ (f41 k a0_1 t1) fun t2 => .ite (t2 < 0) (fun h2 => .ret (-1)) (fun h2 => .call _ (f42 k a0_2 t2) fun t3 => .ite (t3 < 0) (fun h3 => .ret (-1)) (fun h3 => .ret t3)))
def f12.o (a0_0 : List S106) (a0_1 : List S106) (a0_2 : List S108) (a1_0 : Int) : (Int) → V El × List (O El) := fun r => (.id .i64 0 r, [])
def sf12 (k : Nat) : List (V G.El) → List (O G.El) → Q G.El (V G.El × List (O G.El)) := fun as0' os0' => lH as0' fun v0 as1' => lH as1' fun v1 as2' => lT as2' <| lT os0' <| argA v0 fun b1' => argH b1' fun y2' r2' => argH r2' fun y3' r3' => argH r3' fun y4' r4' => argT r4' <| argL 0 y2' fun a0_0 => argL 0 y3' fun a0_1 => argL 1 y4' fun a0_2 => argI .i64 v1 fun a1_0 => .call _ (f12 k a0_0 a0_1 a0_2 a1_0) fun r => .ret (.id .i64 0 r, [])
def f87.start (k : Nat) (a0_0 : ByteArray) (a0_1 : ByteArray) : PT (ByteArray × ByteArray) Empty := .ret (a0_0, a0_1)
def f87.o (a0_0 : ByteArray) (a0_1 : ByteArray) : (ByteArray × ByteArray) → V El × List (O El) := fun r => (.agg [.s r.1, .s r.2], [])
def sf87 (k : Nat) : List (V G.El) → List (O G.El) → Q G.El (V G.El × List (O G.El)) := fun as0' os0' => lH as0' fun v0 as1' => lT as1' <| lT os0' <| argA v0 fun b1' => argH b1' fun y2' r2' => argH r2' fun y3' r3' => argT r3' <| argS y2' fun a0_0 => argS y3' fun a0_1 => .call _ (f87 k a0_0 a0_1) fun r => .ret (.agg [.s r.1, .s r.2], [])
inductive f47.L where
  | l3 (q0 : List S80) (x0 : List S106) (x4 : Int)
def f47.st : f47.L → Nat × S El
  | .l3 q0 x0 x4 => (3, ⟨23, .dead, [(0, .sl 0 x0 []), (3, .win 0 true (.l 0) (.d 0 q0.length)), (4, .id .i64 5 x4)], [(0, .row true true true 0 2 q0 none)], 1, 0⟩)
def f47.hint : f47.L → H
  | .l3 .. => .all
def f47.blk (k : Nat) : f47.L → PT ((List S80)) f47.L
  | .l3 q0 x0 x4 => .ite (x4 < ((x0.length : Nat) : Int)) (fun h5 => .need (0 ≤ x4) fun h6 => .th h5 <| .call _ (f87 k ((at' x0 x4).f0) ((at' x0 x4).f1)) fun t1 => .th h6 <| .need (x4 < ((q0.length : Nat) : Int)) fun h7 => .triv (x4.toNat < q0.length) tv <| .tr q0.length <| .jump (.l3 (q0.set x4.toNat (⟨t1.1, t1.2⟩ : S80)) x0 (IntKind.i64.wrap (x4 + 1)))) (fun h5 => .tr q0.length <| .ret q0)
def f47.D (k : Nat) : f47.L → Option ((List S80))
  | .l3 q0 x0 x4 => f47.l3 k q0 x0 x4
def f47.start (k : Nat) (a0_0 : List S106) : PT ((List S80)) f47.L := .need (0 ≤ ((a0_0.length : Nat) : Int)) fun h1 => .need (((a0_0.length : Nat) : Int) ≤ ((a0_0.length : Nat) : Int)) fun h2 => .need (((a0_0.length : Nat) : Int) * 32 ≤ 70368744177664) fun h3 => .need (((a0_0.length : Nat) : Int) ≤ 70368744177664) fun h4 => .triv (((a0_0.length : Nat) : Int).toNat = (List.replicate (((a0_0.length : Nat) : Int).toNat) (⟨(⟨#[]⟩ : ByteArray), (⟨#[]⟩ : ByteArray)⟩ : S80)).length) tv <| .jump (.l3 (List.replicate (((a0_0.length : Nat) : Int).toNat) (⟨(⟨#[]⟩ : ByteArray), (⟨#[]⟩ : ByteArray)⟩ : S80)) a0_0 0)
def f47.o (a0_0 : List S106) : ((List S80)) → V El × List (O El) := fun r => (.win 0 true (.l 0) (.d 0 r.length), [.row true true true 0 2 r none])
def sf47 (k : Nat) : List (V G.El) → List (O G.El) → Q G.El (V G.El × List (O G.El)) := fun as0' os0' => lH as0' fun v0 as1' => lT as1' <| lT os0' <| argL 0 v0 fun a0_0 => .call _ (f47 k a0_0) fun r => .ret (.win 0 true (.l 0) (.d 0 r.length), [.row true true true 0 2 r none])
def f88.start (k : Nat) (a0_0 : Int) (a0_1 : ByteArray) (a0_2 : ByteArray) (a0_3 : ByteArray) : PT (Int × ByteArray × ByteArray × ByteArray) Empty := .ret (a0_0, a0_1, a0_2, a0_3)
def f88.o (a0_0 : Int) (a0_1 : ByteArray) (a0_2 : ByteArray) (a0_3 : ByteArray) : (Int × ByteArray × ByteArray × ByteArray) → V El × List (O El) := fun r => (.agg [.id .i64 0 r.1, .s r.2.1, .s r.2.2.1, .s r.2.2.2], [])
def sf88 (k : Nat) : List (V G.El) → List (O G.El) → Q G.El (V G.El × List (O G.El)) := fun as0' os0' => lH as0' fun v0 as1' => lT as1' <| lT os0' <| argA v0 fun b1' => argH b1' fun y2' r2' => argH r2' fun y3' r3' => argH r3' fun y4' r4' => argH r4' fun y5' r5' => argT r5' <| argI .i64 y2' fun a0_0 => argS y3' fun a0_1 => argS y4' fun a0_2 => argS y5' fun a0_3 => .call _ (f88 k a0_0 a0_1 a0_2 a0_3) fun r => .ret (.agg [.id .i64 0 r.1, .s r.2.1, .s r.2.2.1, .s r.2.2.2], [])
inductive f48.L where
  | l3 (q0 : List S73) (x0 : List S108) (x4 : Int)
def f48.st : f48.L → Nat × S El
  | .l3 q0 x0 x4 => (3, ⟨23, .dead, [(0, .sl 1 x0 []), (3, .win 0 true (.l 0) (.d 0 q0.length)), (4, .id .i64 5 x4)], [(0, .row true true true 0 3 q0 none)], 1, 0⟩)
def f48.hint : f48.L → H
  | .l3 .. => .all
def f48.blk (k : Nat) : f48.L → PT ((List S73)) f48.L
  | .l3 q0 x0 x4 => .ite (x4 < ((x0.length : Nat) : Int)) (fun h5 => .need (0 ≤ x4) fun h6 => .th h5 <| .call _ (f88 k ((at' x0 x4).f0) ((at' x0 x4).f1) ((at' x0 x4).f2) ((at' x0 x4).f3)) fun t1 => .th h6 <| .need (x4 < ((q0.length : Nat) : Int)) fun h7 => .triv (x4.toNat < q0.length) tv <| .tr q0.length <| .jump (.l3 (q0.set x4.toNat (⟨t1.1, t1.2.1, t1.2.2.1, t1.2.2.2⟩ : S73)) x0 (IntKind.i64.wrap (x4 + 1)))) (fun h5 => .tr q0.length <| .ret q0)
def f48.D (k : Nat) : f48.L → Option ((List S73))
  | .l3 q0 x0 x4 => f48.l3 k q0 x0 x4
def f48.start (k : Nat) (a0_0 : List S108) : PT ((List S73)) f48.L := .need (0 ≤ ((a0_0.length : Nat) : Int)) fun h1 => .need (((a0_0.length : Nat) : Int) ≤ ((a0_0.length : Nat) : Int)) fun h2 => .need (((a0_0.length : Nat) : Int) * 56 ≤ 70368744177664) fun h3 => .need (((a0_0.length : Nat) : Int) ≤ 70368744177664) fun h4 => .triv (((a0_0.length : Nat) : Int).toNat = (List.replicate (((a0_0.length : Nat) : Int).toNat) (⟨0, (⟨#[]⟩ : ByteArray), (⟨#[]⟩ : ByteArray), (⟨#[]⟩ : ByteArray)⟩ : S73)).length) tv <| .jump (.l3 (List.replicate (((a0_0.length : Nat) : Int).toNat) (⟨0, (⟨#[]⟩ : ByteArray), (⟨#[]⟩ : ByteArray), (⟨#[]⟩ : ByteArray)⟩ : S73)) a0_0 0)
def f48.o (a0_0 : List S108) : ((List S73)) → V El × List (O El) := fun r => (.win 0 true (.l 0) (.d 0 r.length), [.row true true true 0 3 r none])
def sf48 (k : Nat) : List (V G.El) → List (O G.El) → Q G.El (V G.El × List (O G.El)) := fun as0' os0' => lH as0' fun v0 as1' => lT as1' <| lT os0' <| argL 1 v0 fun a0_0 => .call _ (f48 k a0_0) fun r => .ret (.win 0 true (.l 0) (.d 0 r.length), [.row true true true 0 3 r none])
def f14.start (k : Nat) (a0_0 : List S106) (a0_1 : List S106) (a0_2 : List S108) : PT ((List S80) × (List S80) × (List S73)) Empty := .call _ (f47 k a0_0) fun t1 => .call _ (f47 k a0_1) fun t2 => .call _ (f48 k a0_2) fun t3 => .tr t1.length <| .tr t2.length <| .tr t3.length <| .ret (t1, t2, t3)
def f14.o (a0_0 : List S106) (a0_1 : List S106) (a0_2 : List S108) : ((List S80) × (List S80) × (List S73)) → V El × List (O El) := fun r => (.agg [.win 0 true (.l 0) (.d 0 r.1.length), .win 1 true (.l 0) (.d 0 r.2.1.length), .win 2 true (.l 0) (.d 0 r.2.2.length)], [.row true true true 0 2 r.1 none, .row true true true 0 2 r.2.1 none, .row true true true 0 3 r.2.2 none])
def sf14 (k : Nat) : List (V G.El) → List (O G.El) → Q G.El (V G.El × List (O G.El)) := fun as0' os0' => lH as0' fun v0 as1' => lT as1' <| lT os0' <| argA v0 fun b1' => argH b1' fun y2' r2' => argH r2' fun y3' r3' => argH r3' fun y4' r4' => argT r4' <| argL 0 y2' fun a0_0 => argL 0 y3' fun a0_1 => argL 1 y4' fun a0_2 => .call _ (f14 k a0_0 a0_1 a0_2) fun r => .ret (.agg [.win 0 true (.l 0) (.d 0 r.1.length), .win 1 true (.l 0) (.d 0 r.2.1.length), .win 2 true (.l 0) (.d 0 r.2.2.length)], [.row true true true 0 2 r.1 none, .row true true true 0 2 r.2.1 none, .row true true true 0 3 r.2.2 none])
def f84.start (k : Nat) (a0_0 : ByteArray) : PT (Bool) Empty := .ite (1 ≤ ((a0_0.size : Nat) : Int)) (fun h1 => .th h1 <| .th h1 <| .th h1 <| .ret (decide (((a0_0.size : Nat) : Int) ≤ 100))) (fun h1 => .th h1 <| .th h1 <| .th h1 <| .ret false)
def f84.o (a0_0 : ByteArray) : (Bool) → V El × List (O El) := fun r => (.bb false r, [])
def sf84 (k : Nat) : List (V G.El) → List (O G.El) → Q G.El (V G.El × List (O G.El)) := fun as0' os0' => lH as0' fun v0 as1' => lT as1' <| lT os0' <| argS v0 fun a0_0 => .call _ (f84 k a0_0) fun r => .ret (.bb false r, [])
inductive f43.L where
  | l5 (x0 : List S80) (x3 : Int) (x4 : Int)
def f43.st : f43.L → Nat × S El
  | .l5 x0 x3 x4 => (5, ⟨49, .dead, [(0, .sl 2 x0 []), (3, .id .i64 4 x3), (4, .id .i64 5 x4)], [], 0, 0⟩)
def f43.hint : f43.L → H
  | .l5 .. => (.both (.skip (.both (.l (.l (.both (.l (.l (.l (.l (.l (.l (.l (.l (.l (.l (.l (.l (.l (.l .all)))))))))))))) (.r (.r (.r (.r (.r (.r (.r (.r (.r (.r (.r (.l (.r (.l .all))))))))))))))))) (.r (.r (.r (.r .all)))))) .all)
def f43.blk (k : Nat) : f43.L → PT (Bool) f43.L
  | .l5 x0 x3 x4 => .ite (x4 < ((x0.length : Nat) : Int)) (fun h2 => .need (0 ≤ x4) fun h3 => .th h2 <| .call _ (f84 k ((at' x0 x4).f0)) fun t1 => .ite (t1 = true) (fun h4 => .th h4 <| .th h4 <| .ite (0 < x4) (fun h5 => .th h5 <| .th h5 <| .th h3 <| .th h2 <| .th h5 <| .th h5 <| .th h5 <| .th h5 <| .th h5 <| .th h5 <| .need (0 ≤ (IntKind.i64.wrap (x4 - 1))) fun h6 => .need ((IntKind.i64.wrap (x4 - 1)) < ((x0.length : Nat) : Int)) fun h7 => .th h5 <| .th h5 <| .th h5 <| .th h4 <| .th h5 <| .th h4 <| .ite ((strLt ((at' x0 x4).f0) ((at' x0 (IntKind.i64.wrap (x4 - 1))).f0) || strEq ((at' x0 x4).f0) ((at' x0 (IntKind.i64.wrap (x4 - 1))).f0)) = true) (fun h8 => .ret false) (fun h8 => .th h3 <| .th h2 <| .jump (.l5 x0 (IntKind.i64.wrap (x3 + ((((at' x0 x4).f1).size : Nat) : Int))) (IntKind.i64.wrap (x4 + 1))))) (fun h5 => .th h5 <| .th h5 <| .th h5 <| .th h5 <| .th h5 <| .th h5 <| .th h5 <| .th h5 <| .th h5 <| .th h5 <| .th h5 <| .th h4 <| .th h5 <| .th h4 <| .th h3 <| .th h2 <| .jump (.l5 x0 (IntKind.i64.wrap (x3 + ((((at' x0 x4).f1).size : Nat) : Int))) (IntKind.i64.wrap (x4 + 1))))) (fun h4 => .th h4 <| .th h4 <| .th h4 <| .th h4 <| .ret false)) (fun h2 => .ret (decide (x3 ≤ 200000)))
def f43.D (k : Nat) : f43.L → Option (Bool)
  | .l5 x0 x3 x4 => f43.l5 k x0 x3 x4
def f43.start (k : Nat) (a0_0 : List S80) : PT (Bool) f43.L := .ite (60 < ((a0_0.length : Nat) : Int)) (fun h1 => .ret false) (fun h1 => .jump (.l5 a0_0 0 0))
def f43.o (a0_0 : List S80) : (Bool) → V El × List (O El) := fun r => (.bb false r, [])
def sf43 (k : Nat) : List (V G.El) → List (O G.El) → Q G.El (V G.El × List (O G.El)) := fun as0' os0' => lH as0' fun v0 as1' => lT as1' <| lT os0' <| argL 2 v0 fun a0_0 => .call _ (f43 k a0_0) fun r => .ret (.bb false r, [])
inductive f52.L where
  | l2 (x0 : List S80) (x1 : ByteArray) (x5 : Int)
def f52.st : f52.L → Nat × S El
  | .l2 x0 x1 x5 => (2, ⟨20, .dead, [(0, .sl 2 x0 []), (1, .s x1), (5, .id .i64 6 x5)], [], 0, 0⟩)
def f52.hint : f52.L → H
  | .l2 .. => .all
def f52.blk (k : Nat) : f52.L → PT (Int) f52.L
  | .l2 x0 x1 x5 => .ite (x5 < ((x0.length : Nat) : Int)) (fun h1 => .need (0 ≤ x5) fun h2 => .th h1 <| .ite ((strEq ((at' x0 x5).f0) x1) = true) (fun h3 => .ret x5) (fun h3 => .jump (.l2 x0 x1 (IntKind.i64.wrap (x5 + 1))))) (fun h1 => .ret (-1))
def f52.D (k : Nat) : f52.L → Option (Int)
  | .l2 x0 x1 x5 => f52.l2 k x0 x1 x5
def f52.start (k : Nat) (a0_0 : List S80) (a1_0 : ByteArray) : PT (Int) f52.L := .jump (.l2 a0_0 a1_0 0)
def f52.o (a0_0 : List S80) (a1_0 : ByteArray) : (Int) → V El × List (O El) := fun r => (.id .i64 0 r, [])
def sf52 (k : Nat) : List (V G.El) → List (O G.El) → Q G.El (V G.El × List (O G.El)) := fun as0' os0' => lH as0' fun v0 as1' => lH as1' fun v1 as2' => lT as2' <| lT os0' <| argL 2 v0 fun a0_0 => argS v1 fun a1_0 => .call _ (f52 k a0_0 a1_0) fun r => .ret (.id .i64 0 r, [])
inductive f85.L where
  | l4 (q0 : List S80) (x0 : List S80) (x1 : ByteArray) (x2 : ByteArray) (x8 : Bool) (x9 : Int)
def f85.st : f85.L → Nat × S El
  | .l4 q0 x0 x1 x2 x8 x9 => (4, ⟨57, .dead, [(0, .sl 2 x0 []), (1, .s x1), (2, .s x2), (7, .win 0 true (.l 0) (.d 0 q0.length)), (8, .bb false x8), (9, .id .i64 10 x9)], [(0, .row true true true 0 2 q0 none)], 1, 0⟩)
def f85.hint : f85.L → H
  | .l4 .. => (.both (.both (.l (.l (.l (.l (.l (.l (.l .all))))))) (.r (.r (.r (.r (.r (.r (.r .all)))))))) .all)
def f85.blk (k : Nat) : f85.L → PT ((List S80)) f85.L
  | .l4 q0 x0 x1 x2 x8 x9 => .ite (x9 < ((x0.length : Nat) : Int)) (fun h1 => .ite (x8 = true) (fun h2 => .th h2 <| .th h2 <| .th h2 <| .th h2 <| .th h2 <| .th h2 <| .th h2 <| .need (0 ≤ x9) fun h3 => .th h1 <| .ite ((strEq ((at' x0 x9).f0) x1) = true) (fun h4 => .tr q0.length <| .jump (.l4 q0 x0 x1 x2 x8 (IntKind.i64.wrap (x9 + 1)))) (fun h4 => .th h3 <| .th h1 <| .triv (1 = ([(⟨(at' x0 x9).f0, (at' x0 x9).f1⟩ : S80)] : List S80).length) tv <| .tr q0.length <| .need ((q0.length + 1) * 32 ≤ 70368744177664) fun h5 => .need ((q0.length + 1) ≤ 70368744177664) fun h6 => .triv ((q0.length + 1) = (q0 ++ ([(⟨(at' x0 x9).f0, (at' x0 x9).f1⟩ : S80)] : List S80)).length) tv <| .jump (.l4 (q0 ++ ([(⟨(at' x0 x9).f0, (at' x0 x9).f1⟩ : S80)] : List S80)) x0 x1 x2 x8 (IntKind.i64.wrap (x9 + 1))))) (fun h2 => .th h2 <| .th h2 <| .need (0 ≤ x9) fun h7 => .th h1 <| .th h2 <| .th h2 <| .th h2 <| .th h2 <| .th h2 <| .ite ((strLt ((at' x0 x9).f0) x1) = true) (fun h8 => .th h7 <| .th h1 <| .ite ((strEq ((at' x0 x9).f0) x1) = true) (fun h9 => .tr q0.length <| .jump (.l4 q0 x0 x1 x2 x8 (IntKind.i64.wrap (x9 + 1)))) (fun h9 => .th h7 <| .th h1 <| .triv (1 = ([(⟨(at' x0 x9).f0, (at' x0 x9).f1⟩ : S80)] : List S80).length) tv <| .tr q0.length <| .need ((q0.length + 1) * 32 ≤ 70368744177664) fun h10 => .need ((q0.length + 1) ≤ 70368744177664) fun h11 => .triv ((q0.length + 1) = (q0 ++ ([(⟨(at' x0 x9).f0, (at' x0 x9).f1⟩ : S80)] : List S80)).length) tv <| .jump (.l4 (q0 ++ ([(⟨(at' x0 x9).f0, (at' x0 x9).f1⟩ : S80)] : List S80)) x0 x1 x2 x8 (IntKind.i64.wrap (x9 + 1))))) (fun h8 => .triv (1 = ([(⟨x1, x2⟩ : S80)] : List S80).length) tv <| .tr q0.length <| .need ((q0.length + 1) * 32 ≤ 70368744177664) fun h12 => .need ((q0.length + 1) ≤ 70368744177664) fun h13 => .th h7 <| .th h1 <| .ite ((strEq ((at' x0 x9).f0) x1) = true) (fun h14 => .triv ((q0.length + 1) = (q0 ++ ([(⟨x1, x2⟩ : S80)] : List S80)).length) tv <| .jump (.l4 (q0 ++ ([(⟨x1, x2⟩ : S80)] : List S80)) x0 x1 x2 true (IntKind.i64.wrap (x9 + 1)))) (fun h14 => .th h7 <| .th h1 <| .triv (1 = ([(⟨(at' x0 x9).f0, (at' x0 x9).f1⟩ : S80)] : List S80).length) tv <| .triv ((q0.length + 1) = (q0 ++ ([(⟨x1, x2⟩ : S80)] : List S80)).length) tv <| .need (((q0.length + 1) + 1) * 32 ≤ 70368744177664) fun h15 => .need (((q0.length + 1) + 1) ≤ 70368744177664) fun h16 => .triv (((q0.length + 1) + 1) = ((q0 ++ ([(⟨x1, x2⟩ : S80)] : List S80)) ++ ([(⟨(at' x0 x9).f0, (at' x0 x9).f1⟩ : S80)] : List S80)).length) tv <| .jump (.l4 ((q0 ++ ([(⟨x1, x2⟩ : S80)] : List S80)) ++ ([(⟨(at' x0 x9).f0, (at' x0 x9).f1⟩ : S80)] : List S80)) x0 x1 x2 true (IntKind.i64.wrap (x9 + 1))))))) (fun h1 => .ite (x8 = true) (fun h17 => .tr q0.length <| .ret q0) (fun h17 => .triv (1 = ([(⟨x1, x2⟩ : S80)] : List S80).length) tv <| .tr q0.length <| .need ((q0.length + 1) * 32 ≤ 70368744177664) fun h18 => .need ((q0.length + 1) ≤ 70368744177664) fun h19 => .triv ((q0.length + 1) = (q0 ++ ([(⟨x1, x2⟩ : S80)] : List S80)).length) tv <| .ret (q0 ++ ([(⟨x1, x2⟩ : S80)] : List S80))))
def f85.D (k : Nat) : f85.L → Option ((List S80))
  | .l4 q0 x0 x1 x2 x8 x9 => f85.l4 k q0 x0 x1 x2 x8 x9
def f85.start (k : Nat) (a0_0 : List S80) (a1_0 : ByteArray) (a2_0 : ByteArray) : PT ((List S80)) f85.L := .triv (0 = ([] : List S80).length) tv <| .jump (.l4 ([] : List S80) a0_0 a1_0 a2_0 false 0)
def f85.o (a0_0 : List S80) (a1_0 : ByteArray) (a2_0 : ByteArray) : ((List S80)) → V El × List (O El) := fun r => (.win 0 true (.l 0) (.d 0 r.length), [.row true true true 0 2 r none])
def sf85 (k : Nat) : List (V G.El) → List (O G.El) → Q G.El (V G.El × List (O G.El)) := fun as0' os0' => lH as0' fun v0 as1' => lH as1' fun v1 as2' => lH as2' fun v2 as3' => lT as3' <| lT os0' <| argL 2 v0 fun a0_0 => argS v1 fun a1_0 => argS v2 fun a2_0 => .call _ (f85 k a0_0 a1_0 a2_0) fun r => .ret (.win 0 true (.l 0) (.d 0 r.length), [.row true true true 0 2 r none])
inductive f86.L where
  | l3 (q0 : List S80) (x0 : List S80) (x1 : ByteArray) (x6 : Int)
def f86.st : f86.L → Nat × S El
  | .l3 q0 x0 x1 x6 => (3, ⟨29, .dead, [(0, .sl 2 x0 []), (1, .s x1), (5, .win 0 true (.l 0) (.d 0 q0.length)), (6, .id .i64 7 x6)], [(0, .row true true true 0 2 q0 none)], 1, 0⟩)
def f86.hint : f86.L → H
  | .l3 .. => .all
def f86.blk (k : Nat) : f86.L → PT ((List S80)) f86.L
  | .l3 q0 x0 x1 x6 => .ite (x6 < ((x0.length : Nat) : Int)) (fun h1 => .need (0 ≤ x6) fun h2 => .th h1 <| .ite ((strEq ((at' x0 x6).f0) x1) = true) (fun h3 => .tr q0.length <| .jump (.l3 q0 x0 x1 (IntKind.i64.wrap (x6 + 1)))) (fun h3 => .th h2 <| .th h1 <| .triv (1 = ([(⟨(at' x0 x6).f0, (at' x0 x6).f1⟩ : S80)] : List S80).length) tv <| .tr q0.length <| .need ((q0.length + 1) * 32 ≤ 70368744177664) fun h4 => .need ((q0.length + 1) ≤ 70368744177664) fun h5 => .triv ((q0.length + 1) = (q0 ++ ([(⟨(at' x0 x6).f0, (at' x0 x6).f1⟩ : S80)] : List S80)).length) tv <| .jump (.l3 (q0 ++ ([(⟨(at' x0 x6).f0, (at' x0 x6).f1⟩ : S80)] : List S80)) x0 x1 (IntKind.i64.wrap (x6 + 1))))) (fun h1 => .tr q0.length <| .ret q0)
def f86.D (k : Nat) : f86.L → Option ((List S80))
  | .l3 q0 x0 x1 x6 => f86.l3 k q0 x0 x1 x6
def f86.start (k : Nat) (a0_0 : List S80) (a1_0 : ByteArray) : PT ((List S80)) f86.L := .triv (0 = ([] : List S80).length) tv <| .jump (.l3 ([] : List S80) a0_0 a1_0 0)
def f86.o (a0_0 : List S80) (a1_0 : ByteArray) : ((List S80)) → V El × List (O El) := fun r => (.win 0 true (.l 0) (.d 0 r.length), [.row true true true 0 2 r none])
def sf86 (k : Nat) : List (V G.El) → List (O G.El) → Q G.El (V G.El × List (O G.El)) := fun as0' os0' => lH as0' fun v0 as1' => lH as1' fun v1 as2' => lT as2' <| lT os0' <| argL 2 v0 fun a0_0 => argS v1 fun a1_0 => .call _ (f86 k a0_0 a1_0) fun r => .ret (.win 0 true (.l 0) (.d 0 r.length), [.row true true true 0 2 r none])
def f44.start (k : Nat) (a0_0 : List S80) (a1_0 : Int) (a1_1 : ByteArray) (a1_2 : ByteArray) (a1_3 : ByteArray) : PT (Bool × (List S80)) Empty := .call _ (f52 k a0_0 a1_1) fun t1 => .ite (a1_0 = 1) (fun h1 => .ite (0 ≤ t1) (fun h2 => .th h2 <| .need (t1 < ((a0_0.length : Nat) : Int)) fun h3 => .need (((at' a0_0 t1).f1).size + a1_3.size ≤ 9223372036854775807) fun h4 => .call _ (f85 k a0_0 a1_1 ((at' a0_0 t1).f1 ++ a1_3)) fun t2 => .tr t2.length <| .ret (true, t2)) (fun h2 => .call _ (f85 k a0_0 a1_1 a1_3) fun t3 => .tr t3.length <| .ret (true, t3))) (fun h1 => .ite (t1 < 0) (fun h5 => .triv (0 = ([] : List S80).length) tv <| .need (a0_0.length * 32 ≤ 70368744177664) fun h6 => .need (a0_0.length ≤ 70368744177664) fun h7 => .tr a0_0.length <| .ret (false, a0_0)) (fun h5 => .call _ (f86 k a0_0 a1_1) fun t4 => .ite (a1_0 = 2) (fun h8 => .need (0 ≤ t1) fun h9 => .need (t1 < ((a0_0.length : Nat) : Int)) fun h10 => .tr t4.length <| .call _ (f85 k t4 a1_2 ((at' a0_0 t1).f1)) fun t5 => .tr t5.length <| .ret (true, t5)) (fun h8 => .tr t4.length <| .ret (true, t4))))
def f44.o (a0_0 : List S80) (a1_0 : Int) (a1_1 : ByteArray) (a1_2 : ByteArray) (a1_3 : ByteArray) : (Bool × (List S80)) → V El × List (O El) := fun r => (.tup [.win 0 true (.l 0) (.d 0 r.2.length), .bb false r.1], [.row true true true 0 2 r.2 none])
def sf44 (k : Nat) : List (V G.El) → List (O G.El) → Q G.El (V G.El × List (O G.El)) := fun as0' os0' => lH as0' fun v0 as1' => lH as1' fun v1 as2' => lT as2' <| lT os0' <| argL 2 v0 fun a0_0 => argA v1 fun b1' => argH b1' fun y2' r2' => argH r2' fun y3' r3' => argH r3' fun y4' r4' => argH r4' fun y5' r5' => argT r5' <| argI .i64 y2' fun a1_0 => argS y3' fun a1_1 => argS y4' fun a1_2 => argS y5' fun a1_3 => .call _ (f44 k a0_0 a1_0 a1_1 a1_2 a1_3) fun r => .ret (.tup [.win 0 true (.l 0) (.d 0 r.2.length), .bb false r.1], [.row true true true 0 2 r.2 none])
def f58.start (k : Nat) (a0_0 : Int) (a1_0 : Int) (a2_0 : Int) : PT (Bool) Empty := .ite (a1_0 ≤ a0_0) (fun h1 => .th h1 <| .th h1 <| .th h1 <| .ret (decide (a0_0 ≤ a2_0))) (fun h1 => .th h1 <| .th h1 <| .th h1 <| .ret false)
def f58.o (a0_0 : Int) (a1_0 : Int) (a2_0 : Int) : (Bool) → V El × List (O El) := fun r => (.bb false r, [])
def sf58 (k : Nat) : List (V G.El) → List (O G.El) → Q G.El (V G.El × List (O G.El)) := fun as0' os0' => lH as0' fun v0 as1' => lH as1' fun v1 as2' => lH as2' fun v2 as3' => lT as3' <| lT os0' <| argI .i64 v0 fun a0_0 => argI .i64 v1 fun a1_0 => argI .i64 v2 fun a2_0 => .call _ (f58 k a0_0 a1_0 a2_0) fun r => .ret (.bb false r, [])
def f45.start (k : Nat) (a0_0 : Int) (a0_1 : ByteArray) (a0_2 : ByteArray) (a0_3 : ByteArray) : PT (Bool) Empty := .call _ (f58 k a0_0 1 3) fun t1 => .ite (t1 = true) (fun h1 => .th h1 <| .th h1 <| .call _ (f84 k a0_1) fun t2 => .th h1 <| .th h1 <| .ite (t2 = true) (fun h2 => .ite (a0_0 = 2) (fun h3 => .call _ (f84 k a0_2) fun t3 => .ite (t3 = true) (fun h4 => .th h4 <| .th h4 <| .th h4 <| .ret (strEq a0_3 (⟨#[]⟩ : ByteArray))) (fun h4 => .th h4 <| .th h4 <| .th h4 <| .ret false)) (fun h3 => .ite ((strEq a0_2 (⟨#[]⟩ : ByteArray)) = true) (fun h5 => .th h5 <| .th h5 <| .th h5 <| .ite (a0_0 = 1) (fun h6 => .th h6 <| .th h6 <| .th h5 <| .th h6 <| .th h5 <| .ret true) (fun h6 => .th h6 <| .th h6 <| .th h5 <| .th h6 <| .th h5 <| .ret (strEq a0_3 (⟨#[]⟩ : ByteArray)))) (fun h5 => .th h5 <| .th h5 <| .th h5 <| .th h5 <| .th h5 <| .ret false))) (fun h2 => .ret false)) (fun h1 => .th h1 <| .th h1 <| .th h1 <| .th h1 <| .ret false)
def f45.o (a0_0 : Int) (a0_1 : ByteArray) (a0_2 : ByteArray) (a0_3 : ByteArray) : (Bool) → V El × List (O El) := fun r => (.bb false r, [])
def sf45 (k : Nat) : List (V G.El) → List (O G.El) → Q G.El (V G.El × List (O G.El)) := fun as0' os0' => lH as0' fun v0 as1' => lT as1' <| lT os0' <| argA v0 fun b1' => argH b1' fun y2' r2' => argH r2' fun y3' r3' => argH r3' fun y4' r4' => argH r4' fun y5' r5' => argT r5' <| argI .i64 y2' fun a0_0 => argS y3' fun a0_1 => argS y4' fun a0_2 => argS y5' fun a0_3 => .call _ (f45 k a0_0 a0_1 a0_2 a0_3) fun r => .ret (.bb false r, [])
inductive f46.L where
  | l4 (x0 : List S80) (x1 : List S80) (x5 : Int)
def f46.st : f46.L → Nat × S El
  | .l4 x0 x1 x5 => (4, ⟨26, .dead, [(0, .sl 2 x0 []), (1, .sl 2 x1 []), (5, .id .i64 6 x5)], [], 0, 0⟩)
def f46.hint : f46.L → H
  | .l4 .. => .all
def f46.blk (k : Nat) : f46.L → PT (Bool) f46.L
  | .l4 x0 x1 x5 => .ite (x5 < ((x0.length : Nat) : Int)) (fun h2 => .need (0 ≤ x5) fun h3 => .th h2 <| .th h3 <| .need (x5 < ((x1.length : Nat) : Int)) fun h4 => .ite ((strEq ((at' x0 x5).f0) ((at' x1 x5).f0) && strEq ((at' x0 x5).f1) ((at' x1 x5).f1)) = true) (fun h5 => .jump (.l4 x0 x1 (IntKind.i64.wrap (x5 + 1)))) (fun h5 => .ret false)) (fun h2 => .ret true)
def f46.D (k : Nat) : f46.L → Option (Bool)
  | .l4 x0 x1 x5 => f46.l4 k x0 x1 x5
def f46.start (k : Nat) (a0_0 : List S80) (a1_0 : List S80) : PT (Bool) f46.L := .ite (((a0_0.length : Nat) : Int) = ((a1_0.length : Nat) : Int)) (fun h1 => .jump (.l4 a0_0 a1_0 0)) (fun h1 => .ret false)
def f46.o (a0_0 : List S80) (a1_0 : List S80) : (Bool) → V El × List (O El) := fun r => (.bb false r, [])
def sf46 (k : Nat) : List (V G.El) → List (O G.El) → Q G.El (V G.El × List (O G.El)) := fun as0' os0' => lH as0' fun v0 as1' => lH as1' fun v1 as2' => lT as2' <| lT os0' <| argL 2 v0 fun a0_0 => argL 2 v1 fun a1_0 => .call _ (f46 k a0_0 a1_0) fun r => .ret (.bb false r, [])
inductive f13.L where
  | l5 (x3 : List S80) (x4 : Int) (b0_0 : List S80) (b0_1 : List S80) (b0_2 : List S73)
def f13.st : f13.L → Nat × S El
  | .l5 x3 x4 b0_0 b0_1 b0_2 => (5, ⟨63, .dead, [(1, .ptr 0 (.l 0) 0), (3, .sl 2 x3 []), (4, .id .i64 5 x4)], [(0, .box true true 0 3 true [.sl 2 b0_0 [], .sl 2 b0_1 [], .sl 3 b0_2 []])], 1, 0⟩)
def f13.hint : f13.L → H
  | .l5 .. => (.both (.skip (.both (.l (.l (.l (.l (.l (.skip (.l (.l (.both (.l (.skip (.l (.l .all)))) (.r (.r (.r .all)))))))))))) (.r (.r (.r (.r (.r (.r (.r .all))))))))) .all)
def f13.blk (k : Nat) : f13.L → PT (Bool) f13.L
  | .l5 x3 x4 b0_0 b0_1 b0_2 => .ite (x4 < ((b0_2.length : Nat) : Int)) (fun h4 => .need (0 ≤ x4) fun h5 => .th h4 <| .call _ (f44 k x3 ((at' b0_2 x4).f0) ((at' b0_2 x4).f1) ((at' b0_2 x4).f2) ((at' b0_2 x4).f3)) fun t3 => .ite (t3.1 = true) (fun h6 => .th h6 <| .th h6 <| .th h6 <| .th h5 <| .th h4 <| .th h6 <| .th h6 <| .call _ (f45 k ((at' b0_2 x4).f0) ((at' b0_2 x4).f1) ((at' b0_2 x4).f2) ((at' b0_2 x4).f3)) fun t4 => .th h6 <| .th h6 <| .ite (t4 = true) (fun h7 => .th h7 <| .tr t3.2.length <| .call _ (f43 k t3.2) fun t5 => .th h7 <| .th h7 <| .ite (t5 = true) (fun h8 => .tr t3.2.length <| .jump (.l5 t3.2 (IntKind.i64.wrap (x4 + 1)) b0_0 b0_1 b0_2)) (fun h8 => .ret false)) (fun h7 => .th h7 <| .th h7 <| .th h7 <| .ret false)) (fun h6 => .th h6 <| .th h6 <| .th h6 <| .th h6 <| .th h6 <| .th h6 <| .th h6 <| .ret false)) (fun h4 => .call _ (f46 k x3 b0_0) fun t6 => .ret t6)
def f13.D (k : Nat) : f13.L → Option (Bool)
  | .l5 x3 x4 b0_0 b0_1 b0_2 => f13.l5 k x3 x4 b0_0 b0_1 b0_2
def f13.start (k : Nat) (a0_0 : List S80) (a0_1 : List S80) (a0_2 : List S73) : PT (Bool) f13.L := .call _ (f43 k a0_0) fun t1 => .ite (t1 = true) (fun h1 => .th h1 <| .th h1 <| .call _ (f43 k a0_1) fun t2 => .th h1 <| .th h1 <| .ite (t2 = true) (fun h2 => .th h2 <| .th h2 <| .th h2 <| .th h2 <| .ite (200 < ((a0_2.length : Nat) : Int)) (fun h3 => .ret false) (fun h3 => .jump (.l5 a0_1 0 a0_0 a0_1 a0_2))) (fun h2 => .th h2 <| .th h2 <| .th h2 <| .th h2 <| .ret false)) (fun h1 => .th h1 <| .th h1 <| .th h1 <| .th h1 <| .ret false)
def f13.o (a0_0 : List S80) (a0_1 : List S80) (a0_2 : List S73) : (Bool) → V El × List (O El) := fun r => (.bb false r, [])
def sf13 (k : Nat) : List (V G.El) → List (O G.El) → Q G.El (V G.El × List (O G.El)) := fun as0' os0' => lH as0' fun v0 as1' => lT as1' <| lT os0' <| argA v0 fun b1' => argH b1' fun y2' r2' => argH r2' fun y3' r3' => argH r3' fun y4' r4' => argT r4' <| argL 2 y2' fun a0_0 => argL 2 y3' fun a0_1 => argL 3 y4' fun a0_2 => .call _ (f13 k a0_0 a0_1 a0_2) fun r => .ret (.bb false r, [])
def f136.start (k : Nat) (a0_0 : ByteArray) : PT (Int) Empty := .need (0 < ((a0_0.size : Nat) : Int)) fun h1 => .need (1 < ((a0_0.size : Nat) : Int)) fun h2 => .need (2 < ((a0_0.size : Nat) : Int)) fun h3 => .need (3 < ((a0_0.size : Nat) : Int)) fun h4 => .ret (orI .u32 (orI .u32 (orI .u32 (IntKind.u32.wrap (byteAt a0_0 0)) (shlI .u32 (IntKind.u32.wrap (byteAt a0_0 1)) 8)) (shlI .u32 (IntKind.u32.wrap (byteAt a0_0 2)) 16)) (shlI .u32 (IntKind.u32.wrap (byteAt a0_0 3)) 24))
def f136.o (a0_0 : ByteArray) : (Int) → V El × List (O El) := fun r => (.id .u32 0 r, [])
def sf136 (k : Nat) : List (V G.El) → List (O G.El) → Q G.El (V G.El × List (O G.El)) := fun as0' os0' => lH as0' fun v0 as1' => lT as1' <| lT os0' <| argS v0 fun a0_0 => .call _ (f136 k a0_0) fun r => .ret (.id .u32 0 r, [])
inductive f131.L where
  | l3 (x0 : ByteArray) (x3 : Int) (x4 : Int)
  | l7 (x0 : ByteArray) (x3 : Int) (x4 : Int) (x5 : Int)
def f131.st : f131.L → Nat × S El
  | .l3 x0 x3 x4 => (3, ⟨33, .dead, [(0, .s x0), (3, .id .u32 4 x3), (4, .id .i64 5 x4)], [], 0, 0⟩)
  | .l7 x0 x3 x4 x5 => (7, ⟨33, .dead, [(0, .s x0), (3, .id .u32 4 x3), (4, .id .i64 5 x4), (5, .id .i64 6 x5)], [], 0, 0⟩)
def f131.hint : f131.L → H
  | .l3 .. => .all
  | .l7 .. => .all
def f131.blk (k : Nat) : f131.L → PT (Int) f131.L
  | .l3 x0 x3 x4 => .ite (x4 < ((x0.size : Nat) : Int)) (fun h1 => .need (0 ≤ x4) fun h2 => .th h1 <| .jump (.l7 x0 (xorI .u32 x3 (IntKind.u32.wrap (byteAt x0 x4))) x4 0)) (fun h1 => .ret (xorI .u32 (notI .u32) x3))
  | .l7 x0 x3 x4 x5 => .ite (x5 < 8) (fun h3 => .ite ((andI .u32 x3 1) = 1) (fun h4 => .jump (.l7 x0 (xorI .u32 (shrI .u32 x3 1) 3988292384) x4 (IntKind.i64.wrap (x5 + 1)))) (fun h4 => .jump (.l7 x0 (shrI .u32 x3 1) x4 (IntKind.i64.wrap (x5 + 1))))) (fun h3 => .jump (.l3 x0 x3 (IntKind.i64.wrap (x4 + 1))))
def f131.D (k : Nat) : f131.L → Option (Int)
  | .l3 x0 x3 x4 => f131.l3 k x0 x3 x4
  | .l7 x0 x3 x4 x5 => f131.l7 k x0 x3 x4 x5
def f131.start (k : Nat) (a0_0 : ByteArray) : PT (Int) f131.L := .jump (.l3 a0_0 4294967295 0)
def f131.o (a0_0 : ByteArray) : (Int) → V El × List (O El) := fun r => (.id .u32 0 r, [])
def sf131 (k : Nat) : List (V G.El) → List (O G.El) → Q G.El (V G.El × List (O G.El)) := fun as0' os0' => lH as0' fun v0 as1' => lT as1' <| lT os0' <| argS v0 fun a0_0 => .call _ (f131 k a0_0) fun r => .ret (.id .u32 0 r, [])
def f124.start (k : Nat) (a0_0 : ByteArray) : PT (Int × ByteArray × Int × Int) Empty := .need (0 < ((a0_0.size : Nat) : Int)) fun h1 => .call _ (f58 k (IntKind.i64.wrap (byteAt a0_0 0)) 1 100) fun t1 => .ite (t1 = true) (fun h2 => .ite (((a0_0.size : Nat) : Int) < 5) (fun h3 => .ret (0, (⟨#[]⟩ : ByteArray), 0, 1)) (fun h3 => .need' (5 ≤ ((a0_0.size : Nat) : Int)) (5 ≤ a0_0.size) tv fun h4 => .call _ (f136 k (a0_0.extract 1 5)) fun t2 => .ite (20000 < t2) (fun h5 => .ret (0, (⟨#[]⟩ : ByteArray), 0, 3)) (fun h5 => .ite (((a0_0.size : Nat) : Int) < (IntKind.i64.wrap (9 + (IntKind.i64.wrap t2)))) (fun h6 => .ret (0, (⟨#[]⟩ : ByteArray), 0, 1)) (fun h6 => .need (0 ≤ (IntKind.i64.wrap (9 + (IntKind.i64.wrap t2)))) fun h7 => .need ((IntKind.i64.wrap (9 + (IntKind.i64.wrap t2))) ≤ ((a0_0.size : Nat) : Int)) fun h8 => .need (0 ≤ (IntKind.i64.wrap ((IntKind.i64.wrap (9 + (IntKind.i64.wrap t2))) - 4))) fun h9 => .need' ((IntKind.i64.wrap ((IntKind.i64.wrap (9 + (IntKind.i64.wrap t2))) - 4)) ≤ max (IntKind.i64.wrap (9 + (IntKind.i64.wrap t2))) 0) ((IntKind.i64.wrap ((IntKind.i64.wrap (9 + (IntKind.i64.wrap t2))) - 4)) ≤ (((IntKind.i64.wrap (9 + (IntKind.i64.wrap t2))).toNat : Nat) : Int)) tv fun h10 => .call _ (f136 k (a0_0.extract ((IntKind.i64.wrap ((IntKind.i64.wrap (9 + (IntKind.i64.wrap t2))) - 4)).toNat) ((IntKind.i64.wrap (9 + (IntKind.i64.wrap t2))).toNat))) fun t3 => .th h9 <| .need ((IntKind.i64.wrap ((IntKind.i64.wrap (9 + (IntKind.i64.wrap t2))) - 4)) ≤ ((a0_0.size : Nat) : Int)) fun h11 => .call _ (f131 k (a0_0.extract 0 ((IntKind.i64.wrap ((IntKind.i64.wrap (9 + (IntKind.i64.wrap t2))) - 4)).toNat))) fun t4 => .ite (t3 = t4) (fun h12 => .th h1 <| .th h9 <| .th h11 <| .need' (5 ≤ max (IntKind.i64.wrap ((IntKind.i64.wrap (9 + (IntKind.i64.wrap t2))) - 4)) 0) (5 ≤ (IntKind.i64.wrap ((IntKind.i64.wrap (9 + (IntKind.i64.wrap t2))) - 4)).toNat) tv fun h13 => .ret ((IntKind.i64.wrap (byteAt a0_0 0)), (a0_0.extract 5 ((IntKind.i64.wrap ((IntKind.i64.wrap (9 + (IntKind.i64.wrap t2))) - 4)).toNat)), (IntKind.i64.wrap (9 + (IntKind.i64.wrap t2))), 0)) (fun h12 => .ret (0, (⟨#[]⟩ : ByteArray), 0, 4)))))) (fun h2 => .ret (0, (⟨#[]⟩ : ByteArray), 0, 2))
def f124.o (a0_0 : ByteArray) : (Int × ByteArray × Int × Int) → V El × List (O El) := fun r => (.tup [.agg [.id .i64 0 r.1, .s r.2.1], .id .i64 0 r.2.2.1, .id .i64 0 r.2.2.2], [])
def sf124 (k : Nat) : List (V G.El) → List (O G.El) → Q G.El (V G.El × List (O G.El)) := fun as0' os0' => lH as0' fun v0 as1' => lT as1' <| lT os0' <| argS v0 fun a0_0 => .call _ (f124 k a0_0) fun r => .ret (.tup [.agg [.id .i64 0 r.1, .s r.2.1], .id .i64 0 r.2.2.1, .id .i64 0 r.2.2.2], [])
inductive f106.L where
  | l3 (q0 : List S104) (x0 : ByteArray) (x6 : Int)
def f106.st : f106.L → Nat × S El
  | .l3 q0 x0 x6 => (3, ⟨42, .dead, [(0, .s x0), (5, .win 0 true (.l 0) (.d 0 q0.length)), (6, .id .i64 7 x6)], [(0, .row true true true 0 5 q0 none)], 1, 0⟩)
def f106.hint : f106.L → H
  | .l3 .. => .all
def f106.blk (k : Nat) : f106.L → PT (Int × Int × (List S104)) f106.L
  | .l3 q0 x0 x6 => .ite (x6 < ((x0.size : Nat) : Int)) (fun h1 => .ite (((q0.length : Nat) : Int) = 2000) (fun h2 => .tr q0.length <| .ret (x6, 5, q0)) (fun h2 => .need (0 ≤ x6) fun h3 => .need (x6 ≤ ((x0.size : Nat) : Int)) fun h4 => .call _ (f124 k (x0.extract x6.toNat x0.size)) fun t1 => .ite (t1.2.2.2 = 0) (fun h5 => .triv (1 = ([(⟨t1.1, t1.2.1⟩ : S104)] : List S104).length) tv <| .tr q0.length <| .need ((q0.length + 1) * 24 ≤ 70368744177664) fun h6 => .need ((q0.length + 1) ≤ 70368744177664) fun h7 => .triv ((q0.length + 1) = (q0 ++ ([(⟨t1.1, t1.2.1⟩ : S104)] : List S104)).length) tv <| .jump (.l3 (q0 ++ ([(⟨t1.1, t1.2.1⟩ : S104)] : List S104)) x0 (IntKind.i64.wrap (x6 + t1.2.2.1)))) (fun h5 => .tr q0.length <| .ret (x6, t1.2.2.2, q0)))) (fun h1 => .tr q0.length <| .ret (x6, 0, q0))
def f106.D (k : Nat) : f106.L → Option (Int × Int × (List S104))
  | .l3 q0 x0 x6 => f106.l3 k q0 x0 x6
def f106.start (k : Nat) (a0_0 : ByteArray) : PT (Int × Int × (List S104)) f106.L := .triv (0 = ([] : List S104).length) tv <| .jump (.l3 ([] : List S104) a0_0 0)
def f106.o (a0_0 : ByteArray) : (Int × Int × (List S104)) → V El × List (O El) := fun r => (.tup [.win 0 true (.l 0) (.d 0 r.2.2.length), .id .i64 0 r.1, .id .i64 0 r.2.1], [.row true true true 0 5 r.2.2 none])
def sf106 (k : Nat) : List (V G.El) → List (O G.El) → Q G.El (V G.El × List (O G.El)) := fun as0' os0' => lH as0' fun v0 as1' => lT as1' <| lT os0' <| argS v0 fun a0_0 => .call _ (f106 k a0_0) fun r => .ret (.tup [.win 0 true (.l 0) (.d 0 r.2.2.length), .id .i64 0 r.1, .id .i64 0 r.2.1], [.row true true true 0 5 r.2.2 none])
inductive f107.L where
  | l4 (x0 : ByteArray) (x5 : Int) (x6 : Int) (x7 : Int)
def f107.st : f107.L → Nat × S El
  | .l4 x0 x5 x6 x7 => (4, ⟨48, .dead, [(0, .s x0), (5, .id .i64 6 x5), (6, .id .i64 7 x6), (7, .id .i64 8 x7)], [], 0, 0⟩)
def f107.hint : f107.L → H
  | .l4 .. => (.both (.l (.l (.both (.both (.both (.l (.l (.both (.l (.l .all)) (.r (.r .all))))) (.r (.r .all))) .all) .all))) (.r (.r .all)))
def f107.blk (k : Nat) : f107.L → PT (Int × ByteArray × Bool) f107.L
  | .l4 x0 x5 x6 x7 => .ite (x7 < ((x0.size : Nat) : Int)) (fun h1 => .th h1 <| .th h1 <| .ite (x7 < 6) (fun h2 => .need (0 ≤ x7) fun h3 => .th h1 <| .ite ((IntKind.i64.wrap (byteAt x0 x7)) < 128) (fun h4 => .ite ((IntKind.i64.wrap (byteAt x0 x7)) = 0) (fun h5 => .th h5 <| .th h5 <| .ite (0 < x7) (fun h6 => .th h6 <| .th h6 <| .ret (0, (⟨#[]⟩ : ByteArray), false)) (fun h6 => .th h6 <| .th h6 <| .ite (1000000000000 < (IntKind.i64.wrap (x5 + (IntKind.i64.wrap (((IntKind.i64.wrap (byteAt x0 x7)).tmod 128) * x6))))) (fun h7 => .ret (0, (⟨#[]⟩ : ByteArray), false)) (fun h7 => .need (0 ≤ (IntKind.i64.wrap (x7 + 1))) fun h8 => .need ((IntKind.i64.wrap (x7 + 1)) ≤ ((x0.size : Nat) : Int)) fun h9 => .ret ((IntKind.i64.wrap (x5 + (IntKind.i64.wrap (((IntKind.i64.wrap (byteAt x0 x7)).tmod 128) * x6)))), (x0.extract ((IntKind.i64.wrap (x7 + 1)).toNat) x0.size), true)))) (fun h5 => .th h5 <| .th h5 <| .ite (1000000000000 < (IntKind.i64.wrap (x5 + (IntKind.i64.wrap (((IntKind.i64.wrap (byteAt x0 x7)).tmod 128) * x6))))) (fun h10 => .ret (0, (⟨#[]⟩ : ByteArray), false)) (fun h10 => .need (0 ≤ (IntKind.i64.wrap (x7 + 1))) fun h11 => .need ((IntKind.i64.wrap (x7 + 1)) ≤ ((x0.size : Nat) : Int)) fun h12 => .ret ((IntKind.i64.wrap (x5 + (IntKind.i64.wrap (((IntKind.i64.wrap (byteAt x0 x7)).tmod 128) * x6)))), (x0.extract ((IntKind.i64.wrap (x7 + 1)).toNat) x0.size), true)))) (fun h4 => .jump (.l4 x0 (IntKind.i64.wrap (x5 + (IntKind.i64.wrap (((IntKind.i64.wrap (byteAt x0 x7)).tmod 128) * x6)))) (IntKind.i64.wrap (x6 * 128)) (IntKind.i64.wrap (x7 + 1))))) (fun h2 => .ret (0, (⟨#[]⟩ : ByteArray), false))) (fun h1 => .th h1 <| .th h1 <| .ret (0, (⟨#[]⟩ : ByteArray), false))
def f107.D (k : Nat) : f107.L → Option (Int × ByteArray × Bool)
  | .l4 x0 x5 x6 x7 => f107.l4 k x0 x5 x6 x7
def f107.start (k : Nat) (a0_0 : ByteArray) : PT (Int × ByteArray × Bool) f107.L := .jump (.l4 a0_0 0 1 0)
def f107.o (a0_0 : ByteArray) : (Int × ByteArray × Bool) → V El × List (O El) := fun r => (.tup [.id .i64 0 r.1, .s r.2.1, .bb false r.2.2], [])
def sf107 (k : Nat) : List (V G.El) → List (O G.El) → Q G.El (V G.El × List (O G.El)) := fun as0' os0' => lH as0' fun v0 as1' => lT as1' <| lT os0' <| argS v0 fun a0_0 => .call _ (f107 k a0_0) fun r => .ret (.tup [.id .i64 0 r.1, .s r.2.1, .bb false r.2.2], [])
def f137.start (k : Nat) (a0_0 : ByteArray) : PT (ByteArray × ByteArray × Bool) Empty := .call _ (f107 k a0_0) fun t1 => .ite (t1.2.2 = true) (fun h1 => .th h1 <| .th h1 <| .ite (20000 < t1.1) (fun h2 => .th h2 <| .th h2 <| .th h2 <| .th h2 <| .ret ((⟨#[]⟩ : ByteArray), (⟨#[]⟩ : ByteArray), false)) (fun h2 => .th h2 <| .th h2 <| .th h2 <| .th h2 <| .ite (((t1.2.1.size : Nat) : Int) < t1.1) (fun h3 => .ret ((⟨#[]⟩ : ByteArray), (⟨#[]⟩ : ByteArray), false)) (fun h3 => .need (0 ≤ t1.1) fun h4 => .need (t1.1 ≤ ((t1.2.1.size : Nat) : Int)) fun h5 => .th h4 <| .th h5 <| .ret ((t1.2.1.extract 0 t1.1.toNat), (t1.2.1.extract t1.1.toNat t1.2.1.size), true)))) (fun h1 => .th h1 <| .th h1 <| .ret ((⟨#[]⟩ : ByteArray), (⟨#[]⟩ : ByteArray), false))
def f137.o (a0_0 : ByteArray) : (ByteArray × ByteArray × Bool) → V El × List (O El) := fun r => (.tup [.s r.1, .s r.2.1, .bb false r.2.2], [])
def sf137 (k : Nat) : List (V G.El) → List (O G.El) → Q G.El (V G.El × List (O G.El)) := fun as0' os0' => lH as0' fun v0 as1' => lT as1' <| lT os0' <| argS v0 fun a0_0 => .call _ (f137 k a0_0) fun r => .ret (.tup [.s r.1, .s r.2.1, .bb false r.2.2], [])
def f138.start (k : Nat) (a0_0 : Int) (a0_1 : Int) (a0_2 : ByteArray) : PT (Bool) Empty := .call _ (f58 k a0_0 1 1000000000000) fun t1 => .ite (t1 = true) (fun h1 => .th h1 <| .th h1 <| .call _ (f58 k a0_1 0 9) fun t2 => .th h1 <| .ite (t2 = true) (fun h2 => .th h2 <| .th h2 <| .th h2 <| .th h2 <| .ret (decide (((a0_2.size : Nat) : Int) ≤ 4000))) (fun h2 => .th h2 <| .th h2 <| .th h2 <| .th h2 <| .ret false)) (fun h1 => .th h1 <| .th h1 <| .th h1 <| .ret false)
def f138.o (a0_0 : Int) (a0_1 : Int) (a0_2 : ByteArray) : (Bool) → V El × List (O El) := fun r => (.bb false r, [])
def sf138 (k : Nat) : List (V G.El) → List (O G.El) → Q G.El (V G.El × List (O G.El)) := fun as0' os0' => lH as0' fun v0 as1' => lT as1' <| lT os0' <| argA v0 fun b1' => argH b1' fun y2' r2' => argH r2' fun y3' r3' => argH r3' fun y4' r4' => argT r4' <| argI .i64 y2' fun a0_0 => argI .i64 y3' fun a0_1 => argS y4' fun a0_2 => .call _ (f138 k a0_0 a0_1 a0_2) fun r => .ret (.bb false r, [])
def f125.start (k : Nat) (a0_0 : Int) (a0_1 : ByteArray) : PT (Int × Int × ByteArray × Bool) Empty := .call _ (f107 k a0_1) fun t1 => .call _ (f107 k t1.2.1) fun t2 => .call _ (f137 k t2.2.1) fun t3 => .ite (a0_0 = 2) (fun h1 => .th h1 <| .ite (t1.2.2 = true) (fun h2 => .th h2 <| .ite (t2.2.2 = true) (fun h3 => .th h3 <| .ite (t3.2.2 = true) (fun h4 => .th h4 <| .th h4 <| .ite ((strEq t3.2.1 (⟨#[]⟩ : ByteArray)) = true) (fun h5 => .th h5 <| .call _ (f138 k t1.1 t2.1 t3.1) fun t4 => .th h5 <| .ret (t1.1, t2.1, t3.1, t4)) (fun h5 => .th h5 <| .th h5 <| .ret (t1.1, t2.1, t3.1, false))) (fun h4 => .th h4 <| .th h4 <| .ret (t1.1, t2.1, t3.1, false))) (fun h3 => .th h3 <| .ret (t1.1, t2.1, t3.1, false))) (fun h2 => .th h2 <| .ret (t1.1, t2.1, t3.1, false))) (fun h1 => .th h1 <| .ret (t1.1, t2.1, t3.1, false))
def f125.o (a0_0 : Int) (a0_1 : ByteArray) : (Int × Int × ByteArray × Bool) → V El × List (O El) := fun r => (.tup [.agg [.id .i64 0 r.1, .id .i64 0 r.2.1, .s r.2.2.1], .bb false r.2.2.2], [])
def sf125 (k : Nat) : List (V G.El) → List (O G.El) → Q G.El (V G.El × List (O G.El)) := fun as0' os0' => lH as0' fun v0 as1' => lT as1' <| lT os0' <| argA v0 fun b1' => argH b1' fun y2' r2' => argH r2' fun y3' r3' => argT r3' <| argI .i64 y2' fun a0_0 => argS y3' fun a0_1 => .call _ (f125 k a0_0 a0_1) fun r => .ret (.tup [.agg [.id .i64 0 r.1, .id .i64 0 r.2.1, .s r.2.2.1], .bb false r.2.2.2], [])
inductive f114.L where
  | l4 (q0 : List Int) (x0 : Int)
def f114.st : f114.L → Nat × S El
  | .l4 q0 x0 => (4, ⟨25, .dead, [(0, .id .i64 1 x0), (3, .win 0 true (.l 0) (.d 0 q0.length))], [(0, .row true true true 0 6 q0 none)], 1, 0⟩)
def f114.hint : f114.L → H
  | .l4 .. => .all
def f114.blk (k : Nat) : f114.L → PT (ByteArray) f114.L
  | .l4 q0 x0 => .ite (128 ≤ x0) (fun h2 => .triv (1 = ([(IntKind.u8.wrap (IntKind.i64.wrap ((x0.tmod 128) + 128)))] : List Int).length) tv <| .tr q0.length <| .need ((q0.length + 1) * 1 ≤ 70368744177664) fun h3 => .need ((q0.length + 1) ≤ 70368744177664) fun h4 => .triv ((q0.length + 1) = (q0 ++ ([(IntKind.u8.wrap (IntKind.i64.wrap ((x0.tmod 128) + 128)))] : List Int)).length) tv <| .jump (.l4 (q0 ++ ([(IntKind.u8.wrap (IntKind.i64.wrap ((x0.tmod 128) + 128)))] : List Int)) (IntKind.i64.wrap (x0.tdiv 128)))) (fun h2 => .triv (1 = ([(IntKind.u8.wrap x0)] : List Int).length) tv <| .tr q0.length <| .need ((q0.length + 1) * 1 ≤ 70368744177664) fun h5 => .need ((q0.length + 1) ≤ 70368744177664) fun h6 => .triv ((q0.length + 1) = (q0 ++ ([(IntKind.u8.wrap x0)] : List Int)).length) tv <| .ret (strOf (q0 ++ ([(IntKind.u8.wrap x0)] : List Int))))
def f114.D (k : Nat) : f114.L → Option (ByteArray)
  | .l4 q0 x0 => f114.l4 k q0 x0
def f114.start (k : Nat) (a0_0 : Int) : PT (ByteArray) f114.L := .call _ (f58 k a0_0 0 1000000000000) fun t1 => .ite (t1 = true) (fun h1 => .triv (0 = ([] : List Int).length) tv <| .jump (.l4 ([] : List Int) a0_0)) (fun h1 => .ret (⟨#[]⟩ : ByteArray))
def f114.o (a0_0 : Int) : (ByteArray) → V El × List (O El) := fun r => (.s r, [])
def sf114 (k : Nat) : List (V G.El) → List (O G.El) → Q G.El (V G.El × List (O G.El)) := fun as0' os0' => lH as0' fun v0 as1' => lT as1' <| lT os0' <| argI .i64 v0 fun a0_0 => .call _ (f114 k a0_0) fun r => .ret (.s r, [])
def f139.start (k : Nat) (a0_0 : ByteArray) : PT (ByteArray) Empty := .ite (20000 < ((a0_0.size : Nat) : Int)) (fun h1 => .ret (⟨#[]⟩ : ByteArray)) (fun h1 => .call _ (f114 k ((a0_0.size : Nat) : Int)) fun t1 => .need (t1.size + a0_0.size ≤ 9223372036854775807) fun h2 => .ret (t1 ++ a0_0))
def f139.o (a0_0 : ByteArray) : (ByteArray) → V El × List (O El) := fun r => (.s r, [])
def sf139 (k : Nat) : List (V G.El) → List (O G.El) → Q G.El (V G.El × List (O G.El)) := fun as0' os0' => lH as0' fun v0 as1' => lT as1' <| lT os0' <| argS v0 fun a0_0 => .call _ (f139 k a0_0) fun r => .ret (.s r, [])
def f130.start (k : Nat) (a0_0 : Int) : PT (ByteArray) Empty := .triv (4 = ([(IntKind.u8.wrap a0_0), (IntKind.u8.wrap (shrI .u32 a0_0 8)), (IntKind.u8.wrap (shrI .u32 a0_0 16)), (IntKind.u8.wrap (shrI .u32 a0_0 24))] : List Int).length) tv <| .ret (strOf ([(IntKind.u8.wrap a0_0), (IntKind.u8.wrap (shrI .u32 a0_0 8)), (IntKind.u8.wrap (shrI .u32 a0_0 16)), (IntKind.u8.wrap (shrI .u32 a0_0 24))] : List Int))
def f130.o (a0_0 : Int) : (ByteArray) → V El × List (O El) := fun r => (.s r, [])
def sf130 (k : Nat) : List (V G.El) → List (O G.El) → Q G.El (V G.El × List (O G.El)) := fun as0' os0' => lH as0' fun v0 as1' => lT as1' <| lT os0' <| argI .u32 v0 fun a0_0 => .call _ (f130 k a0_0) fun r => .ret (.s r, [])
def f113.start (k : Nat) (a0_0 : Int) (a0_1 : ByteArray) : PT (ByteArray) Empty := .call _ (f58 k a0_0 1 100) fun t1 => .ite (t1 = true) (fun h1 => .th h1 <| .th h1 <| .th h1 <| .th h1 <| .ite (20000 < ((a0_1.size : Nat) : Int)) (fun h2 => .ret (⟨#[]⟩ : ByteArray)) (fun h2 => .triv (1 = ([(IntKind.u8.wrap a0_0)] : List Int).length) tv <| .call _ (f130 k (IntKind.u32.wrap ((a0_1.size : Nat) : Int))) fun t2 => .need' (1 + t2.size ≤ 9223372036854775807) ((strOf ([(IntKind.u8.wrap a0_0)] : List Int)).size + t2.size ≤ 9223372036854775807) tv fun h3 => .need' (1 + t2.size + a0_1.size ≤ 9223372036854775807) (((strOf ([(IntKind.u8.wrap a0_0)] : List Int)) ++ t2).size + a0_1.size ≤ 9223372036854775807) tv fun h4 => .call _ (f131 k (((strOf ([(IntKind.u8.wrap a0_0)] : List Int)) ++ t2) ++ a0_1)) fun t3 => .call _ (f130 k t3) fun t4 => .need' (1 + t2.size + a0_1.size + t4.size ≤ 9223372036854775807) ((((strOf ([(IntKind.u8.wrap a0_0)] : List Int)) ++ t2) ++ a0_1).size + t4.size ≤ 9223372036854775807) tv fun h5 => .ret ((((strOf ([(IntKind.u8.wrap a0_0)] : List Int)) ++ t2) ++ a0_1) ++ t4))) (fun h1 => .th h1 <| .th h1 <| .th h1 <| .th h1 <| .ret (⟨#[]⟩ : ByteArray))
def f113.o (a0_0 : Int) (a0_1 : ByteArray) : (ByteArray) → V El × List (O El) := fun r => (.s r, [])
def sf113 (k : Nat) : List (V G.El) → List (O G.El) → Q G.El (V G.El × List (O G.El)) := fun as0' os0' => lH as0' fun v0 as1' => lT as1' <| lT os0' <| argA v0 fun b1' => argH b1' fun y2' r2' => argH r2' fun y3' r3' => argT r3' <| argI .i64 y2' fun a0_0 => argS y3' fun a0_1 => .call _ (f113 k a0_0 a0_1) fun r => .ret (.s r, [])
def f126.start (k : Nat) (a0_0 : Int) (a0_1 : Int) (a0_2 : ByteArray) : PT (ByteArray) Empty := .call _ (f138 k a0_0 a0_1 a0_2) fun t1 => .ite (t1 = true) (fun h1 => .call _ (f114 k a0_0) fun t2 => .call _ (f114 k a0_1) fun t3 => .need (t2.size + t3.size ≤ 9223372036854775807) fun h2 => .call _ (f139 k a0_2) fun t4 => .need' (t2.size + t3.size + t4.size ≤ 9223372036854775807) ((t2 ++ t3).size + t4.size ≤ 9223372036854775807) tv fun h3 => .call _ (f113 k 2 ((t2 ++ t3) ++ t4)) fun t5 => .ret t5) (fun h1 => .ret (⟨#[]⟩ : ByteArray))
def f126.o (a0_0 : Int) (a0_1 : Int) (a0_2 : ByteArray) : (ByteArray) → V El × List (O El) := fun r => (.s r, [])
def sf126 (k : Nat) : List (V G.El) → List (O G.El) → Q G.El (V G.El × List (O G.El)) := fun as0' os0' => lH as0' fun v0 as1' => lT as1' <| lT os0' <| argA v0 fun b1' => argH b1' fun y2' r2' => argH r2' fun y3' r3' => argH r3' fun y4' r4' => argT r4' <| argI .i64 y2' fun a0_0 => argI .i64 y3' fun a0_1 => argS y4' fun a0_2 => .call _ (f126 k a0_0 a0_1 a0_2) fun r => .ret (.s r, [])
inductive f108.L where
  | l5 (q0 : List S136) (q1 : List S104) (x1 : Int) (x7 : Int) (x11 : Int)
def f108.st : f108.L → Nat × S El
  | .l5 q0 q1 x1 x7 x11 => (5, ⟨75, .dead, [(1, .id .i64 2 x1), (6, .win 0 true (.l 0) (.d 0 q0.length)), (7, .id .i64 8 x7), (8, .win 1 true (.l 0) (.d 0 q1.length)), (11, .id .i64 12 x11)], [(0, .row true true true 0 4 q0 none), (1, .row true true true 0 5 q1 none)], 2, 0⟩)
def f108.hint : f108.L → H
  | .l5 .. => (.both (.l (.l (.both (.skip (.both (.l (.l (.l (.l (.both (.l (.l (.l (.l .all)))) (.r (.r (.both (.l (.l (.l (.l (.l (.l (.l (.l (.r (.l (.r .all))))))))))) (.r (.r (.r (.r (.r (.r (.r (.r (.r (.r (.r .all))))))))))))))))))) (.r (.r (.r (.r .all)))))) .all))) (.r (.r .all)))
def f108.blk (k : Nat) : f108.L → PT (Int × (List S136)) f108.L
  | .l5 q0 q1 x1 x7 x11 => .ite (x11 < ((q1.length : Nat) : Int)) (fun h1 => .th h1 <| .th h1 <| .ite (x11 < 500) (fun h2 => .need (0 ≤ x11) fun h3 => .th h1 <| .triv (x11.toNat < q1.length) tv <| .call _ (f125 k ((at' q1 x11).f0) ((at' q1 x11).f1)) fun t2 => .ite (t2.2.2.2 = true) (fun h4 => .th h4 <| .th h4 <| .th h4 <| .th h4 <| .ite (x1 < t2.1) (fun h5 => .th h5 <| .th h5 <| .th h5 <| .th h5 <| .tr q0.length <| .ret (x7, q0)) (fun h5 => .th h5 <| .th h5 <| .ite (0 < x11) (fun h6 => .th h6 <| .th h6 <| .th h6 <| .th h6 <| .th h6 <| .need (0 ≤ (IntKind.i64.wrap (x11 - 1))) fun h7 => .need ((IntKind.i64.wrap (x11 - 1)) < ((q0.length : Nat) : Int)) fun h8 => .th h6 <| .th h6 <| .triv ((IntKind.i64.wrap (x11 - 1)).toNat < q0.length) tv <| .th h6 <| .th h5 <| .th h6 <| .th h5 <| .ite (t2.1 < (at' q0 (IntKind.i64.wrap (x11 - 1))).f0) (fun h9 => .tr q0.length <| .ret (x7, q0)) (fun h9 => .triv (1 = ([(⟨t2.1, t2.2.1, t2.2.2.1⟩ : S136)] : List S136).length) tv <| .tr q0.length <| .need ((q0.length + 1) * 32 ≤ 70368744177664) fun h10 => .need ((q0.length + 1) ≤ 70368744177664) fun h11 => .call _ (f126 k t2.1 t2.2.1 t2.2.2.1) fun t3 => .triv ((q0.length + 1) = (q0 ++ ([(⟨t2.1, t2.2.1, t2.2.2.1⟩ : S136)] : List S136)).length) tv <| .tr q1.length <| .jump (.l5 (q0 ++ ([(⟨t2.1, t2.2.1, t2.2.2.1⟩ : S136)] : List S136)) q1 x1 (IntKind.i64.wrap (x7 + ((t3.size : Nat) : Int))) (IntKind.i64.wrap (x11 + 1))))) (fun h6 => .th h6 <| .th h6 <| .th h6 <| .th h6 <| .th h6 <| .th h6 <| .th h6 <| .th h6 <| .th h5 <| .th h6 <| .th h5 <| .triv (1 = ([(⟨t2.1, t2.2.1, t2.2.2.1⟩ : S136)] : List S136).length) tv <| .tr q0.length <| .need ((q0.length + 1) * 32 ≤ 70368744177664) fun h12 => .need ((q0.length + 1) ≤ 70368744177664) fun h13 => .call _ (f126 k t2.1 t2.2.1 t2.2.2.1) fun t4 => .triv ((q0.length + 1) = (q0 ++ ([(⟨t2.1, t2.2.1, t2.2.2.1⟩ : S136)] : List S136)).length) tv <| .tr q1.length <| .jump (.l5 (q0 ++ ([(⟨t2.1, t2.2.1, t2.2.2.1⟩ : S136)] : List S136)) q1 x1 (IntKind.i64.wrap (x7 + ((t4.size : Nat) : Int))) (IntKind.i64.wrap (x11 + 1)))))) (fun h4 => .th h4 <| .th h4 <| .th h4 <| .th h4 <| .tr q0.length <| .ret (x7, q0))) (fun h2 => .tr q0.length <| .ret (x7, q0))) (fun h1 => .th h1 <| .th h1 <| .tr q0.length <| .ret (x7, q0))
def f108.D (k : Nat) : f108.L → Option (Int × (List S136))
  | .l5 q0 q1 x1 x7 x11 => f108.l5 k q0 q1 x1 x7 x11
def f108.start (k : Nat) (a0_0 : ByteArray) (a1_0 : Int) : PT (Int × (List S136)) f108.L := .call _ (f106 k a0_0) fun t1 => .triv (0 = ([] : List S136).length) tv <| .tr t1.2.2.length <| .jump (.l5 ([] : List S136) t1.2.2 a1_0 0 0)
def f108.o (a0_0 : ByteArray) (a1_0 : Int) : (Int × (List S136)) → V El × List (O El) := fun r => (.tup [.win 0 true (.l 0) (.d 0 r.2.length), .id .i64 0 r.1], [.row true true true 0 4 r.2 none])
def sf108 (k : Nat) : List (V G.El) → List (O G.El) → Q G.El (V G.El × List (O G.El)) := fun as0' os0' => lH as0' fun v0 as1' => lH as1' fun v1 as2' => lT as2' <| lT os0' <| argS v0 fun a0_0 => argI .i64 v1 fun a1_0 => .call _ (f108 k a0_0 a1_0) fun r => .ret (.tup [.win 0 true (.l 0) (.d 0 r.2.length), .id .i64 0 r.1], [.row true true true 0 4 r.2 none])
def f72.start (k : Nat) (a0_0 : List S80) (a0_1 : List S80) (a0_2 : List S73) : PT (Int × Int × Int × Bool × (List S136)) Empty := .call _ (f52 k a0_0 (⟨#[118, 111, 116, 101]⟩ : ByteArray)) fun t1 => .ite (0 ≤ t1) (fun h1 => .th h1 <| .need (t1 < ((a0_0.length : Nat) : Int)) fun h2 => .call _ (f106 k ((at' a0_0 t1).f1)) fun t2 => .ite (t2.2.1 = 0) (fun h3 => .th h3 <| .th h3 <| .th h3 <| .ite (((t2.2.2.length : Nat) : Int) = 1) (fun h4 => .need (0 < t2.2.2.length) fun h5 => .th h5 <| .call _ (f107 k ((at' t2.2.2 0).f1)) fun t3 => .call _ (f107 k t3.2.1) fun t4 => .th h5 <| .th h5 <| .ite ((at' t2.2.2 0).f0 = 1) (fun h6 => .th h6 <| .th h6 <| .ite (t3.2.2 = true) (fun h7 => .th h7 <| .th h7 <| .ite (t4.2.2 = true) (fun h8 => .th h8 <| .th h8 <| .ite ((strEq t4.2.1 (⟨#[]⟩ : ByteArray)) = true) (fun h9 => .call _ (f52 k a0_0 (⟨#[108, 111, 103]⟩ : ByteArray)) fun t5 => .ite (0 ≤ t5) (fun h10 => .th h10 <| .need (t5 < ((a0_0.length : Nat) : Int)) fun h11 => .call _ (f108 k ((at' a0_0 t5).f1) t3.1) fun t6 => .tr t6.2.length <| .ret (t3.1, t4.1, t6.1, true, t6.2)) (fun h10 => .triv (0 = ([] : List S136).length) tv <| .ret (t3.1, t4.1, 0, true, ([] : List S136)))) (fun h9 => .triv (0 = ([] : List S136).length) tv <| .ret (0, 0, 0, false, ([] : List S136)))) (fun h8 => .th h8 <| .th h8 <| .triv (0 = ([] : List S136).length) tv <| .ret (0, 0, 0, false, ([] : List S136)))) (fun h7 => .th h7 <| .th h7 <| .triv (0 = ([] : List S136).length) tv <| .ret (0, 0, 0, false, ([] : List S136)))) (fun h6 => .th h6 <| .th h6 <| .triv (0 = ([] : List S136).length) tv <| .ret (0, 0, 0, false, ([] : List S136)))) (fun h4 => .triv (0 = ([] : List S136).length) tv <| .ret (0, 0, 0, false, ([] : List S136)))) (fun h3 => .th h3 <| .th h3 <| .th h3 <| .triv (0 = ([] : List S136).length) tv <| .ret (0, 0, 0, false, ([] : List S136)))) (fun h1 => .call _ (f52 k a0_0 (⟨#[108, 111, 103]⟩ : ByteArray)) fun t7 => .ite (0 ≤ t7) (fun h12 => .th h12 <| .need (t7 < ((a0_0.length : Nat) : Int)) fun h13 => .call _ (f108 k ((at' a0_0 t7).f1) 0) fun t8 => .tr t8.2.length <| .ret (0, 0, t8.1, true, t8.2)) (fun h12 => .triv (0 = ([] : List S136).length) tv <| .ret (0, 0, 0, true, ([] : List S136))))
def f72.o (a0_0 : List S80) (a0_1 : List S80) (a0_2 : List S73) : (Int × Int × Int × Bool × (List S136)) → V El × List (O El) := fun r => (.tup [.agg [.id .i64 0 r.1, .id .i64 0 r.2.1, .win 0 true (.l 0) (.d 0 r.2.2.2.2.length)], .id .i64 0 r.2.2.1, .bb false r.2.2.2.1], [.row true true true 0 4 r.2.2.2.2 none])
def sf72 (k : Nat) : List (V G.El) → List (O G.El) → Q G.El (V G.El × List (O G.El)) := fun as0' os0' => lH as0' fun v0 as1' => lT as1' <| lT os0' <| argA v0 fun b1' => argH b1' fun y2' r2' => argH r2' fun y3' r3' => argH r3' fun y4' r4' => argT r4' <| argL 2 y2' fun a0_0 => argL 2 y3' fun a0_1 => argL 3 y4' fun a0_2 => .call _ (f72 k a0_0 a0_1 a0_2) fun r => .ret (.tup [.agg [.id .i64 0 r.1, .id .i64 0 r.2.1, .win 0 true (.l 0) (.d 0 r.2.2.2.2.length)], .id .i64 0 r.2.2.1, .bb false r.2.2.2.1], [.row true true true 0 4 r.2.2.2.2 none])
def f101.start (k : Nat) (a0_0 : ByteArray) : PT (Bool) Empty := .ite (1 ≤ ((a0_0.size : Nat) : Int)) (fun h1 => .th h1 <| .th h1 <| .th h1 <| .ret (decide (((a0_0.size : Nat) : Int) ≤ 100))) (fun h1 => .th h1 <| .th h1 <| .th h1 <| .ret false)
def f101.o (a0_0 : ByteArray) : (Bool) → V El × List (O El) := fun r => (.bb false r, [])
def sf101 (k : Nat) : List (V G.El) → List (O G.El) → Q G.El (V G.El × List (O G.El)) := fun as0' os0' => lH as0' fun v0 as1' => lT as1' <| lT os0' <| argS v0 fun a0_0 => .call _ (f101 k a0_0) fun r => .ret (.bb false r, [])
inductive f62.L where
  | l3 (x0 : List S80) (x3 : Int) (x6 : List S80) (x7 : Int) (x8 : Int)
def f62.st : f62.L → Nat × S El
  | .l3 x0 x3 x6 x7 x8 => (3, ⟨45, .dead, [(0, .sl 2 x0 []), (3, .id .i64 4 x3), (6, .sl 2 x6 []), (7, .id .i64 8 x7), (8, .id .i64 9 x8)], [], 0, 0⟩)
def f62.hint : f62.L → H
  | .l3 .. => (.both (.skip (.both (.l (.l (.both (.l (.l (.l (.l .all)))) (.r (.r (.both (.l (.l (.l (.l (.l (.l (.l (.l (.r (.l (.r .all))))))))))) (.r (.r (.r (.r (.r (.r (.r (.r (.r (.r (.r .all))))))))))))))))) (.r (.r .all)))) .all)
def f62.blk (k : Nat) : f62.L → PT (Bool) f62.L
  | .l3 x0 x3 x6 x7 x8 => .ite (x8 < x7) (fun h1 => .need (0 ≤ x8) fun h2 => .need (x8 < ((x6.length : Nat) : Int)) fun h3 => .call _ (f101 k ((at' x6 x8).f0)) fun t1 => .ite (t1 = true) (fun h4 => .th h4 <| .th h4 <| .ite (200000 < (IntKind.i64.wrap (x3 + ((((at' x6 x8).f1).size : Nat) : Int)))) (fun h5 => .th h5 <| .th h5 <| .th h5 <| .th h5 <| .ret false) (fun h5 => .th h5 <| .th h5 <| .ite (0 < x8) (fun h6 => .th h6 <| .th h6 <| .th h6 <| .need (0 ≤ (IntKind.i64.wrap (x8 - 1))) fun h7 => .need ((IntKind.i64.wrap (x8 - 1)) < ((x0.length : Nat) : Int)) fun h8 => .th h6 <| .th h6 <| .th h6 <| .th h6 <| .th h6 <| .th h5 <| .th h6 <| .th h5 <| .ite ((strLt ((at' x0 (IntKind.i64.wrap (x8 - 1))).f0) ((at' x6 x8).f0)) = true) (fun h9 => .jump (.l3 x0 (IntKind.i64.wrap (x3 + ((((at' x6 x8).f1).size : Nat) : Int))) x6 x7 (IntKind.i64.wrap (x8 + 1)))) (fun h9 => .ret false)) (fun h6 => .th h6 <| .th h6 <| .th h6 <| .th h6 <| .th h6 <| .th h6 <| .th h6 <| .th h6 <| .th h5 <| .th h6 <| .th h5 <| .jump (.l3 x0 (IntKind.i64.wrap (x3 + ((((at' x6 x8).f1).size : Nat) : Int))) x6 x7 (IntKind.i64.wrap (x8 + 1)))))) (fun h4 => .th h4 <| .th h4 <| .ret false)) (fun h1 => .ret (decide (((x0.length : Nat) : Int) ≤ 60)))
def f62.D (k : Nat) : f62.L → Option (Bool)
  | .l3 x0 x3 x6 x7 x8 => f62.l3 k x0 x3 x6 x7 x8
def f62.start (k : Nat) (a0_0 : List S80) : PT (Bool) f62.L := .jump (.l3 a0_0 0 a0_0 ((a0_0.length : Nat) : Int) 0)
def f62.o (a0_0 : List S80) : (Bool) → V El × List (O El) := fun r => (.bb false r, [])
def sf62 (k : Nat) : List (V G.El) → List (O G.El) → Q G.El (V G.El × List (O G.El)) := fun as0' os0' => lH as0' fun v0 as1' => lT as1' <| lT os0' <| argL 2 v0 fun a0_0 => .call _ (f62 k a0_0) fun r => .ret (.bb false r, [])
def f89.start (k : Nat) (a0_0 : Int) (a0_1 : ByteArray) (a0_2 : ByteArray) (a0_3 : ByteArray) : PT (Bool) Empty := .ite (a0_0 = 1) (fun h1 => .call _ (f101 k a0_1) fun t1 => .ite (t1 = true) (fun h2 => .th h2 <| .th h2 <| .th h2 <| .ret (strEq a0_2 (⟨#[]⟩ : ByteArray))) (fun h2 => .th h2 <| .th h2 <| .th h2 <| .ret false)) (fun h1 => .ite (a0_0 = 2) (fun h3 => .call _ (f101 k a0_1) fun t2 => .ite (t2 = true) (fun h4 => .th h4 <| .th h4 <| .call _ (f101 k a0_2) fun t3 => .th h4 <| .ite (t3 = true) (fun h5 => .th h5 <| .th h5 <| .th h5 <| .ret (strEq a0_3 (⟨#[]⟩ : ByteArray))) (fun h5 => .th h5 <| .th h5 <| .th h5 <| .ret false)) (fun h4 => .th h4 <| .th h4 <| .th h4 <| .ret false)) (fun h3 => .ite (a0_0 = 3) (fun h6 => .call _ (f101 k a0_1) fun t4 => .ite (t4 = true) (fun h7 => .th h7 <| .th h7 <| .th h7 <| .ite ((strEq a0_2 (⟨#[]⟩ : ByteArray)) = true) (fun h8 => .th h8 <| .th h8 <| .th h8 <| .ret (strEq a0_3 (⟨#[]⟩ : ByteArray))) (fun h8 => .th h8 <| .th h8 <| .th h8 <| .ret false)) (fun h7 => .th h7 <| .th h7 <| .th h7 <| .ret false)) (fun h6 => .ret false)))
def f89.o (a0_0 : Int) (a0_1 : ByteArray) (a0_2 : ByteArray) (a0_3 : ByteArray) : (Bool) → V El × List (O El) := fun r => (.bb false r, [])
def sf89 (k : Nat) : List (V G.El) → List (O G.El) → Q G.El (V G.El × List (O G.El)) := fun as0' os0' => lH as0' fun v0 as1' => lT as1' <| lT os0' <| argA v0 fun b1' => argH b1' fun y2' r2' => argH r2' fun y3' r3' => argH r3' fun y4' r4' => argH r4' fun y5' r5' => argT r5' <| argI .i64 y2' fun a0_0 => argS y3' fun a0_1 => argS y4' fun a0_2 => argS y5' fun a0_3 => .call _ (f89 k a0_0 a0_1 a0_2 a0_3) fun r => .ret (.bb false r, [])
def f94.start (k : Nat) (a0_0 : ByteArray) (a0_1 : ByteArray) (o0_0 : ByteArray) : PT (Bool) Empty := .ret (strEq a0_0 o0_0)
def f94.o (a0_0 : ByteArray) (a0_1 : ByteArray) (o0_0 : ByteArray) : (Bool) → V El × List (O El) := fun r => (.bb false r, [.box true true 0 1 false [.s o0_0]])
def sf94 (k : Nat) : List (V G.El) → List (O G.El) → Q G.El (V G.El × List (O G.El)) := fun as0' os0' => lH as0' fun v0 as1' => lH as1' fun v1 as2' => lT as2' <| lH os0' fun x0 os1' => lT os1' <| argX 1 false x0 fun b1' => argH b1' fun y2' r2' => argT r2' <| argS y2' fun o0_0 => argA v0 fun b3' => argH b3' fun y4' r4' => argH r4' fun y5' r5' => argT r5' <| argS y4' fun a0_0 => argS y5' fun a0_1 => argV 0 0 v1 <| .call _ (f94 k a0_0 a0_1 o0_0) fun r => .ret (.bb false r, [.box true true 0 1 false [.s o0_0]])
inductive f93.L where
  | l2 (x0 : List S80) (x7 : Int) (x8 : Int) (b0_0 : ByteArray)
def f93.st : f93.L → Nat × S El
  | .l2 x0 x7 x8 b0_0 => (2, ⟨19, .dead, [(0, .sl 2 x0 []), (1, .fn 94 [.ptr 0 (.l 0) 0]), (7, .id .i64 8 x7), (8, .id .i64 9 x8)], [(0, .box true true 0 1 false [.s b0_0])], 1, 1⟩)
def f93.hint : f93.L → H
  | .l2 .. => .all
def f93.blk (k : Nat) : f93.L → PT (Int × ByteArray) f93.L
  | .l2 x0 x7 x8 b0_0 => .ite (x8 < x7) (fun h1 => .need (0 ≤ x8) fun h2 => .need (x8 < ((x0.length : Nat) : Int)) fun h3 => .call _ (f94 k ((at' x0 x8).f0) ((at' x0 x8).f1) b0_0) fun t1 => .ite (t1 = true) (fun h4 => .ret (x8, b0_0)) (fun h4 => .jump (.l2 x0 x7 (IntKind.i64.wrap (x8 + 1)) b0_0))) (fun h1 => .ret ((-1), b0_0))
def f93.D (k : Nat) : f93.L → Option (Int × ByteArray)
  | .l2 x0 x7 x8 b0_0 => f93.l2 k x0 x7 x8 b0_0
def f93.start (k : Nat) (a0_0 : List S80) (o0_0 : ByteArray) : PT (Int × ByteArray) f93.L := .jump (.l2 a0_0 ((a0_0.length : Nat) : Int) 0 o0_0)
def f93.o (a0_0 : List S80) (o0_0 : ByteArray) : (Int × ByteArray) → V El × List (O El) := fun r => (.id .i64 0 r.1, [.box true true 0 1 false [.s r.2]])
def sf93 (k : Nat) : List (V G.El) → List (O G.El) → Q G.El (V G.El × List (O G.El)) := fun as0' os0' => lH as0' fun v0 as1' => lH as1' fun v1 as2' => lT as2' <| lH os0' fun x0 os1' => lT os1' <| argX 1 false x0 fun b1' => argH b1' fun y2' r2' => argT r2' <| argS y2' fun o0_0 => argL 2 v0 fun a0_0 => argF 94 v1 fun c3' => argPH c3' fun y4' r4' => argT r4' <| argV 0 0 y4' <| .call _ (f93 k a0_0 o0_0) fun r => .ret (.id .i64 0 r.1, [.box true true 0 1 false [.s r.2]])
def f53.start (k : Nat) (a0_0 : List S80) (a1_0 : ByteArray) : PT (Int) Empty := .call _ (f93 k a0_0 a1_0) fun t1 => .ret t1.1
def f53.o (a0_0 : List S80) (a1_0 : ByteArray) : (Int) → V El × List (O El) := fun r => (.id .i64 0 r, [])
def sf53 (k : Nat) : List (V G.El) → List (O G.El) → Q G.El (V G.El × List (O G.El)) := fun as0' os0' => lH as0' fun v0 as1' => lH as1' fun v1 as2' => lT as2' <| lT os0' <| argL 2 v0 fun a0_0 => argS v1 fun a1_0 => .call _ (f53 k a0_0 a1_0) fun r => .ret (.id .i64 0 r, [])
def f59.start (k : Nat) (a0_0 : List S80) : PT ((List S80)) Empty := .triv (0 = ([] : List S80).length) tv <| .need (a0_0.length * 32 ≤ 70368744177664) fun h1 => .need (a0_0.length ≤ 70368744177664) fun h2 => .tr a0_0.length <| .ret a0_0
def f59.o (a0_0 : List S80) : ((List S80)) → V El × List (O El) := fun r => (.win 0 true (.l 0) (.d 0 r.length), [.row true true true 0 2 r none])
def sf59 (k : Nat) : List (V G.El) → List (O G.El) → Q G.El (V G.El × List (O G.El)) := fun as0' os0' => lH as0' fun v0 as1' => lT as1' <| lT os0' <| argL 2 v0 fun a0_0 => .call _ (f59 k a0_0) fun r => .ret (.win 0 true (.l 0) (.d 0 r.length), [.row true true true 0 2 r none])
def sf132 (k : Nat) : List (V G.El) → List (O G.El) → Q G.El (V G.El × List (O G.El)) := fun as0' os0' => lH as0' fun v0 as1' => lH as1' fun v1 as2' => lT as2' <| lT os0' <| argS v0 fun a0_0 => argS v1 fun a1_0 => .call _ (f132 k a0_0 a1_0) fun r => .ret (.id .i64 0 r, [])
def f120.start (k : Nat) (a0_0 : ByteArray) (a1_0 : ByteArray) : PT (Int) Empty := .call _ (f132 k a0_0 a1_0) fun t1 => .ret t1
def f120.o (a0_0 : ByteArray) (a1_0 : ByteArray) : (Int) → V El × List (O El) := fun r => (.id .i64 0 r, [])
def sf120 (k : Nat) : List (V G.El) → List (O G.El) → Q G.El (V G.El × List (O G.El)) := fun as0' os0' => lH as0' fun v0 as1' => lH as1' fun v1 as2' => lT as2' <| lT os0' <| argS v0 fun a0_0 => argS v1 fun a1_0 => .call _ (f120 k a0_0 a1_0) fun r => .ret (.id .i64 0 r, [])
def f119.start (k : Nat) (a0_0 : ByteArray) (a0_1 : ByteArray) (a1_0 : ByteArray) : PT (Int) Empty := .call _ (f120 k a0_0 a1_0) fun t1 => .ret t1
def f119.o (a0_0 : ByteArray) (a0_1 : ByteArray) (a1_0 : ByteArray) : (Int) → V El × List (O El) := fun r => (.id .i64 0 r, [])
def sf119 (k : Nat) : List (V G.El) → List (O G.El) → Q G.El (V G.El × List (O G.El)) := fun as0' os0' => lH as0' fun v0 as1' => lH as1' fun v1 as2' => lT as2' <| lT os0' <| argA v0 fun b1' => argH b1' fun y2' r2' => argH r2' fun y3' r3' => argT r3' <| argS y2' fun a0_0 => argS y3' fun a0_1 => argS v1 fun a1_0 => .call _ (f119 k a0_0 a0_1 a1_0) fun r => .ret (.id .i64 0 r, [])
inductive f118.L where
  | l3 (x0 : List S80) (x1 : ByteArray) (x8 : Int) (x9 : Int) (x10 : Int)
def f118.st : f118.L → Nat × S El
  | .l3 x0 x1 x8 x9 x10 => (3, ⟨49, .dead, [(0, .sl 2 x0 []), (1, .s x1), (2, .fn 119 []), (8, .id .i64 9 x8), (9, .id .i64 10 x9), (10, .id .i64 11 x10)], [], 0, 0⟩)
def f118.hint : f118.L → H
  | .l3 .. => (.both .all (.both (.l (.l (.l (.l (.l (.l (.skip (.l (.l .all))))))))) (.r (.r (.r (.r (.r (.r (.r (.r .all))))))))))
def f118.blk (k : Nat) : f118.L → PT (Int × Bool) f118.L
  | .l3 x0 x1 x8 x9 x10 => .ite (x9 < x10) (fun h1 => .need (0 ≤ (IntKind.i64.wrap (shrI .u64 (IntKind.u64.wrap (IntKind.i64.wrap (x9 + x10))) 1))) fun h2 => .need ((IntKind.i64.wrap (shrI .u64 (IntKind.u64.wrap (IntKind.i64.wrap (x9 + x10))) 1)) < ((x0.length : Nat) : Int)) fun h3 => .call _ (f119 k ((at' x0 (IntKind.i64.wrap (shrI .u64 (IntKind.u64.wrap (IntKind.i64.wrap (x9 + x10))) 1))).f0) ((at' x0 (IntKind.i64.wrap (shrI .u64 (IntKind.u64.wrap (IntKind.i64.wrap (x9 + x10))) 1))).f1) x1) fun t1 => .ite (t1 < 0) (fun h4 => .jump (.l3 x0 x1 x8 (IntKind.i64.wrap ((IntKind.i64.wrap (shrI .u64 (IntKind.u64.wrap (IntKind.i64.wrap (x9 + x10))) 1)) + 1)) x10)) (fun h4 => .jump (.l3 x0 x1 x8 x9 (IntKind.i64.wrap (shrI .u64 (IntKind.u64.wrap (IntKind.i64.wrap (x9 + x10))) 1))))) (fun h1 => .ite (x9 < x8) (fun h5 => .th h5 <| .th h5 <| .th h5 <| .need (0 ≤ x9) fun h6 => .need (x9 < ((x0.length : Nat) : Int)) fun h7 => .th h5 <| .th h5 <| .th h5 <| .call _ (f119 k ((at' x0 x9).f0) ((at' x0 x9).f1) x1) fun t2 => .th h5 <| .th h5 <| .ret (x9, (decide (t2 = 0)))) (fun h5 => .th h5 <| .th h5 <| .th h5 <| .th h5 <| .th h5 <| .th h5 <| .th h5 <| .th h5 <| .ret (x9, false)))
def f118.D (k : Nat) : f118.L → Option (Int × Bool)
  | .l3 x0 x1 x8 x9 x10 => f118.l3 k x0 x1 x8 x9 x10
def f118.start (k : Nat) (a0_0 : List S80) (a1_0 : ByteArray) : PT (Int × Bool) f118.L := .jump (.l3 a0_0 a1_0 ((a0_0.length : Nat) : Int) 0 ((a0_0.length : Nat) : Int))
def f118.o (a0_0 : List S80) (a1_0 : ByteArray) : (Int × Bool) → V El × List (O El) := fun r => (.tup [.id .i64 0 r.1, .bb false r.2], [])
def sf118 (k : Nat) : List (V G.El) → List (O G.El) → Q G.El (V G.El × List (O G.El)) := fun as0' os0' => lH as0' fun v0 as1' => lH as1' fun v1 as2' => lH as2' fun v2 as3' => lT as3' <| lT os0' <| argL 2 v0 fun a0_0 => argS v1 fun a1_0 => argF 119 v2 fun c1' => argT c1' <| .call _ (f118 k a0_0 a1_0) fun r => .ret (.tup [.id .i64 0 r.1, .bb false r.2], [])
def sf121 (k : Nat) : List (V G.El) → List (O G.El) → Q G.El (V G.El × List (O G.El)) := fun as0' os0' => lH as0' fun v0 as1' => lH as1' fun v1 as2' => lH as2' fun v2 as3' => lT as3' <| lH os0' fun x0 os1' => lH os1' fun x1 os2' => lT os2' <| argR 2 x0 fun o0 => argR 2 x1 fun o1 => argW 0 o0.length v0 <| argI .i64 v1 fun a1_0 => argW 1 o1.length v2 <| .call _ (f121 k a1_0 o0 o1) fun r => .ret (.win 2 true (.l 0) (.d 0 r.length), [.row false true true 0 2 o0 none, .row true true true 0 2 o1 none, .row true true true 0 2 r none])
def f99.start (k : Nat) (a0_0 : List S80) (a1_0 : ByteArray) (a1_1 : ByteArray) : PT ((List S80)) Empty := .call _ (f59 k a0_0) fun t1 => .tr t1.length <| .call _ (f118 k t1 a1_0) fun t2 => .ite (t2.2 = true) (fun h1 => .need (0 ≤ t2.1) fun h2 => .need (t2.1 < ((t1.length : Nat) : Int)) fun h3 => .triv (t2.1.toNat < t1.length) tv <| .tr t1.length <| .ret (t1.set t2.1.toNat (⟨a1_0, a1_1⟩ : S80))) (fun h1 => .tr t1.length <| .triv (1 = ([(⟨a1_0, a1_1⟩ : S80)] : List S80).length) tv <| .call _ (f121 k t2.1 t1 ([(⟨a1_0, a1_1⟩ : S80)] : List S80)) fun t3 => .tr t3.length <| .ret t3)
def f99.o (a0_0 : List S80) (a1_0 : ByteArray) (a1_1 : ByteArray) : ((List S80)) → V El × List (O El) := fun r => (.win 0 true (.l 0) (.d 0 r.length), [.row true true true 0 2 r none])
def sf99 (k : Nat) : List (V G.El) → List (O G.El) → Q G.El (V G.El × List (O G.El)) := fun as0' os0' => lH as0' fun v0 as1' => lH as1' fun v1 as2' => lT as2' <| lT os0' <| argL 2 v0 fun a0_0 => argA v1 fun b1' => argH b1' fun y2' r2' => argH r2' fun y3' r3' => argT r3' <| argS y2' fun a1_0 => argS y3' fun a1_1 => .call _ (f99 k a0_0 a1_0 a1_1) fun r => .ret (.win 0 true (.l 0) (.d 0 r.length), [.row true true true 0 2 r none])
def sf100 (k : Nat) : List (V G.El) → List (O G.El) → Q G.El (V G.El × List (O G.El)) := fun as0' os0' => lH as0' fun v0 as1' => lH as1' fun v1 as2' => lH as2' fun v2 as3' => lT as3' <| lH os0' fun x0 os1' => lT os1' <| argR 2 x0 fun o0 => argW 0 o0.length v0 <| argI .i64 v1 fun a1_0 => argI .i64 v2 fun a2_0 => .call _ (f100 k a1_0 a2_0 o0) fun r => .ret (.win 1 true (.l 0) (.d 0 r.length), [.row false true true 0 2 o0 none, .row true true true 0 2 r none])
def f61.start (k : Nat) (a0_0 : Int) (a0_1 : ByteArray) (a0_2 : ByteArray) (a0_3 : ByteArray) (a1_0 : List S80) : PT (((List S80)) ⊕ ((List S80))) Empty := .call _ (f53 k a1_0 a0_1) fun t1 => .ite (a0_0 = 1) (fun h1 => .ite (0 ≤ t1) (fun h2 => .th h2 <| .need (t1 < ((a1_0.length : Nat) : Int)) fun h3 => .need (((at' a1_0 t1).f1).size + a0_3.size ≤ 9223372036854775807) fun h4 => .call _ (f99 k a1_0 ((at' a1_0 t1).f0) ((at' a1_0 t1).f1 ++ a0_3)) fun t2 => .tr t2.length <| .ret (Sum.inl t2)) (fun h2 => .need' (a0_3.size ≤ 9223372036854775807) ((⟨#[]⟩ : ByteArray).size + a0_3.size ≤ 9223372036854775807) tv fun h5 => .call _ (f99 k a1_0 a0_1 ((⟨#[]⟩ : ByteArray) ++ a0_3)) fun t3 => .tr t3.length <| .ret (Sum.inl t3))) (fun h1 => .ite (t1 < 0) (fun h6 => .ret (Sum.inr a1_0)) (fun h6 => .call _ (f59 k a1_0) fun t4 => .tr t4.length <| .call _ (f100 k t1 (IntKind.i64.wrap (t1 + 1)) t4) fun t5 => .ite (a0_0 = 3) (fun h7 => .tr t5.length <| .ret (Sum.inl t5)) (fun h7 => .need (0 ≤ t1) fun h8 => .need (t1 < ((a1_0.length : Nat) : Int)) fun h9 => .tr t5.length <| .call _ (f99 k t5 a0_2 ((at' a1_0 t1).f1)) fun t6 => .tr t6.length <| .ret (Sum.inl t6))))
def f61.o (a0_0 : Int) (a0_1 : ByteArray) (a0_2 : ByteArray) (a0_3 : ByteArray) (a1_0 : List S80) : (((List S80)) ⊕ ((List S80))) → V El × List (O El) := fun r => match r with | Sum.inl r => (.tup [.win 0 true (.l 0) (.d 0 r.length), .bb false true], [.row true true true 0 2 r none]) | Sum.inr r => (.tup [.sl 2 r [], .bb false false], [])
def sf61 (k : Nat) : List (V G.El) → List (O G.El) → Q G.El (V G.El × List (O G.El)) := fun as0' os0' => lH as0' fun v0 as1' => lH as1' fun v1 as2' => lT as2' <| lT os0' <| argA v0 fun b1' => argH b1' fun y2' r2' => argH r2' fun y3' r3' => argH r3' fun y4' r4' => argH r4' fun y5' r5' => argT r5' <| argI .i64 y2' fun a0_0 => argS y3' fun a0_1 => argS y4' fun a0_2 => argS y5' fun a0_3 => argL 2 v1 fun a1_0 => .call _ (f61 k a0_0 a0_1 a0_2 a0_3 a1_0) fun r => .either _ _ r (fun r => .ret (.tup [.win 0 true (.l 0) (.d 0 r.length), .bl true], [.row true true true 0 2 r none])) (fun r => .ret (.tup [.sl 2 r [], .bl false], []))
inductive f90.L where
  | l4 (x0 : List S80) (x1 : List S80) (x12 : Int) (x13 : Int)
def f90.st : f90.L → Nat × S El
  | .l4 x0 x1 x12 x13 => (4, ⟨26, .dead, [(0, .sl 2 x0 []), (1, .sl 2 x1 []), (12, .id .i64 13 x12), (13, .id .i64 14 x13)], [], 0, 0⟩)
def f90.hint : f90.L → H
  | .l4 .. => .all
def f90.blk (k : Nat) : f90.L → PT (Bool) f90.L
  | .l4 x0 x1 x12 x13 => .ite (x13 < x12) (fun h2 => .need (0 ≤ x13) fun h3 => .need (x13 < ((x0.length : Nat) : Int)) fun h4 => .th h3 <| .need (x13 < ((x1.length : Nat) : Int)) fun h5 => .ite ((strEq ((at' x0 x13).f0) ((at' x1 x13).f0) && strEq ((at' x0 x13).f1) ((at' x1 x13).f1)) = true) (fun h6 => .jump (.l4 x0 x1 x12 (IntKind.i64.wrap (x13 + 1)))) (fun h6 => .ret false)) (fun h2 => .ret true)
def f90.D (k : Nat) : f90.L → Option (Bool)
  | .l4 x0 x1 x12 x13 => f90.l4 k x0 x1 x12 x13
def f90.start (k : Nat) (a0_0 : List S80) (a1_0 : List S80) : PT (Bool) f90.L := .ite (((a0_0.length : Nat) : Int) = ((a1_0.length : Nat) : Int)) (fun h1 => .jump (.l4 a0_0 a1_0 ((a0_0.length : Nat) : Int) 0)) (fun h1 => .ret false)
def f90.o (a0_0 : List S80) (a1_0 : List S80) : (Bool) → V El × List (O El) := fun r => (.bb false r, [])
def sf90 (k : Nat) : List (V G.El) → List (O G.El) → Q G.El (V G.El × List (O G.El)) := fun as0' os0' => lH as0' fun v0 as1' => lH as1' fun v1 as2' => lT as2' <| lT os0' <| argL 2 v0 fun a0_0 => argL 2 v1 fun a1_0 => .call _ (f90 k a0_0 a1_0) fun r => .ret (.bb false r, [])
inductive f49.L where
  | l5 (x3 : List S80) (x27 : List S73) (x28 : Int) (x29 : Int) (b0_0 : List S80) (b0_1 : List S80) (b0_2 : List S73)
def f49.st : f49.L → Nat × S El
  | .l5 x3 x27 x28 x29 b0_0 b0_1 b0_2 => (5, ⟨55, .dead, [(1, .ptr 0 (.l 0) 0), (3, .sl 2 x3 []), (27, .sl 3 x27 []), (28, .id .i64 29 x28), (29, .id .i64 30 x29)], [(0, .box true true 0 3 true [.sl 2 b0_0 [], .sl 2 b0_1 [], .sl 3 b0_2 []])], 1, 0⟩)
def f49.hint : f49.L → H
  | .l5 .. => .all
def f49.blk (k : Nat) : f49.L → PT (Bool) f49.L
  | .l5 x3 x27 x28 x29 b0_0 b0_1 b0_2 => .ite (x29 < x28) (fun h4 => .need (0 ≤ x29) fun h5 => .need (x29 < ((x27.length : Nat) : Int)) fun h6 => .call _ (f89 k ((at' x27 x29).f0) ((at' x27 x29).f1) ((at' x27 x29).f2) ((at' x27 x29).f3)) fun t3 => .ite (t3 = true) (fun h7 => .call _ (f61 k ((at' x27 x29).f0) ((at' x27 x29).f1) ((at' x27 x29).f2) ((at' x27 x29).f3) x3) fun t4 => .either _ _ t4 (fun t4 => .tr t4.length <| .call _ (f62 k t4) fun t5 => .ite (t5 = true) (fun h8 => .tr t4.length <| .jump (.l5 t4 x27 x28 (IntKind.i64.wrap (x29 + 1)) b0_0 b0_1 b0_2)) (fun h8 => .ret false)) (fun t4 => .ret false)) (fun h7 => .ret false)) (fun h4 => .call _ (f90 k x3 b0_0) fun t6 => .ret t6)
def f49.D (k : Nat) : f49.L → Option (Bool)
  | .l5 x3 x27 x28 x29 b0_0 b0_1 b0_2 => f49.l5 k x3 x27 x28 x29 b0_0 b0_1 b0_2
def f49.start (k : Nat) (a0_0 : List S80) (a0_1 : List S80) (a0_2 : List S73) : PT (Bool) f49.L := .call _ (f62 k a0_0) fun t1 => .ite (t1 = true) (fun h1 => .th h1 <| .th h1 <| .call _ (f62 k a0_1) fun t2 => .th h1 <| .th h1 <| .ite (t2 = true) (fun h2 => .th h2 <| .th h2 <| .th h2 <| .th h2 <| .ite (200 < ((a0_2.length : Nat) : Int)) (fun h3 => .ret false) (fun h3 => .jump (.l5 a0_1 a0_2 ((a0_2.length : Nat) : Int) 0 a0_0 a0_1 a0_2))) (fun h2 => .th h2 <| .th h2 <| .th h2 <| .th h2 <| .ret false)) (fun h1 => .th h1 <| .th h1 <| .th h1 <| .th h1 <| .ret false)
def f49.o (a0_0 : List S80) (a0_1 : List S80) (a0_2 : List S73) : (Bool) → V El × List (O El) := fun r => (.bb false r, [])
def sf49 (k : Nat) : List (V G.El) → List (O G.El) → Q G.El (V G.El × List (O G.El)) := fun as0' os0' => lH as0' fun v0 as1' => lT as1' <| lT os0' <| argA v0 fun b1' => argH b1' fun y2' r2' => argH r2' fun y3' r3' => argH r3' fun y4' r4' => argT r4' <| argL 2 y2' fun a0_0 => argL 2 y3' fun a0_1 => argL 3 y4' fun a0_2 => .call _ (f49 k a0_0 a0_1 a0_2) fun r => .ret (.bb false r, [])
def f127.start (k : Nat) (a1_0 : List Int) : PT (Int) Empty := .need (3 < a1_0.length) fun h1 => .need (0 < a1_0.length) fun h2 => .need (1 < a1_0.length) fun h3 => .need (2 < a1_0.length) fun h4 => .th h1 <| .ret (orI .u32 (orI .u32 (orI .u32 (IntKind.u32.wrap (at' a1_0 0)) (shlI .u32 (IntKind.u32.wrap (at' a1_0 1)) 8)) (shlI .u32 (IntKind.u32.wrap (at' a1_0 2)) 16)) (shlI .u32 (IntKind.u32.wrap (at' a1_0 3)) 24))
def f127.o (a1_0 : List Int) : (Int) → V El × List (O El) := fun r => (.id .u32 0 r, [])
def sf127 (k : Nat) : List (V G.El) → List (O G.El) → Q G.El (V G.El × List (O G.El)) := fun as0' os0' => lH as0' fun v0 as1' => lH as1' fun v1 as2' => lT as2' <| lT os0' <| argA v0 fun b1' => argT b1' <| argL 6 v1 fun a1_0 => .call _ (f127 k a1_0) fun r => .ret (.id .u32 0 r, [])
inductive f116.L where
  | l3 (x0 : ByteArray) (x3 : Int) (x7 : Int) (x8 : Int)
  | l7 (x0 : ByteArray) (x3 : Int) (x7 : Int) (x8 : Int) (x17 : Int)
def f116.st : f116.L → Nat × S El
  | .l3 x0 x3 x7 x8 => (3, ⟨31, .dead, [(0, .s x0), (3, .id .u32 4 x3), (7, .id .i64 8 x7), (8, .id .i64 9 x8)], [], 0, 0⟩)
  | .l7 x0 x3 x7 x8 x17 => (7, ⟨31, .dead, [(0, .s x0), (3, .id .u32 4 x3), (7, .id .i64 8 x7), (8, .id .i64 9 x8), (17, .id .i64 18 x17)], [], 0, 0⟩)
def f116.hint : f116.L → H
  | .l3 .. => .all
  | .l7 .. => .all
def f116.blk (k : Nat) : f116.L → PT (Int) f116.L
  | .l3 x0 x3 x7 x8 => .ite (x8 < x7) (fun h1 => .need (0 ≤ x8) fun h2 => .need (x8 < ((x0.size : Nat) : Int)) fun h3 => .jump (.l7 x0 (xorI .u32 x3 (IntKind.u32.wrap (byteAt x0 x8))) x7 x8 0)) (fun h1 => .ret (xorI .u32 (notI .u32) x3))
  | .l7 x0 x3 x7 x8 x17 => .ite (x17 < 8) (fun h4 => .ite ((andI .u32 x3 1) = 1) (fun h5 => .jump (.l7 x0 (xorI .u32 (shrI .u32 x3 1) 3988292384) x7 x8 (IntKind.i64.wrap (x17 + 1)))) (fun h5 => .jump (.l7 x0 (shrI .u32 x3 1) x7 x8 (IntKind.i64.wrap (x17 + 1))))) (fun h4 => .jump (.l3 x0 x3 x7 (IntKind.i64.wrap (x8 + 1))))
def f116.D (k : Nat) : f116.L → Option (Int)
  | .l3 x0 x3 x7 x8 => f116.l3 k x0 x3 x7 x8
  | .l7 x0 x3 x7 x8 x17 => f116.l7 k x0 x3 x7 x8 x17
def f116.start (k : Nat) (a0_0 : ByteArray) : PT (Int) f116.L := .jump (.l3 a0_0 4294967295 ((a0_0.size : Nat) : Int) 0)
def f116.o (a0_0 : ByteArray) : (Int) → V El × List (O El) := fun r => (.id .u32 0 r, [])
def sf116 (k : Nat) : List (V G.El) → List (O G.El) → Q G.El (V G.El × List (O G.El)) := fun as0' os0' => lH as0' fun v0 as1' => lT as1' <| lT os0' <| argS v0 fun a0_0 => .call _ (f116 k a0_0) fun r => .ret (.id .u32 0 r, [])
inductive f109.L where
  | l3 (q0 : List S104) (x0 : ByteArray) (x6 : Int)
def f109.st : f109.L → Nat × S El
  | .l3 q0 x0 x6 => (3, ⟨93, .dead, [(0, .s x0), (5, .win 0 true (.l 0) (.d 0 q0.length)), (6, .id .i64 7 x6)], [(0, .row true true true 0 5 q0 none)], 1, 0⟩)
def f109.hint : f109.L → H
  | .l3 .. => (.both .all (.both .all (.both (.l (.l (.l (.l .all)))) (.r (.r (.r (.r .all)))))))
def f109.blk (k : Nat) : f109.L → PT (Int × Int × (List S104)) f109.L
  | .l3 q0 x0 x6 => .need (0 ≤ x6) fun h1 => .need (x6 ≤ ((x0.size : Nat) : Int)) fun h2 => .need ((x0.extract x6.toNat x0.size).size ≤ 70368744177664) fun h3 => .ite' ((((bytesL (x0.extract x6.toNat x0.size)).length : Nat) : Int) = 0) ((((x0.extract x6.toNat x0.size).size : Nat) : Int) = 0) tv (fun h4 => .tr q0.length <| .ret (x6, 0, q0)) (fun h4 => .ite (((q0.length : Nat) : Int) = 2000) (fun h5 => .tr q0.length <| .ret (x6, 5, q0)) (fun h5 => .need' (0 < (bytesL (x0.extract x6.toNat x0.size)).length) (0 < (x0.extract x6.toNat x0.size).size) tv fun h6 => .th h6 <| .ite ((at' (bytesL (x0.extract x6.toNat x0.size)) 0) < 1) (fun h7 => .th h7 <| .th h7 <| .th h7 <| .th h7 <| .tr q0.length <| .ret (x6, 2, q0)) (fun h7 => .th h7 <| .triv (0 < (x0.extract x6.toNat x0.size).size) tv <| .th h7 <| .th h6 <| .th h7 <| .th h7 <| .ite (100 < (at' (bytesL (x0.extract x6.toNat x0.size)) 0)) (fun h8 => .tr q0.length <| .ret (x6, 2, q0)) (fun h8 => .ite' ((((bytesL (x0.extract x6.toNat x0.size)).length : Nat) : Int) < 5) ((((x0.extract x6.toNat x0.size).size : Nat) : Int) < 5) tv (fun h9 => .tr q0.length <| .ret (x6, 1, q0)) (fun h9 => .need' (1 ≤ (((bytesL (x0.extract x6.toNat x0.size)).length : Nat) : Int)) (1 ≤ (x0.extract x6.toNat x0.size).size) tv fun h10 => .need' (1 + ((bytesL (x0.extract x6.toNat x0.size)).length - 1) ≤ (bytesL (x0.extract x6.toNat x0.size)).length) (1 + ((x0.extract x6.toNat x0.size).size - 1) ≤ (bytesL (x0.extract x6.toNat x0.size)).length) tv fun h11 => .call' _ (f127 k (((bytesL (x0.extract x6.toNat x0.size)).drop 1).take ((bytesL (x0.extract x6.toNat x0.size)).length - 1))) (f127 k (((bytesL (x0.extract x6.toNat x0.size)).drop 1).take ((x0.extract x6.toNat x0.size).size - 1))) (by simp only [len_bytesL]) fun t1 => .ite (20000 < t1) (fun h12 => .tr q0.length <| .ret (x6, 3, q0)) (fun h12 => .ite' ((((bytesL (x0.extract x6.toNat x0.size)).length : Nat) : Int) < (IntKind.i64.wrap ((IntKind.i64.wrap (5 + (IntKind.i64.wrap t1))) + 4))) ((((x0.extract x6.toNat x0.size).size : Nat) : Int) < (IntKind.i64.wrap ((IntKind.i64.wrap (5 + (IntKind.i64.wrap t1))) + 4))) tv (fun h13 => .tr q0.length <| .ret (x6, 1, q0)) (fun h13 => .need (0 ≤ (IntKind.i64.wrap (5 + (IntKind.i64.wrap t1)))) fun h14 => .need' ((IntKind.i64.wrap (5 + (IntKind.i64.wrap t1))) ≤ (((bytesL (x0.extract x6.toNat x0.size)).length : Nat) : Int)) ((IntKind.i64.wrap (5 + (IntKind.i64.wrap t1))) ≤ (((x0.extract x6.toNat x0.size).size : Nat) : Int)) tv fun h15 => .triv ((IntKind.i64.wrap (5 + (IntKind.i64.wrap t1))).toNat ≤ (bytesL (x0.extract x6.toNat x0.size)).length) tv <| .th h14 <| .triv ((IntKind.i64.wrap (5 + (IntKind.i64.wrap t1))) ≤ (((x0.extract x6.toNat x0.size).size : Nat) : Int)) tv <| .need' ((IntKind.i64.wrap (5 + (IntKind.i64.wrap t1))).toNat + ((bytesL (x0.extract x6.toNat x0.size)).length - (IntKind.i64.wrap (5 + (IntKind.i64.wrap t1))).toNat) ≤ (bytesL (x0.extract x6.toNat x0.size)).length) ((IntKind.i64.wrap (5 + (IntKind.i64.wrap t1))).toNat + ((x0.extract x6.toNat x0.size).size - (IntKind.i64.wrap (5 + (IntKind.i64.wrap t1))).toNat) ≤ (bytesL (x0.extract x6.toNat x0.size)).length) tv fun h16 => .call' _ (f127 k (((bytesL (x0.extract x6.toNat x0.size)).drop ((IntKind.i64.wrap (5 + (IntKind.i64.wrap t1))).toNat)).take ((bytesL (x0.extract x6.toNat x0.size)).length - (IntKind.i64.wrap (5 + (IntKind.i64.wrap t1))).toNat))) (f127 k (((bytesL (x0.extract x6.toNat x0.size)).drop ((IntKind.i64.wrap (5 + (IntKind.i64.wrap t1))).toNat)).take ((x0.extract x6.toNat x0.size).size - (IntKind.i64.wrap (5 + (IntKind.i64.wrap t1))).toNat))) (by simp only [len_bytesL]) fun t2 => .call _ (f116 k (strOf ((bytesL (x0.extract x6.toNat x0.size)).take ((IntKind.i64.wrap (5 + (IntKind.i64.wrap t1))).toNat)))) fun t3 => .ite (t2 = t3) (fun h17 => .triv (0 < (x0.extract x6.toNat x0.size).size) tv <| .th h6 <| .need' (5 ≤ (((strOf ((bytesL (x0.extract x6.toNat x0.size)).take ((IntKind.i64.wrap (5 + (IntKind.i64.wrap t1))).toNat))).size : Nat) : Int)) (5 ≤ (strOf ((bytesL (x0.extract x6.toNat x0.size)).take ((IntKind.i64.wrap (5 + (IntKind.i64.wrap t1))).toNat))).size) tv fun h18 => .triv (1 = ([(⟨(IntKind.i64.wrap (at' (bytesL (x0.extract x6.toNat x0.size)) 0)), ((strOf ((bytesL (x0.extract x6.toNat x0.size)).take ((IntKind.i64.wrap (5 + (IntKind.i64.wrap t1))).toNat))).extract 5 ((strOf ((bytesL (x0.extract x6.toNat x0.size)).take ((IntKind.i64.wrap (5 + (IntKind.i64.wrap t1))).toNat))).size))⟩ : S104)] : List S104).length) tv <| .tr q0.length <| .need ((q0.length + 1) * 24 ≤ 70368744177664) fun h19 => .need ((q0.length + 1) ≤ 70368744177664) fun h20 => .triv ((q0.length + 1) = (q0 ++ ([(⟨(IntKind.i64.wrap (at' (bytesL (x0.extract x6.toNat x0.size)) 0)), ((strOf ((bytesL (x0.extract x6.toNat x0.size)).take ((IntKind.i64.wrap (5 + (IntKind.i64.wrap t1))).toNat))).extract 5 ((strOf ((bytesL (x0.extract x6.toNat x0.size)).take ((IntKind.i64.wrap (5 + (IntKind.i64.wrap t1))).toNat))).size))⟩ : S104)] : List S104)).length) tv <| .jump (.l3 (q0 ++ ([(⟨(IntKind.i64.wrap (at' (bytesL (x0.extract x6.toNat x0.size)) 0)), ((strOf ((bytesL (x0.extract x6.toNat x0.size)).take ((IntKind.i64.wrap (5 + (IntKind.i64.wrap t1))).toNat))).extract 5 ((strOf ((bytesL (x0.extract x6.toNat x0.size)).take ((IntKind.i64.wrap (5 + (IntKind.i64.wrap t1))).toNat))).size))⟩ : S104)] : List S104)) x0 (IntKind.i64.wrap (x6 + (IntKind.i64.wrap ((IntKind.i64.wrap (5 + (IntKind.i64.wrap t1))) + 4)))))) (fun h17 => .tr q0.length <| .ret (x6, 4, q0)))))))))
def f109.D (k : Nat) : f109.L → Option (Int × Int × (List S104))
  | .l3 q0 x0 x6 => f109.l3 k q0 x0 x6
def f109.start (k : Nat) (a0_0 : ByteArray) : PT (Int × Int × (List S104)) f109.L := .triv (0 = ([] : List S104).length) tv <| .jump (.l3 ([] : List S104) a0_0 0)
def f109.o (a0_0 : ByteArray) : (Int × Int × (List S104)) → V El × List (O El) := fun r => (.tup [.win 0 true (.l 0) (.d 0 r.2.2.length), .id .i64 0 r.1, .id .i64 0 r.2.1], [.row true true true 0 5 r.2.2 none])
def sf109 (k : Nat) : List (V G.El) → List (O G.El) → Q G.El (V G.El × List (O G.El)) := fun as0' os0' => lH as0' fun v0 as1' => lT as1' <| lT os0' <| argS v0 fun a0_0 => .call _ (f109 k a0_0) fun r => .ret (.tup [.win 0 true (.l 0) (.d 0 r.2.2.length), .id .i64 0 r.1, .id .i64 0 r.2.1], [.row true true true 0 5 r.2.2 none])
def f60.start (k : Nat) (a0_0 : Int) (a1_0 : Int) (a2_0 : Int) : PT (Bool) Empty := .ite (a1_0 ≤ a0_0) (fun h1 => .th h1 <| .th h1 <| .th h1 <| .ret (decide (a0_0 ≤ a2_0))) (fun h1 => .th h1 <| .th h1 <| .th h1 <| .ret false)
def f60.o (a0_0 : Int) (a1_0 : Int) (a2_0 : Int) : (Bool) → V El × List (O El) := fun r => (.bb false r, [])
def sf60 (k : Nat) : List (V G.El) → List (O G.El) → Q G.El (V G.El × List (O G.El)) := fun as0' os0' => lH as0' fun v0 as1' => lH as1' fun v1 as2' => lH as2' fun v2 as3' => lT as3' <| lT os0' <| argI .i64 v0 fun a0_0 => argI .i64 v1 fun a1_0 => argI .i64 v2 fun a2_0 => .call _ (f60 k a0_0 a1_0 a2_0) fun r => .ret (.bb false r, [])
def f78.start (k : Nat) (a0_0 : Int) : PT (Bool) Empty := .call _ (f60 k a0_0 0 1000000000000) fun t1 => .ret t1
def f78.o (a0_0 : Int) : (Bool) → V El × List (O El) := fun r => (.bb false r, [])
def sf78 (k : Nat) : List (V G.El) → List (O G.El) → Q G.El (V G.El × List (O G.El)) := fun as0' os0' => lH as0' fun v0 as1' => lT as1' <| lT os0' <| argI .i64 v0 fun a0_0 => .call _ (f78 k a0_0) fun r => .ret (.bb false r, [])
inductive f110.L where
  | l3 (x0 : ByteArray) (x5 : Int) (x6 : Int)
def f110.st : f110.L → Nat × S El
  | .l3 x0 x5 x6 => (3, ⟨47, .dead, [(0, .s x0), (5, .id .i64 6 x5), (6, .id .i64 7 x6)], [], 0, 0⟩)
def f110.hint : f110.L → H
  | .l3 .. => (.both (.l (.l (.both (.both .all (.both (.l (.l (.both (.l (.l (.l .all))) (.r (.skip (.r (.r .all))))))) (.r (.r .all)))) .all))) (.r (.r .all)))
def f110.blk (k : Nat) : f110.L → PT (Int × ByteArray × Bool) f110.L
  | .l3 x0 x5 x6 => .ite (x6 < ((x0.size : Nat) : Int)) (fun h1 => .th h1 <| .th h1 <| .ite (x6 < 6) (fun h2 => .need (0 ≤ x6) fun h3 => .th h1 <| .need (0 ≤ (IntKind.i64.wrap (7 * x6))) fun h4 => .ite (128 ≤ (IntKind.i64.wrap (byteAt x0 x6))) (fun h5 => .jump (.l3 x0 (orI .i64 x5 (shlI .i64 ((IntKind.i64.wrap (byteAt x0 x6)).tmod 128) (IntKind.i64.wrap (7 * x6)))) (IntKind.i64.wrap (x6 + 1)))) (fun h5 => .ite ((IntKind.i64.wrap (byteAt x0 x6)) = 0) (fun h6 => .th h6 <| .th h6 <| .ite (0 < x6) (fun h7 => .th h7 <| .th h7 <| .th h7 <| .ret (0, (⟨#[]⟩ : ByteArray), false)) (fun h7 => .th h7 <| .call _ (f78 k (orI .i64 x5 (shlI .i64 ((IntKind.i64.wrap (byteAt x0 x6)).tmod 128) (IntKind.i64.wrap (7 * x6))))) fun t1 => .th h7 <| .th h7 <| .ite (t1 = true) (fun h8 => .need (0 ≤ (IntKind.i64.wrap (x6 + 1))) fun h9 => .need ((IntKind.i64.wrap (x6 + 1)) ≤ ((x0.size : Nat) : Int)) fun h10 => .ret ((orI .i64 x5 (shlI .i64 ((IntKind.i64.wrap (byteAt x0 x6)).tmod 128) (IntKind.i64.wrap (7 * x6)))), (x0.extract ((IntKind.i64.wrap (x6 + 1)).toNat) x0.size), true)) (fun h8 => .ret (0, (⟨#[]⟩ : ByteArray), false)))) (fun h6 => .th h6 <| .th h6 <| .call _ (f78 k (orI .i64 x5 (shlI .i64 ((IntKind.i64.wrap (byteAt x0 x6)).tmod 128) (IntKind.i64.wrap (7 * x6))))) fun t2 => .ite (t2 = true) (fun h11 => .need (0 ≤ (IntKind.i64.wrap (x6 + 1))) fun h12 => .need ((IntKind.i64.wrap (x6 + 1)) ≤ ((x0.size : Nat) : Int)) fun h13 => .ret ((orI .i64 x5 (shlI .i64 ((IntKind.i64.wrap (byteAt x0 x6)).tmod 128) (IntKind.i64.wrap (7 * x6)))), (x0.extract ((IntKind.i64.wrap (x6 + 1)).toNat) x0.size), true)) (fun h11 => .ret (0, (⟨#[]⟩ : ByteArray), false))))) (fun h2 => .ret (0, (⟨#[]⟩ : ByteArray), false))) (fun h1 => .th h1 <| .th h1 <| .ret (0, (⟨#[]⟩ : ByteArray), false))
def f110.D (k : Nat) : f110.L → Option (Int × ByteArray × Bool)
  | .l3 x0 x5 x6 => f110.l3 k x0 x5 x6
def f110.start (k : Nat) (a0_0 : ByteArray) : PT (Int × ByteArray × Bool) f110.L := .jump (.l3 a0_0 0 0)
def f110.o (a0_0 : ByteArray) : (Int × ByteArray × Bool) → V El × List (O El) := fun r => (.tup [.id .i64 0 r.1, .s r.2.1, .bb false r.2.2], [])
def sf110 (k : Nat) : List (V G.El) → List (O G.El) → Q G.El (V G.El × List (O G.El)) := fun as0' os0' => lH as0' fun v0 as1' => lT as1' <| lT os0' <| argS v0 fun a0_0 => .call _ (f110 k a0_0) fun r => .ret (.tup [.id .i64 0 r.1, .s r.2.1, .bb false r.2.2], [])
def f128.start (k : Nat) (a0_0 : ByteArray) : PT (ByteArray × ByteArray × Bool) Empty := .call _ (f110 k a0_0) fun t1 => .ite (t1.2.2 = true) (fun h1 => .th h1 <| .th h1 <| .ite (20000 < t1.1) (fun h2 => .th h2 <| .th h2 <| .th h2 <| .th h2 <| .ret ((⟨#[]⟩ : ByteArray), (⟨#[]⟩ : ByteArray), false)) (fun h2 => .th h2 <| .th h2 <| .th h2 <| .th h2 <| .ite (((t1.2.1.size : Nat) : Int) < t1.1) (fun h3 => .ret ((⟨#[]⟩ : ByteArray), (⟨#[]⟩ : ByteArray), false)) (fun h3 => .need (0 ≤ t1.1) fun h4 => .need (t1.1 ≤ ((t1.2.1.size : Nat) : Int)) fun h5 => .th h4 <| .th h5 <| .ret ((t1.2.1.extract 0 t1.1.toNat), (t1.2.1.extract t1.1.toNat t1.2.1.size), true)))) (fun h1 => .th h1 <| .th h1 <| .ret ((⟨#[]⟩ : ByteArray), (⟨#[]⟩ : ByteArray), false))
def f128.o (a0_0 : ByteArray) : (ByteArray × ByteArray × Bool) → V El × List (O El) := fun r => (.tup [.s r.1, .s r.2.1, .bb false r.2.2], [])
def sf128 (k : Nat) : List (V G.El) → List (O G.El) → Q G.El (V G.El × List (O G.El)) := fun as0' os0' => lH as0' fun v0 as1' => lT as1' <| lT os0' <| argS v0 fun a0_0 => .call _ (f128 k a0_0) fun r => .ret (.tup [.s r.1, .s r.2.1, .bb false r.2.2], [])
def f129.start (k : Nat) (a0_0 : Int) (a0_1 : Int) (a0_2 : ByteArray) : PT (Bool) Empty := .call _ (f60 k a0_0 1 1000000000000) fun t1 => .ite (t1 = true) (fun h1 => .th h1 <| .th h1 <| .call _ (f60 k a0_1 0 9) fun t2 => .th h1 <| .ite (t2 = true) (fun h2 => .th h2 <| .th h2 <| .th h2 <| .th h2 <| .ret (decide (((a0_2.size : Nat) : Int) ≤ 4000))) (fun h2 => .th h2 <| .th h2 <| .th h2 <| .th h2 <| .ret false)) (fun h1 => .th h1 <| .th h1 <| .th h1 <| .ret false)
def f129.o (a0_0 : Int) (a0_1 : Int) (a0_2 : ByteArray) : (Bool) → V El × List (O El) := fun r => (.bb false r, [])
def sf129 (k : Nat) : List (V G.El) → List (O G.El) → Q G.El (V G.El × List (O G.El)) := fun as0' os0' => lH as0' fun v0 as1' => lT as1' <| lT os0' <| argA v0 fun b1' => argH b1' fun y2' r2' => argH r2' fun y3' r3' => argH r3' fun y4' r4' => argT r4' <| argI .i64 y2' fun a0_0 => argI .i64 y3' fun a0_1 => argS y4' fun a0_2 => .call _ (f129 k a0_0 a0_1 a0_2) fun r => .ret (.bb false r, [])
def f111.start (k : Nat) (a0_0 : Int) (a0_1 : ByteArray) : PT (Int × Int × ByteArray × Bool) Empty := .call _ (f110 k a0_1) fun t1 => .call _ (f110 k t1.2.1) fun t2 => .call _ (f128 k t2.2.1) fun t3 => .ite (a0_0 = 2) (fun h1 => .th h1 <| .th h1 <| .ite (t1.2.2 = true) (fun h2 => .th h2 <| .th h2 <| .ite (t2.2.2 = true) (fun h3 => .th h3 <| .th h3 <| .ite (t3.2.2 = true) (fun h4 => .th h4 <| .th h4 <| .ite ((strEq t3.2.1 (⟨#[]⟩ : ByteArray)) = true) (fun h5 => .th h5 <| .call _ (f129 k t1.1 t2.1 t3.1) fun t4 => .th h5 <| .th h5 <| .ite (t4 = true) (fun h6 => .ret (t1.1, t2.1, t3.1, true)) (fun h6 => .ret (0, 0, (⟨#[]⟩ : ByteArray), false))) (fun h5 => .th h5 <| .th h5 <| .th h5 <| .ret (0, 0, (⟨#[]⟩ : ByteArray), false))) (fun h4 => .th h4 <| .th h4 <| .ret (0, 0, (⟨#[]⟩ : ByteArray), false))) (fun h3 => .th h3 <| .th h3 <| .ret (0, 0, (⟨#[]⟩ : ByteArray), false))) (fun h2 => .th h2 <| .th h2 <| .ret (0, 0, (⟨#[]⟩ : ByteArray), false))) (fun h1 => .th h1 <| .th h1 <| .ret (0, 0, (⟨#[]⟩ : ByteArray), false))
def f111.o (a0_0 : Int) (a0_1 : ByteArray) : (Int × Int × ByteArray × Bool) → V El × List (O El) := fun r => (.tup [.agg [.id .i64 0 r.1, .id .i64 0 r.2.1, .s r.2.2.1], .bb false r.2.2.2], [])
def sf111 (k : Nat) : List (V G.El) → List (O G.El) → Q G.El (V G.El × List (O G.El)) := fun as0' os0' => lH as0' fun v0 as1' => lT as1' <| lT os0' <| argA v0 fun b1' => argH b1' fun y2' r2' => argH r2' fun y3' r3' => argT r3' <| argI .i64 y2' fun a0_0 => argS y3' fun a0_1 => .call _ (f111 k a0_0 a0_1) fun r => .ret (.tup [.agg [.id .i64 0 r.1, .id .i64 0 r.2.1, .s r.2.2.1], .bb false r.2.2.2], [])
inductive f73.L where
  | l20 (q2 : List S104) (x18 : Int) (x106 : Int) (x107 : Int) (b0_0 : Int) (b0_1 : Int) (b1_0 : Int) (b1_1 : Int)
  | l20v1 (q2 : List S104) (q3 : List S136) (x18 : Int) (x106 : Int) (x107 : Int) (b0_0 : Int) (b0_1 : Int) (b1_0 : Int) (b1_1 : Int)
def f73.st : f73.L → Nat × S El
  | .l20 q2 x18 x106 x107 b0_0 b0_1 b1_0 b1_1 => (20, ⟨147, .dead, [(2, .ptr 0 (.l 0) 0), (4, .ptr 1 (.l 0) 0), (18, .id .i64 19 x18), (105, .win 2 true (.l 0) (.d 0 q2.length)), (106, .id .i64 107 x106), (107, .id .i64 108 x107)], [(0, .box true true 0 3 true [.id .i64 50000 b0_0, .id .i64 50001 b0_1, .nil]), (1, .box true true 0 3 true [.id .i64 50100 b1_0, .id .i64 50101 b1_1, .nil]), (2, .row true true true 0 5 q2 none)], 3, 0⟩)
  | .l20v1 q2 q3 x18 x106 x107 b0_0 b0_1 b1_0 b1_1 => (20, ⟨147, .dead, [(2, .ptr 0 (.l 0) 0), (4, .ptr 1 (.l 0) 0), (18, .id .i64 19 x18), (105, .win 2 true (.l 0) (.d 0 q2.length)), (106, .id .i64 107 x106), (107, .id .i64 108 x107)], [(0, .box true true 0 3 true [.id .i64 50000 b0_0, .id .i64 50001 b0_1, .nil]), (1, .box true true 0 3 true [.id .i64 50100 b1_0, .id .i64 50101 b1_1, .win 3 true (.l 0) (.d 0 q3.length)]), (2, .row true true true 0 5 q2 none), (3, .row true true true 0 4 q3 none)], 4, 0⟩)
def f73.hint : f73.L → H
  | .l20 .. => (.both (.skip (.both (.l (.l (.l (.l (.both (.l (.l (.l (.l (.l .all))))) (.r (.r (.r (.r (.r (.both (.l (.l (.l (.l .all)))) (.r (.r (.r (.r .all))))))))))))))) (.r (.r (.r (.r .all)))))) .all)
  | .l20v1 .. => (.both (.skip (.both (.l (.l (.l (.l (.both (.l (.l (.l (.l (.l .all))))) (.r (.r (.r (.r (.r (.both (.l (.l (.l (.l .all)))) (.r (.r (.r (.r .all))))))))))))))) (.r (.r (.r (.r .all)))))) .all)
def f73.blk (k : Nat) : f73.L → PT (Int × Int × Bool × (List S136)) f73.L
  | .l20 q2 x18 x106 x107 b0_0 b0_1 b1_0 b1_1 => .ite (x107 < x106) (fun h13 => .need (0 ≤ x107) fun h14 => .need (x107 < ((q2.length : Nat) : Int)) fun h15 => .triv (x107.toNat < q2.length) tv <| .call _ (f111 k ((at' q2 x107).f0) ((at' q2 x107).f1)) fun t8 => .ite (t8.2.2.2 = true) (fun h16 => .th h16 <| .th h16 <| .th h16 <| .th h16 <| .ite (t8.1 < x18) (fun h17 => .th h17 <| .th h17 <| .th h17 <| .th h17 <| .th h17 <| .triv (0 = ([] : List S136).length) tv <| .ret (b1_0, b1_1, true, ([] : List S136))) (fun h17 => .th h17 <| .th h17 <| .th h17 <| .th h17 <| .th h17 <| .ite (b1_0 < t8.1) (fun h18 => .th h18 <| .th h18 <| .th h18 <| .th h18 <| .triv (0 = ([] : List S136).length) tv <| .ret (b1_0, b1_1, true, ([] : List S136))) (fun h18 => .th h18 <| .th h18 <| .th h18 <| .th h18 <| .triv (1 = ([(⟨t8.1, t8.2.1, t8.2.2.1⟩ : S136)] : List S136).length) tv <| .tr q2.length <| .triv (1 = ([(⟨t8.1, t8.2.1, t8.2.2.1⟩ : S136)] : List S136).length) tv <| .jump (.l20v1 q2 ([(⟨t8.1, t8.2.1, t8.2.2.1⟩ : S136)] : List S136) t8.1 x106 (IntKind.i64.wrap (x107 + 1)) b0_0 b0_1 b1_0 b1_1)))) (fun h16 => .th h16 <| .th h16 <| .th h16 <| .th h16 <| .triv (0 = ([] : List S136).length) tv <| .ret (b1_0, b1_1, true, ([] : List S136)))) (fun h13 => .triv (0 = ([] : List S136).length) tv <| .ret (b1_0, b1_1, true, ([] : List S136)))
  | .l20v1 q2 q3 x18 x106 x107 b0_0 b0_1 b1_0 b1_1 => .ite (x107 < x106) (fun h19 => .need (0 ≤ x107) fun h20 => .need (x107 < ((q2.length : Nat) : Int)) fun h21 => .triv (x107.toNat < q2.length) tv <| .call _ (f111 k ((at' q2 x107).f0) ((at' q2 x107).f1)) fun t9 => .ite (t9.2.2.2 = true) (fun h22 => .th h22 <| .th h22 <| .th h22 <| .th h22 <| .ite (t9.1 < x18) (fun h23 => .th h23 <| .th h23 <| .th h23 <| .th h23 <| .th h23 <| .tr q3.length <| .ret (b1_0, b1_1, true, q3)) (fun h23 => .th h23 <| .th h23 <| .th h23 <| .th h23 <| .th h23 <| .ite (b1_0 < t9.1) (fun h24 => .th h24 <| .th h24 <| .th h24 <| .th h24 <| .tr q3.length <| .ret (b1_0, b1_1, true, q3)) (fun h24 => .th h24 <| .th h24 <| .th h24 <| .th h24 <| .ite (((q3.length : Nat) : Int) = 500) (fun h25 => .tr q3.length <| .ret (b1_0, b1_1, true, q3)) (fun h25 => .triv (1 = ([(⟨t9.1, t9.2.1, t9.2.2.1⟩ : S136)] : List S136).length) tv <| .tr q3.length <| .need ((q3.length + 1) * 32 ≤ 70368744177664) fun h26 => .need ((q3.length + 1) ≤ 70368744177664) fun h27 => .tr q2.length <| .triv ((q3.length + 1) = (q3 ++ ([(⟨t9.1, t9.2.1, t9.2.2.1⟩ : S136)] : List S136)).length) tv <| .jump (.l20v1 q2 (q3 ++ ([(⟨t9.1, t9.2.1, t9.2.2.1⟩ : S136)] : List S136)) t9.1 x106 (IntKind.i64.wrap (x107 + 1)) b0_0 b0_1 b1_0 b1_1))))) (fun h22 => .th h22 <| .th h22 <| .th h22 <| .th h22 <| .tr q3.length <| .ret (b1_0, b1_1, true, q3))) (fun h19 => .tr q3.length <| .ret (b1_0, b1_1, true, q3))
def f73.D (k : Nat) : f73.L → Option (Int × Int × Bool × (List S136))
  | .l20 q2 x18 x106 x107 b0_0 b0_1 b1_0 b1_1 => f73.l20 k q2 x18 x106 x107 b0_0 b0_1 b1_0 b1_1
  | .l20v1 q2 q3 x18 x106 x107 b0_0 b0_1 b1_0 b1_1 => f73.l20v1 k q2 q3 x18 x106 x107 b0_0 b0_1 b1_0 b1_1
def f73.start (k : Nat) (a0_0 : List S80) (a0_1 : List S80) (a0_2 : List S73) : PT (Int × Int × Bool × (List S136)) f73.L := .call _ (f49 k a0_0 a0_1 a0_2) fun t1 => .ite (t1 = true) (fun h1 => .call _ (f53 k a0_0 (⟨#[118, 111, 116, 101]⟩ : ByteArray)) fun t2 => .ite (0 ≤ t2) (fun h2 => .th h2 <| .need (t2 < ((a0_0.length : Nat) : Int)) fun h3 => .call _ (f109 k ((at' a0_0 t2).f1)) fun t3 => .ite (t3.2.1 = 0) (fun h4 => .th h4 <| .th h4 <| .th h4 <| .ite (((t3.2.2.length : Nat) : Int) = 1) (fun h5 => .th h5 <| .need (0 < t3.2.2.length) fun h6 => .th h5 <| .th h5 <| .th h6 <| .th h5 <| .th h5 <| .ite ((at' t3.2.2 0).f0 = 1) (fun h7 => .th h6 <| .th h6 <| .call _ (f110 k ((at' t3.2.2 0).f1)) fun t4 => .call _ (f110 k t4.2.1) fun t5 => .ite (t4.2.2 = true) (fun h8 => .th h8 <| .th h8 <| .ite (t5.2.2 = true) (fun h9 => .th h9 <| .th h9 <| .ite ((strEq t5.2.1 (⟨#[]⟩ : ByteArray)) = true) (fun h10 => .call _ (f53 k a0_0 (⟨#[108, 111, 103]⟩ : ByteArray)) fun t6 => .ite (0 ≤ t6) (fun h11 => .th h11 <| .need (t6 < ((a0_0.length : Nat) : Int)) fun h12 => .call _ (f109 k ((at' a0_0 t6).f1)) fun t7 => .tr t7.2.2.length <| .jump (.l20 t7.2.2 0 ((t7.2.2.length : Nat) : Int) 0 0 0 t4.1 t5.1)) (fun h11 => .triv (0 = ([] : List S136).length) tv <| .ret (t4.1, t5.1, true, ([] : List S136)))) (fun h10 => .triv (0 = ([] : List S136).length) tv <| .ret (0, 0, false, ([] : List S136)))) (fun h9 => .th h9 <| .th h9 <| .triv (0 = ([] : List S136).length) tv <| .ret (0, 0, false, ([] : List S136)))) (fun h8 => .th h8 <| .th h8 <| .triv (0 = ([] : List S136).length) tv <| .ret (0, 0, false, ([] : List S136)))) (fun h7 => .triv (0 = ([] : List S136).length) tv <| .ret (0, 0, false, ([] : List S136)))) (fun h5 => .th h5 <| .th h5 <| .th h5 <| .th h5 <| .th h5 <| .triv (0 = ([] : List S136).length) tv <| .ret (0, 0, false, ([] : List S136)))) (fun h4 => .th h4 <| .th h4 <| .th h4 <| .triv (0 = ([] : List S136).length) tv <| .ret (0, 0, false, ([] : List S136)))) (fun h2 => .call _ (f53 k a0_0 (⟨#[108, 111, 103]⟩ : ByteArray)) fun t10 => .ite (0 ≤ t10) (fun h28 => .th h28 <| .need (t10 < ((a0_0.length : Nat) : Int)) fun h29 => .call _ (f109 k ((at' a0_0 t10).f1)) fun t11 => .tr t11.2.2.length <| .jump (.l20 t11.2.2 0 ((t11.2.2.length : Nat) : Int) 0 0 0 0 0)) (fun h28 => .triv (0 = ([] : List S136).length) tv <| .ret (0, 0, true, ([] : List S136))))) (fun h1 => .triv (0 = ([] : List S136).length) tv <| .ret (0, 0, false, ([] : List S136)))
def f73.o (a0_0 : List S80) (a0_1 : List S80) (a0_2 : List S73) : (Int × Int × Bool × (List S136)) → V El × List (O El) := fun r => (.tup [.agg [.id .i64 0 r.1, .id .i64 0 r.2.1, .win 0 true (.l 0) (.d 0 r.2.2.2.length)], .bb false r.2.2.1], [.row true true true 0 4 r.2.2.2 none])
def sf73 (k : Nat) : List (V G.El) → List (O G.El) → Q G.El (V G.El × List (O G.El)) := fun as0' os0' => lH as0' fun v0 as1' => lT as1' <| lT os0' <| argA v0 fun b1' => argH b1' fun y2' r2' => argH r2' fun y3' r3' => argH r3' fun y4' r4' => argT r4' <| argL 2 y2' fun a0_0 => argL 2 y3' fun a0_1 => argL 3 y4' fun a0_2 => .call _ (f73 k a0_0 a0_1 a0_2) fun r => .ret (.tup [.agg [.id .i64 0 r.1, .id .i64 0 r.2.1, .win 0 true (.l 0) (.d 0 r.2.2.2.length)], .bb false r.2.2.1], [.row true true true 0 4 r.2.2.2 none])
def f91.start (k : Nat) (a0_0 : ByteArray) (a0_1 : ByteArray) (a1_0 : ByteArray) (a1_1 : ByteArray) : PT (Bool) Empty := .ite ((strEq a0_0 a1_0) = true) (fun h1 => .ite ((strEq a0_1 a1_1) = true) (fun h2 => .ret true) (fun h2 => .ret false)) (fun h1 => .ret false)
def f91.o (a0_0 : ByteArray) (a0_1 : ByteArray) (a1_0 : ByteArray) (a1_1 : ByteArray) : (Bool) → V El × List (O El) := fun r => (.bb false r, [])
def sf91 (k : Nat) : List (V G.El) → List (O G.El) → Q G.El (V G.El × List (O G.El)) := fun as0' os0' => lH as0' fun v0 as1' => lH as1' fun v1 as2' => lT as2' <| lT os0' <| argA v0 fun b1' => argH b1' fun y2' r2' => argH r2' fun y3' r3' => argT r3' <| argS y2' fun a0_0 => argS y3' fun a0_1 => argA v1 fun b4' => argH b4' fun y5' r5' => argH r5' fun y6' r6' => argT r6' <| argS y5' fun a1_0 => argS y6' fun a1_1 => .call _ (f91 k a0_0 a0_1 a1_0 a1_1) fun r => .ret (.bb false r, [])
inductive f50.L where
  | l4 (x0 : List S80) (x1 : List S80) (x5 : Int)
def f50.st : f50.L → Nat × S El
  | .l4 x0 x1 x5 => (4, ⟨27, .dead, [(0, .sl 2 x0 []), (1, .sl 2 x1 []), (5, .id .i64 6 x5)], [], 0, 0⟩)
def f50.hint : f50.L → H
  | .l4 .. => .all
def f50.blk (k : Nat) : f50.L → PT (Bool) f50.L
  | .l4 x0 x1 x5 => .ite (x5 < ((x0.length : Nat) : Int)) (fun h2 => .need (0 ≤ x5) fun h3 => .th h2 <| .th h3 <| .need (x5 < ((x1.length : Nat) : Int)) fun h4 => .call _ (f91 k ((at' x0 x5).f0) ((at' x0 x5).f1) ((at' x1 x5).f0) ((at' x1 x5).f1)) fun t1 => .ite (t1 = true) (fun h5 => .jump (.l4 x0 x1 (IntKind.i64.wrap (x5 + 1)))) (fun h5 => .ret false)) (fun h2 => .ret true)
def f50.D (k : Nat) : f50.L → Option (Bool)
  | .l4 x0 x1 x5 => f50.l4 k x0 x1 x5
def f50.start (k : Nat) (a0_0 : List S80) (a1_0 : List S80) : PT (Bool) f50.L := .ite (((a0_0.length : Nat) : Int) = ((a1_0.length : Nat) : Int)) (fun h1 => .jump (.l4 a0_0 a1_0 0)) (fun h1 => .ret false)
def f50.o (a0_0 : List S80) (a1_0 : List S80) : (Bool) → V El × List (O El) := fun r => (.bb false r, [])
def sf50 (k : Nat) : List (V G.El) → List (O G.El) → Q G.El (V G.El × List (O G.El)) := fun as0' os0' => lH as0' fun v0 as1' => lH as1' fun v1 as2' => lT as2' <| lT os0' <| argL 2 v0 fun a0_0 => argL 2 v1 fun a1_0 => .call _ (f50 k a0_0 a1_0) fun r => .ret (.bb false r, [])
def f92.start (k : Nat) (a0_0 : Int) (a0_1 : ByteArray) (a0_2 : ByteArray) (a0_3 : ByteArray) (a1_0 : Int) (a1_1 : ByteArray) (a1_2 : ByteArray) (a1_3 : ByteArray) : PT (Bool) Empty := .ite (a0_0 = a1_0) (fun h1 => .ite ((strEq a0_1 a1_1) = true) (fun h2 => .ite ((strEq a0_2 a1_2) = true) (fun h3 => .ite ((strEq a0_3 a1_3) = true) (fun h4 => .ret true) (fun h4 => .ret false)) (fun h3 => .ret false)) (fun h2 => .ret false)) (fun h1 => .ret false)
def f92.o (a0_0 : Int) (a0_1 : ByteArray) (a0_2 : ByteArray) (a0_3 : ByteArray) (a1_0 : Int) (a1_1 : ByteArray) (a1_2 : ByteArray) (a1_3 : ByteArray) : (Bool) → V El × List (O El) := fun r => (.bb false r, [])
def sf92 (k : Nat) : List (V G.El) → List (O G.El) → Q G.El (V G.El × List (O G.El)) := fun as0' os0' => lH as0' fun v0 as1' => lH as1' fun v1 as2' => lT as2' <| lT os0' <| argA v0 fun b1' => argH b1' fun y2' r2' => argH r2' fun y3' r3' => argH r3' fun y4' r4' => argH r4' fun y5' r5' => argT r5' <| argI .i64 y2' fun a0_0 => argS y3' fun a0_1 => argS y4' fun a0_2 => argS y5' fun a0_3 => argA v1 fun b6' => argH b6' fun y7' r7' => argH r7' fun y8' r8' => argH r8' fun y9' r9' => argH r9' fun y10' r10' => argT r10' <| argI .i64 y7' fun a1_0 => argS y8' fun a1_1 => argS y9' fun a1_2 => argS y10' fun a1_3 => .call _ (f92 k a0_0 a0_1 a0_2 a0_3 a1_0 a1_1 a1_2 a1_3) fun r => .ret (.bb false r, [])
inductive f51.L where
  | l4 (x0 : List S73) (x1 : List S73) (x5 : Int)
def f51.st : f51.L → Nat × S El
  | .l4 x0 x1 x5 => (4, ⟨27, .dead, [(0, .sl 3 x0 []), (1, .sl 3 x1 []), (5, .id .i64 6 x5)], [], 0, 0⟩)
def f51.hint : f51.L → H
  | .l4 .. => .all
def f51.blk (k : Nat) : f51.L → PT (Bool) f51.L
  | .l4 x0 x1 x5 => .ite (x5 < ((x0.length : Nat) : Int)) (fun h2 => .need (0 ≤ x5) fun h3 => .th h2 <| .th h3 <| .need (x5 < ((x1.length : Nat) : Int)) fun h4 => .call _ (f92 k ((at' x0 x5).f0) ((at' x0 x5).f1) ((at' x0 x5).f2) ((at' x0 x5).f3) ((at' x1 x5).f0) ((at' x1 x5).f1) ((at' x1 x5).f2) ((at' x1 x5).f3)) fun t1 => .ite (t1 = true) (fun h5 => .jump (.l4 x0 x1 (IntKind.i64.wrap (x5 + 1)))) (fun h5 => .ret false)) (fun h2 => .ret true)
def f51.D (k : Nat) : f51.L → Option (Bool)
  | .l4 x0 x1 x5 => f51.l4 k x0 x1 x5
def f51.start (k : Nat) (a0_0 : List S73) (a1_0 : List S73) : PT (Bool) f51.L := .ite (((a0_0.length : Nat) : Int) = ((a1_0.length : Nat) : Int)) (fun h1 => .jump (.l4 a0_0 a1_0 0)) (fun h1 => .ret false)
def f51.o (a0_0 : List S73) (a1_0 : List S73) : (Bool) → V El × List (O El) := fun r => (.bb false r, [])
def sf51 (k : Nat) : List (V G.El) → List (O G.El) → Q G.El (V G.El × List (O G.El)) := fun as0' os0' => lH as0' fun v0 as1' => lH as1' fun v1 as2' => lT as2' <| lT os0' <| argL 3 v0 fun a0_0 => argL 3 v1 fun a1_0 => .call _ (f51 k a0_0 a1_0) fun r => .ret (.bb false r, [])
def f16.start (k : Nat) (a0_0 : List S80) (a0_1 : List S80) (a0_2 : List S73) (a1_0 : List S80) (a1_1 : List S80) (a1_2 : List S73) : PT (Bool) Empty := .call _ (f50 k a0_0 a1_0) fun t1 => .ite (t1 = true) (fun h1 => .call _ (f50 k a0_1 a1_1) fun t2 => .ite (t2 = true) (fun h2 => .call _ (f51 k a0_2 a1_2) fun t3 => .ite (t3 = true) (fun h3 => .ret true) (fun h3 => .ret false)) (fun h2 => .ret false)) (fun h1 => .ret false)
def f16.o (a0_0 : List S80) (a0_1 : List S80) (a0_2 : List S73) (a1_0 : List S80) (a1_1 : List S80) (a1_2 : List S73) : (Bool) → V El × List (O El) := fun r => (.bb false r, [])
def sf16 (k : Nat) : List (V G.El) → List (O G.El) → Q G.El (V G.El × List (O G.El)) := fun as0' os0' => lH as0' fun v0 as1' => lH as1' fun v1 as2' => lT as2' <| lT os0' <| argA v0 fun b1' => argH b1' fun y2' r2' => argH r2' fun y3' r3' => argH r3' fun y4' r4' => argT r4' <| argL 2 y2' fun a0_0 => argL 2 y3' fun a0_1 => argL 3 y4' fun a0_2 => argA v1 fun b5' => argH b5' fun y6' r6' => argH r6' fun y7' r7' => argH r7' fun y8' r8' => argT r8' <| argL 2 y6' fun a1_0 => argL 2 y7' fun a1_1 => argL 3 y8' fun a1_2 => .call _ (f16 k a0_0 a0_1 a0_2 a1_0 a1_1 a1_2) fun r => .ret (.bb false r, [])
inductive f105.L where
  | l4 (x0 : Int) (x3 : ByteArray)
def f105.st : f105.L → Nat × S El
  | .l4 x0 x3 => (4, ⟨20, .dead, [(0, .id .i64 1 x0), (3, .s x3)], [], 0, 0⟩)
def f105.hint : f105.L → H
  | .l4 .. => .all
def f105.blk (k : Nat) : f105.L → PT (ByteArray) f105.L
  | .l4 x0 x3 => .ite (0 < x0) (fun h2 => .triv (1 = ([(IntKind.u8.wrap (IntKind.i64.wrap (48 + (x0.tmod 10))))] : List Int).length) tv <| .need' (1 + x3.size ≤ 9223372036854775807) ((strOf ([(IntKind.u8.wrap (IntKind.i64.wrap (48 + (x0.tmod 10))))] : List Int)).size + x3.size ≤ 9223372036854775807) tv fun h3 => .jump (.l4 (IntKind.i64.wrap (x0.tdiv 10)) ((strOf ([(IntKind.u8.wrap (IntKind.i64.wrap (48 + (x0.tmod 10))))] : List Int)) ++ x3))) (fun h2 => .need' (1 + x3.size ≤ 9223372036854775807) ((⟨#[109]⟩ : ByteArray).size + x3.size ≤ 9223372036854775807) tv fun h4 => .ret ((⟨#[109]⟩ : ByteArray) ++ x3))
def f105.D (k : Nat) : f105.L → Option (ByteArray)
  | .l4 x0 x3 => f105.l4 k x0 x3
def f105.start (k : Nat) (a0_0 : Int) : PT (ByteArray) f105.L := .ite (a0_0 ≤ 0) (fun h1 => .ret (⟨#[109, 48]⟩ : ByteArray)) (fun h1 => .jump (.l4 a0_0 (⟨#[]⟩ : ByteArray)))
def f105.o (a0_0 : Int) : (ByteArray) → V El × List (O El) := fun r => (.s r, [])
def sf105 (k : Nat) : List (V G.El) → List (O G.El) → Q G.El (V G.El × List (O G.El)) := fun as0' os0' => lH as0' fun v0 as1' => lT as1' <| lT os0' <| argI .i64 v0 fun a0_0 => .call _ (f105 k a0_0) fun r => .ret (.s r, [])
inductive f68.L where
  | l2 (q0 : List S80) (x1 : Int) (x5 : Int)
def f68.st : f68.L → Nat × S El
  | .l2 q0 x1 x5 => (2, ⟨29, .dead, [(0, .win 0 true (.l 0) (.d 0 q0.length)), (1, .id .i64 2 x1), (5, .id .i64 6 x5)], [(0, .row true true true 0 2 q0 none)], 1, 1⟩)
def f68.hint : f68.L → H
  | .l2 .. => .all
def f68.blk (k : Nat) : f68.L → PT (Int × (List S80)) f68.L
  | .l2 q0 x1 x5 => .ite (x5 < ((q0.length : Nat) : Int)) (fun h1 => .call _ (f105 k x1) fun t1 => .need (0 ≤ x5) fun h2 => .th h1 <| .triv (x5.toNat < q0.length) tv <| .call _ (f105 k (IntKind.i64.wrap (x1 + 1))) fun t2 => .th h2 <| .th h1 <| .triv (x5.toNat < q0.length) tv <| .triv (x5.toNat = x5.toNat) rfl <| .tr q0.length <| .jump (.l2 (q0.set x5.toNat (⟨t1, t2⟩ : S80)) (IntKind.i64.wrap ((IntKind.i64.wrap (x1 + 1)) + 1)) (IntKind.i64.wrap (x5 + 1)))) (fun h1 => .ret (x1, q0))
def f68.D (k : Nat) : f68.L → Option (Int × (List S80))
  | .l2 q0 x1 x5 => f68.l2 k q0 x1 x5
def f68.start (k : Nat) (a1_0 : Int) (o0 : List S80) : PT (Int × (List S80)) f68.L := .tr o0.length <| .jump (.l2 o0 a1_0 0)
def f68.o (a1_0 : Int) (o0 : List S80) : (Int × (List S80)) → V El × List (O El) := fun r => (.id .i64 0 r.1, [.row true true true 0 2 r.2 none])
def sf68 (k : Nat) : List (V G.El) → List (O G.El) → Q G.El (V G.El × List (O G.El)) := fun as0' os0' => lH as0' fun v0 as1' => lH as1' fun v1 as2' => lT as2' <| lH os0' fun x0 os1' => lT os1' <| argR 2 x0 fun o0 => argW 0 o0.length v0 <| argI .i64 v1 fun a1_0 => .call _ (f68 k a1_0 o0) fun r => .ret (.id .i64 0 r.1, [.row true true false 0 2 r.2 none])
inductive f69.L where
  | l2 (q0 : List S73) (x1 : Int) (x5 : Int)
def f69.st : f69.L → Nat × S El
  | .l2 q0 x1 x5 => (2, ⟨44, .dead, [(0, .win 0 true (.l 0) (.d 0 q0.length)), (1, .id .i64 2 x1), (5, .id .i64 6 x5)], [(0, .row true true true 0 3 q0 none)], 1, 1⟩)
def f69.hint : f69.L → H
  | .l2 .. => .all
def f69.blk (k : Nat) : f69.L → PT (Int × (List S73)) f69.L
  | .l2 q0 x1 x5 => .ite (x5 < ((q0.length : Nat) : Int)) (fun h1 => .need (0 ≤ x5) fun h2 => .th h1 <| .triv (x5.toNat < q0.length) tv <| .call _ (f105 k (IntKind.i64.wrap (x1 + 1))) fun t1 => .th h2 <| .th h1 <| .triv (x5.toNat < q0.length) tv <| .triv (x5.toNat = x5.toNat) rfl <| .call _ (f105 k (IntKind.i64.wrap ((IntKind.i64.wrap (x1 + 1)) + 1))) fun t2 => .th h2 <| .th h1 <| .triv (x5.toNat < q0.length) tv <| .triv (x5.toNat = x5.toNat) rfl <| .call _ (f105 k (IntKind.i64.wrap ((IntKind.i64.wrap ((IntKind.i64.wrap (x1 + 1)) + 1)) + 1))) fun t3 => .th h2 <| .th h1 <| .triv (x5.toNat < q0.length) tv <| .triv (x5.toNat = x5.toNat) rfl <| .tr q0.length <| .jump (.l2 (q0.set x5.toNat (⟨x1, t1, t2, t3⟩ : S73)) (IntKind.i64.wrap ((IntKind.i64.wrap ((IntKind.i64.wrap ((IntKind.i64.wrap (x1 + 1)) + 1)) + 1)) + 1)) (IntKind.i64.wrap (x5 + 1)))) (fun h1 => .ret (x1, q0))
def f69.D (k : Nat) : f69.L → Option (Int × (List S73))
  | .l2 q0 x1 x5 => f69.l2 k q0 x1 x5
def f69.start (k : Nat) (a1_0 : Int) (o0 : List S73) : PT (Int × (List S73)) f69.L := .tr o0.length <| .jump (.l2 o0 a1_0 0)
def f69.o (a1_0 : Int) (o0 : List S73) : (Int × (List S73)) → V El × List (O El) := fun r => (.id .i64 0 r.1, [.row true true true 0 3 r.2 none])
def sf69 (k : Nat) : List (V G.El) → List (O G.El) → Q G.El (V G.El × List (O G.El)) := fun as0' os0' => lH as0' fun v0 as1' => lH as1' fun v1 as2' => lT as2' <| lH os0' fun x0 os1' => lT os1' <| argR 3 x0 fun o0 => argW 0 o0.length v0 <| argI .i64 v1 fun a1_0 => .call _ (f69 k a1_0 o0) fun r => .ret (.id .i64 0 r.1, [.row true true false 0 3 r.2 none])
def f29.start (k : Nat) (a1_0 : Int) (o0 : List S80) (o1 : List S80) (o2 : List S73) : PT (Int × (List S80) × (List S80) × (List S73)) Empty := .tr o0.length <| .call _ (f68 k a1_0 o0) fun t1 => .tr o1.length <| .call _ (f68 k t1.1 o1) fun t2 => .tr o2.length <| .call _ (f69 k t2.1 o2) fun t3 => .ret (t3.1, t1.2, t2.2, t3.2)
def f29.o (a1_0 : Int) (o0 : List S80) (o1 : List S80) (o2 : List S73) : (Int × (List S80) × (List S80) × (List S73)) → V El × List (O El) := fun r => (.id .i64 0 r.1, [.row true true true 0 2 r.2.1 none, .row true true true 0 2 r.2.2.1 none, .row true true true 0 3 r.2.2.2 none])
def sf29 (k : Nat) : List (V G.El) → List (O G.El) → Q G.El (V G.El × List (O G.El)) := fun as0' os0' => lH as0' fun v0 as1' => lH as1' fun v1 as2' => lT as2' <| lH os0' fun x0 os1' => lH os1' fun x1 os2' => lH os2' fun x2 os3' => lT os3' <| argR 2 x0 fun o0 => argR 2 x1 fun o1 => argR 3 x2 fun o2 => argA v0 fun b1' => argH b1' fun y2' r2' => argH r2' fun y3' r3' => argH r3' fun y4' r4' => argT r4' <| argW 0 o0.length y2' <| argW 1 o1.length y3' <| argW 2 o2.length y4' <| argI .i64 v1 fun a1_0 => .call _ (f29 k a1_0 o0 o1 o2) fun r => .ret (.id .i64 0 r.1, [.row true true false 0 2 r.2.1 none, .row true true false 0 2 r.2.2.1 none, .row true true false 0 3 r.2.2.2 none])
def f77.start (k : Nat) (a0_0 : Int) (a1_0 : Int) : PT (ByteArray) Empty := .call _ (f114 k a0_0) fun t1 => .call _ (f114 k a1_0) fun t2 => .need (t1.size + t2.size ≤ 9223372036854775807) fun h1 => .call _ (f113 k 1 (t1 ++ t2)) fun t3 => .ret t3
def f77.o (a0_0 : Int) (a1_0 : Int) : (ByteArray) → V El × List (O El) := fun r => (.s r, [])
def sf77 (k : Nat) : List (V G.El) → List (O G.El) → Q G.El (V G.El × List (O G.El)) := fun as0' os0' => lH as0' fun v0 as1' => lH as1' fun v1 as2' => lT as2' <| lT os0' <| argI .i64 v0 fun a0_0 => argI .i64 v1 fun a1_0 => .call _ (f77 k a0_0 a1_0) fun r => .ret (.s r, [])
def f66.start (k : Nat) (a0_0 : List S80) (a0_1 : List S80) (a0_2 : List S73) : PT ((List S80) × (List S80) × (List S73)) Empty := .triv (0 = ([] : List S80).length) tv <| .need (a0_0.length * 32 ≤ 70368744177664) fun h1 => .need (a0_0.length ≤ 70368744177664) fun h2 => .triv (0 = ([] : List S80).length) tv <| .need (a0_1.length * 32 ≤ 70368744177664) fun h3 => .need (a0_1.length ≤ 70368744177664) fun h4 => .triv (0 = ([] : List S73).length) tv <| .need (a0_2.length * 56 ≤ 70368744177664) fun h5 => .need (a0_2.length ≤ 70368744177664) fun h6 => .tr a0_0.length <| .tr a0_1.length <| .tr a0_2.length <| .ret (a0_0, a0_1, a0_2)
def f66.o (a0_0 : List S80) (a0_1 : List S80) (a0_2 : List S73) : ((List S80) × (List S80) × (List S73)) → V El × List (O El) := fun r => (.agg [.win 0 true (.l 0) (.d 0 r.1.length), .win 1 true (.l 0) (.d 0 r.2.1.length), .win 2 true (.l 0) (.d 0 r.2.2.length)], [.row true true true 0 2 r.1 none, .row true true true 0 2 r.2.1 none, .row true true true 0 3 r.2.2 none])
def sf66 (k : Nat) : List (V G.El) → List (O G.El) → Q G.El (V G.El × List (O G.El)) := fun as0' os0' => lH as0' fun v0 as1' => lT as1' <| lT os0' <| argA v0 fun b1' => argH b1' fun y2' r2' => argH r2' fun y3' r3' => argH r3' fun y4' r4' => argT r4' <| argL 2 y2' fun a0_0 => argL 2 y3' fun a0_1 => argL 3 y4' fun a0_2 => .call _ (f66 k a0_0 a0_1 a0_2) fun r => .ret (.agg [.win 0 true (.l 0) (.d 0 r.1.length), .win 1 true (.l 0) (.d 0 r.2.1.length), .win 2 true (.l 0) (.d 0 r.2.2.length)], [.row true true true 0 2 r.1 none, .row true true true 0 2 r.2.1 none, .row true true true 0 3 r.2.2 none])
def f65.start (k : Nat) (a0_0 : List S80) (a0_1 : List S80) (a0_2 : List S73) (a1_0 : Int) (a1_1 : ByteArray) (a1_2 : ByteArray) (a1_3 : ByteArray) : PT (Int × (List S80) × (List S80) × (List S73)) Empty := .call _ (f45 k a1_0 a1_1 a1_2 a1_3) fun t1 => .ite (t1 = true) (fun h1 => .call _ (f44 k a0_0 a1_0 a1_1 a1_2 a1_3) fun t2 => .ite (t2.1 = true) (fun h2 => .ite (((a0_2.length : Nat) : Int) = 200) (fun h3 => .th h3 <| .th h3 <| .th h3 <| .call _ (f66 k a0_0 a0_1 a0_2) fun t3 => .tr t3.1.length <| .tr t3.2.1.length <| .tr t3.2.2.length <| .ret (4, t3.1, t3.2.1, t3.2.2)) (fun h3 => .th h3 <| .tr t2.2.length <| .call _ (f43 k t2.2) fun t4 => .th h3 <| .th h3 <| .ite (t4 = true) (fun h4 => .call _ (f66 k a0_0 a0_1 a0_2) fun t5 => .triv (1 = ([(⟨a1_0, a1_1, a1_2, a1_3⟩ : S73)] : List S73).length) tv <| .tr t5.2.2.length <| .need ((t5.2.2.length + 1) * 56 ≤ 70368744177664) fun h5 => .need ((t5.2.2.length + 1) ≤ 70368744177664) fun h6 => .tr t2.2.length <| .tr t5.2.1.length <| .triv ((t5.2.2.length + 1) = (t5.2.2 ++ ([(⟨a1_0, a1_1, a1_2, a1_3⟩ : S73)] : List S73)).length) tv <| .ret (0, t2.2, t5.2.1, (t5.2.2 ++ ([(⟨a1_0, a1_1, a1_2, a1_3⟩ : S73)] : List S73)))) (fun h4 => .call _ (f66 k a0_0 a0_1 a0_2) fun t6 => .tr t6.1.length <| .tr t6.2.1.length <| .tr t6.2.2.length <| .ret (4, t6.1, t6.2.1, t6.2.2)))) (fun h2 => .call _ (f66 k a0_0 a0_1 a0_2) fun t7 => .tr t7.1.length <| .tr t7.2.1.length <| .tr t7.2.2.length <| .ret (3, t7.1, t7.2.1, t7.2.2))) (fun h1 => .call _ (f66 k a0_0 a0_1 a0_2) fun t8 => .tr t8.1.length <| .tr t8.2.1.length <| .tr t8.2.2.length <| .ret (2, t8.1, t8.2.1, t8.2.2))
def f65.o (a0_0 : List S80) (a0_1 : List S80) (a0_2 : List S73) (a1_0 : Int) (a1_1 : ByteArray) (a1_2 : ByteArray) (a1_3 : ByteArray) : (Int × (List S80) × (List S80) × (List S73)) → V El × List (O El) := fun r => (.tup [.agg [.win 0 true (.l 0) (.d 0 r.2.1.length), .win 1 true (.l 0) (.d 0 r.2.2.1.length), .win 2 true (.l 0) (.d 0 r.2.2.2.length)], .id .i64 0 r.1], [.row true true true 0 2 r.2.1 none, .row true true true 0 2 r.2.2.1 none, .row true true true 0 3 r.2.2.2 none])
def sf65 (k : Nat) : List (V G.El) → List (O G.El) → Q G.El (V G.El × List (O G.El)) := fun as0' os0' => lH as0' fun v0 as1' => lH as1' fun v1 as2' => lT as2' <| lT os0' <| argA v0 fun b1' => argH b1' fun y2' r2' => argH r2' fun y3' r3' => argH r3' fun y4' r4' => argT r4' <| argL 2 y2' fun a0_0 => argL 2 y3' fun a0_1 => argL 3 y4' fun a0_2 => argA v1 fun b5' => argH b5' fun y6' r6' => argH r6' fun y7' r7' => argH r7' fun y8' r8' => argH r8' fun y9' r9' => argT r9' <| argI .i64 y6' fun a1_0 => argS y7' fun a1_1 => argS y8' fun a1_2 => argS y9' fun a1_3 => .call _ (f65 k a0_0 a0_1 a0_2 a1_0 a1_1 a1_2 a1_3) fun r => .ret (.tup [.agg [.win 0 true (.l 0) (.d 0 r.2.1.length), .win 1 true (.l 0) (.d 0 r.2.2.1.length), .win 2 true (.l 0) (.d 0 r.2.2.2.length)], .id .i64 0 r.1], [.row true true true 0 2 r.2.1 none, .row true true true 0 2 r.2.2.1 none, .row true true true 0 3 r.2.2.2 none])
def f26.start (k : Nat) (a0_0 : List S80) (a0_1 : List S80) (a0_2 : List S73) (a1_0 : ByteArray) (a2_0 : ByteArray) : PT (Int × (List S80) × (List S80) × (List S73)) Empty := .call _ (f13 k a0_0 a0_1 a0_2) fun t1 => .ite (t1 = true) (fun h1 => .need' (a1_0.size + 4 ≤ 9223372036854775807) (a1_0.size + (⟨#[46, 110, 101, 119]⟩ : ByteArray).size ≤ 9223372036854775807) tv fun h2 => .call _ (f52 k a0_0 (a1_0 ++ (⟨#[46, 110, 101, 119]⟩ : ByteArray))) fun t2 => .ite (0 ≤ t2) (fun h3 => .call _ (f65 k a0_0 a0_1 a0_2 3 (a1_0 ++ (⟨#[46, 110, 101, 119]⟩ : ByteArray)) (⟨#[]⟩ : ByteArray) (⟨#[]⟩ : ByteArray)) fun t3 => .ite (t3.1 = 0) (fun h4 => .tr t3.2.1.length <| .tr t3.2.2.1.length <| .tr t3.2.2.2.length <| .call _ (f65 k t3.2.1 t3.2.2.1 t3.2.2.2 1 (a1_0 ++ (⟨#[46, 110, 101, 119]⟩ : ByteArray)) (⟨#[]⟩ : ByteArray) a2_0) fun t4 => .ite (t4.1 = 0) (fun h5 => .tr t4.2.1.length <| .tr t4.2.2.1.length <| .tr t4.2.2.2.length <| .call _ (f65 k t4.2.1 t4.2.2.1 t4.2.2.2 2 (a1_0 ++ (⟨#[46, 110, 101, 119]⟩ : ByteArray)) a1_0 (⟨#[]⟩ : ByteArray)) fun t5 => .ite (t5.1 = 0) (fun h6 => .tr t5.2.1.length <| .tr t5.2.2.1.length <| .tr t5.2.2.2.length <| .call _ (f66 k t5.2.1 t5.2.2.1 t5.2.2.2) fun t6 => .tr t6.1.length <| .tr t6.2.1.length <| .tr t6.2.2.length <| .ret (0, t6.1, t6.2.1, t6.2.2)) (fun h6 => .call _ (f66 k a0_0 a0_1 a0_2) fun t7 => .tr t7.1.length <| .tr t7.2.1.length <| .tr t7.2.2.length <| .ret (t5.1, t7.1, t7.2.1, t7.2.2))) (fun h5 => .th h5 <| .call _ (f66 k a0_0 a0_1 a0_2) fun t8 => .tr t8.1.length <| .tr t8.2.1.length <| .tr t8.2.2.length <| .ret (t4.1, t8.1, t8.2.1, t8.2.2))) (fun h4 => .th h4 <| .th h4 <| .call _ (f66 k a0_0 a0_1 a0_2) fun t9 => .tr t9.1.length <| .tr t9.2.1.length <| .tr t9.2.2.length <| .ret (t3.1, t9.1, t9.2.1, t9.2.2))) (fun h3 => .call _ (f65 k a0_0 a0_1 a0_2 1 (a1_0 ++ (⟨#[46, 110, 101, 119]⟩ : ByteArray)) (⟨#[]⟩ : ByteArray) a2_0) fun t10 => .ite (t10.1 = 0) (fun h7 => .tr t10.2.1.length <| .tr t10.2.2.1.length <| .tr t10.2.2.2.length <| .call _ (f65 k t10.2.1 t10.2.2.1 t10.2.2.2 2 (a1_0 ++ (⟨#[46, 110, 101, 119]⟩ : ByteArray)) a1_0 (⟨#[]⟩ : ByteArray)) fun t11 => .ite (t11.1 = 0) (fun h8 => .tr t11.2.1.length <| .tr t11.2.2.1.length <| .tr t11.2.2.2.length <| .call _ (f66 k t11.2.1 t11.2.2.1 t11.2.2.2) fun t12 => .tr t12.1.length <| .tr t12.2.1.length <| .tr t12.2.2.length <| .ret (0, t12.1, t12.2.1, t12.2.2)) (fun h8 => .call _ (f66 k a0_0 a0_1 a0_2) fun t13 => .tr t13.1.length <| .tr t13.2.1.length <| .tr t13.2.2.length <| .ret (t11.1, t13.1, t13.2.1, t13.2.2))) (fun h7 => .th h7 <| .call _ (f66 k a0_0 a0_1 a0_2) fun t14 => .tr t14.1.length <| .tr t14.2.1.length <| .tr t14.2.2.length <| .ret (t10.1, t14.1, t14.2.1, t14.2.2)))) (fun h1 => .triv (0 = ([] : List S80).length) tv <| .triv (0 = ([] : List S80).length) tv <| .triv (0 = ([] : List S73).length) tv <| .ret (1, ([] : List S80), ([] : List S80), ([] : List S73)))
def f26.o (a0_0 : List S80) (a0_1 : List S80) (a0_2 : List S73) (a1_0 : ByteArray) (a2_0 : ByteArray) : (Int × (List S80) × (List S80) × (List S73)) → V El × List (O El) := fun r => (.tup [.agg [.win 0 true (.l 0) (.d 0 r.2.1.length), .win 1 true (.l 0) (.d 0 r.2.2.1.length), .win 2 true (.l 0) (.d 0 r.2.2.2.length)], .id .i64 0 r.1], [.row true true true 0 2 r.2.1 none, .row true true true 0 2 r.2.2.1 none, .row true true true 0 3 r.2.2.2 none])
def sf26 (k : Nat) : List (V G.El) → List (O G.El) → Q G.El (V G.El × List (O G.El)) := fun as0' os0' => lH as0' fun v0 as1' => lH as1' fun v1 as2' => lH as2' fun v2 as3' => lT as3' <| lT os0' <| argA v0 fun b1' => argH b1' fun y2' r2' => argH r2' fun y3' r3' => argH r3' fun y4' r4' => argT r4' <| argL 2 y2' fun a0_0 => argL 2 y3' fun a0_1 => argL 3 y4' fun a0_2 => argS v1 fun a1_0 => argS v2 fun a2_0 => .call _ (f26 k a0_0 a0_1 a0_2 a1_0 a2_0) fun r => .ret (.tup [.agg [.win 0 true (.l 0) (.d 0 r.2.1.length), .win 1 true (.l 0) (.d 0 r.2.2.1.length), .win 2 true (.l 0) (.d 0 r.2.2.2.length)], .id .i64 0 r.1], [.row true true true 0 2 r.2.1 none, .row true true true 0 2 r.2.2.1 none, .row true true true 0 3 r.2.2.2 none])
def f28.start (k : Nat) (a0_0 : List S80) (a0_1 : List S80) (a0_2 : List S73) : PT ((List S80) × (List S80) × (List S73)) Empty := .call _ (f13 k a0_0 a0_1 a0_2) fun t1 => .ite (t1 = true) (fun h1 => .triv (0 = ([] : List S80).length) tv <| .need (a0_0.length * 32 ≤ 70368744177664) fun h2 => .need (a0_0.length ≤ 70368744177664) fun h3 => .triv (0 = ([] : List S80).length) tv <| .th h2 <| .th h3 <| .tr a0_0.length <| .tr a0_0.length <| .triv (0 = ([] : List S73).length) tv <| .ret (a0_0, a0_0, ([] : List S73))) (fun h1 => .triv (0 = ([] : List S80).length) tv <| .triv (0 = ([] : List S80).length) tv <| .triv (0 = ([] : List S73).length) tv <| .ret (([] : List S80), ([] : List S80), ([] : List S73)))
def f28.o (a0_0 : List S80) (a0_1 : List S80) (a0_2 : List S73) : ((List S80) × (List S80) × (List S73)) → V El × List (O El) := fun r => (.agg [.win 0 true (.l 0) (.d 0 r.1.length), .win 1 true (.l 0) (.d 0 r.2.1.length), .win 2 true (.l 0) (.d 0 r.2.2.length)], [.row true true true 0 2 r.1 none, .row true true true 0 2 r.2.1 none, .row true true true 0 3 r.2.2 none])
def sf28 (k : Nat) : List (V G.El) → List (O G.El) → Q G.El (V G.El × List (O G.El)) := fun as0' os0' => lH as0' fun v0 as1' => lT as1' <| lT os0' <| argA v0 fun b1' => argH b1' fun y2' r2' => argH r2' fun y3' r3' => argH r3' fun y4' r4' => argT r4' <| argL 2 y2' fun a0_0 => argL 2 y3' fun a0_1 => argL 3 y4' fun a0_2 => .call _ (f28 k a0_0 a0_1 a0_2) fun r => .ret (.agg [.win 0 true (.l 0) (.d 0 r.1.length), .win 1 true (.l 0) (.d 0 r.2.1.length), .win 2 true (.l 0) (.d 0 r.2.2.length)], [.row true true true 0 2 r.1 none, .row true true true 0 2 r.2.1 none, .row true true true 0 3 r.2.2 none])
def f39.start (k : Nat) (a0_0 : List S80) (a0_1 : List S80) (a0_2 : List S73) (a1_0 : Int) (a2_0 : Int) : PT (Int × (List S80) × (List S80) × (List S73)) Empty := .call _ (f13 k a0_0 a0_1 a0_2) fun t1 => .ite (t1 = true) (fun h1 => .call _ (f72 k a0_0 a0_1 a0_2) fun t2 => .ite (t2.2.2.2.1 = true) (fun h2 => .th h2 <| .th h2 <| .th h2 <| .call _ (f58 k a1_0 t2.1 1000000000000) fun t3 => .th h2 <| .th h2 <| .ite (t3 = true) (fun h3 => .th h3 <| .call _ (f58 k a2_0 0 1000000000000) fun t4 => .th h3 <| .th h3 <| .ite (t4 = true) (fun h4 => .th h4 <| .th h4 <| .th h4 <| .th h4 <| .ite (a1_0 = t2.1) (fun h5 => .th h5 <| .th h5 <| .th h4 <| .th h5 <| .th h4 <| .ite (t2.2.1 = 0) (fun h6 => .th h6 <| .th h6 <| .th h6 <| .th h4 <| .th h6 <| .th h4 <| .call _ (f77 k a1_0 a2_0) fun t5 => .call _ (f26 k a0_0 a0_1 a0_2 (⟨#[118, 111, 116, 101]⟩ : ByteArray) t5) fun t6 => .ite (t6.1 = 0) (fun h7 => .tr t6.2.1.length <| .tr t6.2.2.1.length <| .tr t6.2.2.2.length <| .call _ (f28 k t6.2.1 t6.2.2.1 t6.2.2.2) fun t7 => .tr t7.1.length <| .tr t7.2.1.length <| .tr t7.2.2.length <| .ret (0, t7.1, t7.2.1, t7.2.2)) (fun h7 => .tr t6.2.1.length <| .tr t6.2.2.1.length <| .tr t6.2.2.2.length <| .ret (t6.1, t6.2.1, t6.2.2.1, t6.2.2.2))) (fun h6 => .th h6 <| .th h6 <| .th h6 <| .th h4 <| .th h6 <| .th h4 <| .ite (a2_0 = t2.2.1) (fun h8 => .call _ (f77 k a1_0 a2_0) fun t8 => .call _ (f26 k a0_0 a0_1 a0_2 (⟨#[118, 111, 116, 101]⟩ : ByteArray) t8) fun t9 => .ite (t9.1 = 0) (fun h9 => .tr t9.2.1.length <| .tr t9.2.2.1.length <| .tr t9.2.2.2.length <| .call _ (f28 k t9.2.1 t9.2.2.1 t9.2.2.2) fun t10 => .tr t10.1.length <| .tr t10.2.1.length <| .tr t10.2.2.length <| .ret (0, t10.1, t10.2.1, t10.2.2)) (fun h9 => .tr t9.2.1.length <| .tr t9.2.2.1.length <| .tr t9.2.2.2.length <| .ret (t9.1, t9.2.1, t9.2.2.1, t9.2.2.2))) (fun h8 => .call _ (f66 k a0_0 a0_1 a0_2) fun t11 => .tr t11.1.length <| .tr t11.2.1.length <| .tr t11.2.2.length <| .ret (10, t11.1, t11.2.1, t11.2.2)))) (fun h5 => .th h5 <| .th h5 <| .th h4 <| .th h5 <| .th h4 <| .th h4 <| .th h4 <| .call _ (f77 k a1_0 a2_0) fun t12 => .call _ (f26 k a0_0 a0_1 a0_2 (⟨#[118, 111, 116, 101]⟩ : ByteArray) t12) fun t13 => .ite (t13.1 = 0) (fun h10 => .tr t13.2.1.length <| .tr t13.2.2.1.length <| .tr t13.2.2.2.length <| .call _ (f28 k t13.2.1 t13.2.2.1 t13.2.2.2) fun t14 => .tr t14.1.length <| .tr t14.2.1.length <| .tr t14.2.2.length <| .ret (0, t14.1, t14.2.1, t14.2.2)) (fun h10 => .tr t13.2.1.length <| .tr t13.2.2.1.length <| .tr t13.2.2.2.length <| .ret (t13.1, t13.2.1, t13.2.2.1, t13.2.2.2)))) (fun h4 => .th h4 <| .th h4 <| .th h4 <| .th h4 <| .th h4 <| .th h4 <| .th h4 <| .th h4 <| .call _ (f66 k a0_0 a0_1 a0_2) fun t15 => .tr t15.1.length <| .tr t15.2.1.length <| .tr t15.2.2.length <| .ret (10, t15.1, t15.2.1, t15.2.2))) (fun h3 => .th h3 <| .th h3 <| .th h3 <| .call _ (f66 k a0_0 a0_1 a0_2) fun t16 => .tr t16.1.length <| .tr t16.2.1.length <| .tr t16.2.2.length <| .ret (10, t16.1, t16.2.1, t16.2.2))) (fun h2 => .th h2 <| .th h2 <| .th h2 <| .th h2 <| .th h2 <| .call _ (f66 k a0_0 a0_1 a0_2) fun t17 => .tr t17.1.length <| .tr t17.2.1.length <| .tr t17.2.2.length <| .ret (10, t17.1, t17.2.1, t17.2.2))) (fun h1 => .triv (0 = ([] : List S80).length) tv <| .triv (0 = ([] : List S80).length) tv <| .triv (0 = ([] : List S73).length) tv <| .ret (1, ([] : List S80), ([] : List S80), ([] : List S73)))
def f39.o (a0_0 : List S80) (a0_1 : List S80) (a0_2 : List S73) (a1_0 : Int) (a2_0 : Int) : (Int × (List S80) × (List S80) × (List S73)) → V El × List (O El) := fun r => (.tup [.agg [.win 0 true (.l 0) (.d 0 r.2.1.length), .win 1 true (.l 0) (.d 0 r.2.2.1.length), .win 2 true (.l 0) (.d 0 r.2.2.2.length)], .id .i64 0 r.1], [.row true true true 0 2 r.2.1 none, .row true true true 0 2 r.2.2.1 none, .row true true true 0 3 r.2.2.2 none])
def sf39 (k : Nat) : List (V G.El) → List (O G.El) → Q G.El (V G.El × List (O G.El)) := fun as0' os0' => lH as0' fun v0 as1' => lH as1' fun v1 as2' => lH as2' fun v2 as3' => lT as3' <| lT os0' <| argA v0 fun b1' => argH b1' fun y2' r2' => argH r2' fun y3' r3' => argH r3' fun y4' r4' => argT r4' <| argL 2 y2' fun a0_0 => argL 2 y3' fun a0_1 => argL 3 y4' fun a0_2 => argI .i64 v1 fun a1_0 => argI .i64 v2 fun a2_0 => .call _ (f39 k a0_0 a0_1 a0_2 a1_0 a2_0) fun r => .ret (.tup [.agg [.win 0 true (.l 0) (.d 0 r.2.1.length), .win 1 true (.l 0) (.d 0 r.2.2.1.length), .win 2 true (.l 0) (.d 0 r.2.2.2.length)], .id .i64 0 r.1], [.row true true true 0 2 r.2.1 none, .row true true true 0 2 r.2.2.1 none, .row true true true 0 3 r.2.2.2 none])
def f79.start (k : Nat) (a0_0 : List S80) (a0_1 : List S80) (a0_2 : List S73) : PT ((List S80) × (List S80) × (List S73)) Empty := .call _ (f59 k a0_0) fun t1 => .call _ (f59 k a0_1) fun t2 => .triv (0 = ([] : List S73).length) tv <| .need (a0_2.length * 56 ≤ 70368744177664) fun h1 => .need (a0_2.length ≤ 70368744177664) fun h2 => .tr t1.length <| .tr t2.length <| .tr a0_2.length <| .ret (t1, t2, a0_2)
def f79.o (a0_0 : List S80) (a0_1 : List S80) (a0_2 : List S73) : ((List S80) × (List S80) × (List S73)) → V El × List (O El) := fun r => (.agg [.win 0 true (.l 0) (.d 0 r.1.length), .win 1 true (.l 0) (.d 0 r.2.1.length), .win 2 true (.l 0) (.d 0 r.2.2.length)], [.row true true true 0 2 r.1 none, .row true true true 0 2 r.2.1 none, .row true true true 0 3 r.2.2 none])
def sf79 (k : Nat) : List (V G.El) → List (O G.El) → Q G.El (V G.El × List (O G.El)) := fun as0' os0' => lH as0' fun v0 as1' => lT as1' <| lT os0' <| argA v0 fun b1' => argH b1' fun y2' r2' => argH r2' fun y3' r3' => argH r3' fun y4' r4' => argT r4' <| argL 2 y2' fun a0_0 => argL 2 y3' fun a0_1 => argL 3 y4' fun a0_2 => .call _ (f79 k a0_0 a0_1 a0_2) fun r => .ret (.agg [.win 0 true (.l 0) (.d 0 r.1.length), .win 1 true (.l 0) (.d 0 r.2.1.length), .win 2 true (.l 0) (.d 0 r.2.2.length)], [.row true true true 0 2 r.1 none, .row true true true 0 2 r.2.1 none, .row true true true 0 3 r.2.2 none])
inductive f81.L where
  | l2 (q0 : List Int) (x0 : Int)
def f81.st : f81.L → Nat × S El
  | .l2 q0 x0 => (2, ⟨22, .dead, [(0, .id .i64 1 x0), (3, .win 0 true (.l 0) (.d 0 q0.length))], [(0, .row true true true 0 6 q0 none)], 1, 0⟩)
def f81.hint : f81.L → H
  | .l2 .. => .all
def f81.blk (k : Nat) : f81.L → PT (ByteArray) f81.L
  | .l2 q0 x0 => .ite (128 ≤ x0) (fun h1 => .triv (1 = ([(IntKind.u8.wrap (IntKind.i64.wrap ((x0.tmod 128) + 128)))] : List Int).length) tv <| .tr q0.length <| .need ((q0.length + 1) * 1 ≤ 70368744177664) fun h2 => .need ((q0.length + 1) ≤ 70368744177664) fun h3 => .triv ((q0.length + 1) = (q0 ++ ([(IntKind.u8.wrap (IntKind.i64.wrap ((x0.tmod 128) + 128)))] : List Int)).length) tv <| .jump (.l2 (q0 ++ ([(IntKind.u8.wrap (IntKind.i64.wrap ((x0.tmod 128) + 128)))] : List Int)) (IntKind.i64.wrap (x0.tdiv 128)))) (fun h1 => .triv (1 = ([(IntKind.u8.wrap x0)] : List Int).length) tv <| .tr q0.length <| .need ((q0.length + 1) * 1 ≤ 70368744177664) fun h4 => .need ((q0.length + 1) ≤ 70368744177664) fun h5 => .triv ((q0.length + 1) = (q0 ++ ([(IntKind.u8.wrap x0)] : List Int)).length) tv <| .ret (strOf (q0 ++ ([(IntKind.u8.wrap x0)] : List Int))))
def f81.D (k : Nat) : f81.L → Option (ByteArray)
  | .l2 q0 x0 => f81.l2 k q0 x0
def f81.start (k : Nat) (a0_0 : Int) : PT (ByteArray) f81.L := .triv (0 = ([] : List Int).length) tv <| .jump (.l2 ([] : List Int) a0_0)
def f81.o (a0_0 : Int) : (ByteArray) → V El × List (O El) := fun r => (.s r, [])
def sf81 (k : Nat) : List (V G.El) → List (O G.El) → Q G.El (V G.El × List (O G.El)) := fun as0' os0' => lH as0' fun v0 as1' => lT as1' <| lT os0' <| argI .i64 v0 fun a0_0 => .call _ (f81 k a0_0) fun r => .ret (.s r, [])
def f115.start (k : Nat) (a2_0 : Int) (o0 : List Int) : PT ((List Int)) Empty := .triv (4 = ([(IntKind.u8.wrap a2_0), (IntKind.u8.wrap (shrI .u32 a2_0 8)), (IntKind.u8.wrap (shrI .u32 a2_0 16)), (IntKind.u8.wrap (shrI .u32 a2_0 24))] : List Int).length) tv <| .tr o0.length <| .need ((o0.length + 4) * 1 ≤ 70368744177664) fun h1 => .need ((o0.length + 4) ≤ 70368744177664) fun h2 => .triv ((o0.length + 4) = (o0 ++ ([(IntKind.u8.wrap a2_0), (IntKind.u8.wrap (shrI .u32 a2_0 8)), (IntKind.u8.wrap (shrI .u32 a2_0 16)), (IntKind.u8.wrap (shrI .u32 a2_0 24))] : List Int)).length) tv <| .ret (o0 ++ ([(IntKind.u8.wrap a2_0), (IntKind.u8.wrap (shrI .u32 a2_0 8)), (IntKind.u8.wrap (shrI .u32 a2_0 16)), (IntKind.u8.wrap (shrI .u32 a2_0 24))] : List Int))
def f115.o (a2_0 : Int) (o0 : List Int) : ((List Int)) → V El × List (O El) := fun r => (.win 1 true (.l 0) (.d 0 r.length), [.row false true true 0 6 o0 none, .row true true true 0 6 r none])
def sf115 (k : Nat) : List (V G.El) → List (O G.El) → Q G.El (V G.El × List (O G.El)) := fun as0' os0' => lH as0' fun v0 as1' => lH as1' fun v1 as2' => lH as2' fun v2 as3' => lT as3' <| lH os0' fun x0 os1' => lT os1' <| argR 6 x0 fun o0 => argA v0 fun b1' => argT b1' <| argW 0 o0.length v1 <| argI .u32 v2 fun a2_0 => .call _ (f115 k a2_0 o0) fun r => .ret (.win 1 true (.l 0) (.d 0 r.length), [.row false true true 0 6 o0 none, .row true true true 0 6 r none])
def f80.start (k : Nat) (a0_0 : Int) (a0_1 : ByteArray) : PT (ByteArray) Empty := .call _ (f60 k a0_0 1 100) fun t1 => .ite (t1 = true) (fun h1 => .th h1 <| .th h1 <| .th h1 <| .th h1 <| .ite (20000 < ((a0_1.size : Nat) : Int)) (fun h2 => .ret (⟨#[]⟩ : ByteArray)) (fun h2 => .triv (1 = ([(IntKind.u8.wrap a0_0)] : List Int).length) tv <| .call _ (f115 k (IntKind.u32.wrap ((a0_1.size : Nat) : Int)) ([(IntKind.u8.wrap a0_0)] : List Int)) fun t2 => .tr t2.length <| .need' ((t2.length + (bytesL a0_1).length) * 1 ≤ 70368744177664) ((t2.length + a0_1.size) * 1 ≤ 70368744177664) tv fun h3 => .need' ((t2.length + (bytesL a0_1).length) ≤ 70368744177664) ((t2.length + a0_1.size) ≤ 70368744177664) tv fun h4 => .triv ((t2.length + a0_1.size) = (t2 ++ (bytesL a0_1)).length) tv <| .call _ (f116 k (strOf (t2 ++ (bytesL a0_1)))) fun t3 => .triv ((t2.length + a0_1.size) = (t2 ++ (bytesL a0_1)).length) tv <| .call _ (f115 k t3 (t2 ++ (bytesL a0_1))) fun t4 => .tr t4.length <| .ret (strOf t4))) (fun h1 => .th h1 <| .th h1 <| .th h1 <| .th h1 <| .ret (⟨#[]⟩ : ByteArray))
def f80.o (a0_0 : Int) (a0_1 : ByteArray) : (ByteArray) → V El × List (O El) := fun r => (.s r, [])
def sf80 (k : Nat) : List (V G.El) → List (O G.El) → Q G.El (V G.El × List (O G.El)) := fun as0' os0' => lH as0' fun v0 as1' => lT as1' <| lT os0' <| argA v0 fun b1' => argH b1' fun y2' r2' => argH r2' fun y3' r3' => argT r3' <| argI .i64 y2' fun a0_0 => argS y3' fun a0_1 => .call _ (f80 k a0_0 a0_1) fun r => .ret (.s r, [])
def sf103 (k : Nat) : List (V G.El) → List (O G.El) → Q G.El (V G.El × List (O G.El)) := fun as0' os0' => lH as0' fun v0 as1' => lH as1' fun v1 as2' => lH as2' fun v2 as3' => lT as3' <| lH os0' fun x0 os1' => lH os1' fun x1 os2' => lT os2' <| argR 3 x0 fun o0 => argR 3 x1 fun o1 => argW 0 o0.length v0 <| argI .i64 v1 fun a1_0 => argW 1 o1.length v2 <| .call _ (f103 k a1_0 o0 o1) fun r => .ret (.win 2 true (.l 0) (.d 0 r.length), [.row false true true 0 3 o0 none, .row true true true 0 3 o1 none, .row true true true 0 3 r none])
def f104.start (k : Nat) (a0_0 : List S80) (a0_1 : List S80) (a0_2 : List S73) (a1_0 : Int) (a1_1 : ByteArray) (a1_2 : ByteArray) (a1_3 : ByteArray) : PT (Int × (List S80) × (List S80) × (List S73)) Empty := .call _ (f89 k a1_0 a1_1 a1_2 a1_3) fun t1 => .ite (t1 = true) (fun h1 => .call _ (f61 k a1_0 a1_1 a1_2 a1_3 a0_0) fun t2 => .either _ _ t2 (fun t2 => .ite (((a0_2.length : Nat) : Int) = 200) (fun h2 => .th h2 <| .th h2 <| .th h2 <| .call _ (f79 k a0_0 a0_1 a0_2) fun t3 => .tr t3.1.length <| .tr t3.2.1.length <| .tr t3.2.2.length <| .ret (4, t3.1, t3.2.1, t3.2.2)) (fun h2 => .th h2 <| .tr t2.length <| .call _ (f62 k t2) fun t4 => .th h2 <| .th h2 <| .ite (t4 = true) (fun h3 => .call _ (f79 k a0_0 a0_1 a0_2) fun t5 => .tr t2.length <| .call _ (f59 k t2) fun t6 => .triv (1 = ([(⟨a1_0, a1_1, a1_2, a1_3⟩ : S73)] : List S73).length) tv <| .tr t5.2.2.length <| .need ((t5.2.2.length + 1) * 56 ≤ 70368744177664) fun h4 => .need ((t5.2.2.length + 1) ≤ 70368744177664) fun h5 => .tr t6.length <| .tr t5.2.1.length <| .triv ((t5.2.2.length + 1) = (t5.2.2 ++ ([(⟨a1_0, a1_1, a1_2, a1_3⟩ : S73)] : List S73)).length) tv <| .ret (0, t6, t5.2.1, (t5.2.2 ++ ([(⟨a1_0, a1_1, a1_2, a1_3⟩ : S73)] : List S73)))) (fun h3 => .call _ (f79 k a0_0 a0_1 a0_2) fun t7 => .tr t7.1.length <| .tr t7.2.1.length <| .tr t7.2.2.length <| .ret (4, t7.1, t7.2.1, t7.2.2)))) (fun t2 => .call _ (f79 k a0_0 a0_1 a0_2) fun t8 => .tr t8.1.length <| .tr t8.2.1.length <| .tr t8.2.2.length <| .ret (3, t8.1, t8.2.1, t8.2.2))) (fun h1 => .call _ (f79 k a0_0 a0_1 a0_2) fun t9 => .tr t9.1.length <| .tr t9.2.1.length <| .tr t9.2.2.length <| .ret (2, t9.1, t9.2.1, t9.2.2))
def f104.o (a0_0 : List S80) (a0_1 : List S80) (a0_2 : List S73) (a1_0 : Int) (a1_1 : ByteArray) (a1_2 : ByteArray) (a1_3 : ByteArray) : (Int × (List S80) × (List S80) × (List S73)) → V El × List (O El) := fun r => (.tup [.agg [.win 0 true (.l 0) (.d 0 r.2.1.length), .win 1 true (.l 0) (.d 0 r.2.2.1.length), .win 2 true (.l 0) (.d 0 r.2.2.2.length)], .id .i64 0 r.1], [.row true true true 0 2 r.2.1 none, .row true true true 0 2 r.2.2.1 none, .row true true true 0 3 r.2.2.2 none])
def sf104 (k : Nat) : List (V G.El) → List (O G.El) → Q G.El (V G.El × List (O G.El)) := fun as0' os0' => lH as0' fun v0 as1' => lH as1' fun v1 as2' => lT as2' <| lT os0' <| argA v0 fun b1' => argH b1' fun y2' r2' => argH r2' fun y3' r3' => argH r3' fun y4' r4' => argT r4' <| argL 2 y2' fun a0_0 => argL 2 y3' fun a0_1 => argL 3 y4' fun a0_2 => argA v1 fun b5' => argH b5' fun y6' r6' => argH r6' fun y7' r7' => argH r7' fun y8' r8' => argH r8' fun y9' r9' => argT r9' <| argI .i64 y6' fun a1_0 => argS y7' fun a1_1 => argS y8' fun a1_2 => argS y9' fun a1_3 => .call _ (f104 k a0_0 a0_1 a0_2 a1_0 a1_1 a1_2 a1_3) fun r => .ret (.tup [.agg [.win 0 true (.l 0) (.d 0 r.2.1.length), .win 1 true (.l 0) (.d 0 r.2.2.1.length), .win 2 true (.l 0) (.d 0 r.2.2.2.length)], .id .i64 0 r.1], [.row true true true 0 2 r.2.1 none, .row true true true 0 2 r.2.2.1 none, .row true true true 0 3 r.2.2.2 none])
inductive f67.L where
  | l9 (q3 : List S73) (q4 : List S80) (q5 : List S80) (q6 : List S73) (x41 : Int) (x42 : Int) (b0_0 : List S80) (b0_1 : List S80) (b0_2 : List S73)
def f67.st : f67.L → Nat × S El
  | .l9 q3 q4 q5 q6 x41 x42 b0_0 b0_1 b0_2 => (9, ⟨60, .dead, [(3, .ptr 0 (.l 0) 0), (6, .ptr 1 (.l 0) 0), (10, .ptr 2 (.l 0) 0), (40, .win 3 true (.l 0) (.d 0 q3.length)), (41, .id .i64 42 x41), (42, .id .i64 43 x42)], [(0, .box true true 0 3 true [.sl 2 b0_0 [], .sl 2 b0_1 [], .sl 3 b0_2 []]), (1, .box true true 0 3 true [.nil, .nil, .nil]), (2, .box true true 0 3 true [.win 4 true (.l 0) (.d 0 q4.length), .win 5 true (.l 0) (.d 0 q5.length), .win 6 true (.l 0) (.d 0 q6.length)]), (3, .row true true true 0 3 q3 none), (4, .row true true true 0 2 q4 none), (5, .row true true true 0 2 q5 none), (6, .row true true true 0 3 q6 none)], 7, 0⟩)
def f67.hint : f67.L → H
  | .l9 .. => .all
def f67.blk (k : Nat) : f67.L → PT (Int × (List S80) × (List S80) × (List S73)) f67.L
  | .l9 q3 q4 q5 q6 x41 x42 b0_0 b0_1 b0_2 => .ite (x42 < x41) (fun h4 => .need (0 ≤ x42) fun h5 => .need (x42 < ((q3.length : Nat) : Int)) fun h6 => .triv (x42.toNat < q3.length) tv <| .tr q4.length <| .tr q5.length <| .tr q6.length <| .call _ (f104 k q4 q5 q6 ((at' q3 x42).f0) ((at' q3 x42).f1) ((at' q3 x42).f2) ((at' q3 x42).f3)) fun t5 => .ite (t5.1 = 0) (fun h7 => .tr q3.length <| .tr t5.2.1.length <| .tr t5.2.2.1.length <| .tr t5.2.2.2.length <| .jump (.l9 q3 t5.2.1 t5.2.2.1 t5.2.2.2 x41 (IntKind.i64.wrap (x42 + 1)) b0_0 b0_1 b0_2)) (fun h7 => .call _ (f79 k b0_0 b0_1 b0_2) fun t6 => .tr t6.1.length <| .tr t6.2.1.length <| .tr t6.2.2.length <| .ret (t5.1, t6.1, t6.2.1, t6.2.2))) (fun h4 => .tr q4.length <| .tr q5.length <| .tr q6.length <| .ret (0, q4, q5, q6))
def f67.D (k : Nat) : f67.L → Option (Int × (List S80) × (List S80) × (List S73))
  | .l9 q3 q4 q5 q6 x41 x42 b0_0 b0_1 b0_2 => f67.l9 k q3 q4 q5 q6 x41 x42 b0_0 b0_1 b0_2
def f67.start (k : Nat) (a0_0 : List S80) (a0_1 : List S80) (a0_2 : List S73) (a1_0 : ByteArray) (a2_0 : ByteArray) : PT (Int × (List S80) × (List S80) × (List S73)) f67.L := .call _ (f49 k a0_0 a0_1 a0_2) fun t1 => .ite (t1 = true) (fun h1 => .need' (a1_0.size + 4 ≤ 9223372036854775807) (a1_0.size + (⟨#[46, 110, 101, 119]⟩ : ByteArray).size ≤ 9223372036854775807) tv fun h2 => .call _ (f53 k a0_0 (a1_0 ++ (⟨#[46, 110, 101, 119]⟩ : ByteArray))) fun t2 => .ite (0 ≤ t2) (fun h3 => .triv (2 = ([(⟨1, (a1_0 ++ (⟨#[46, 110, 101, 119]⟩ : ByteArray)), (⟨#[]⟩ : ByteArray), a2_0⟩ : S73), (⟨2, (a1_0 ++ (⟨#[46, 110, 101, 119]⟩ : ByteArray)), a1_0, (⟨#[]⟩ : ByteArray)⟩ : S73)] : List S73).length) tv <| .triv (1 = ([(⟨3, (a1_0 ++ (⟨#[46, 110, 101, 119]⟩ : ByteArray)), (⟨#[]⟩ : ByteArray), (⟨#[]⟩ : ByteArray)⟩ : S73)] : List S73).length) tv <| .call _ (f103 k 0 ([(⟨1, (a1_0 ++ (⟨#[46, 110, 101, 119]⟩ : ByteArray)), (⟨#[]⟩ : ByteArray), a2_0⟩ : S73), (⟨2, (a1_0 ++ (⟨#[46, 110, 101, 119]⟩ : ByteArray)), a1_0, (⟨#[]⟩ : ByteArray)⟩ : S73)] : List S73) ([(⟨3, (a1_0 ++ (⟨#[46, 110, 101, 119]⟩ : ByteArray)), (⟨#[]⟩ : ByteArray), (⟨#[]⟩ : ByteArray)⟩ : S73)] : List S73)) fun t3 => .call _ (f79 k a0_0 a0_1 a0_2) fun t4 => .tr t3.length <| .tr t4.1.length <| .tr t4.2.1.length <| .tr t4.2.2.length <| .jump (.l9 t3 t4.1 t4.2.1 t4.2.2 ((t3.length : Nat) : Int) 0 a0_0 a0_1 a0_2)) (fun h3 => .call _ (f79 k a0_0 a0_1 a0_2) fun t7 => .triv (2 = ([(⟨1, (a1_0 ++ (⟨#[46, 110, 101, 119]⟩ : ByteArray)), (⟨#[]⟩ : ByteArray), a2_0⟩ : S73), (⟨2, (a1_0 ++ (⟨#[46, 110, 101, 119]⟩ : ByteArray)), a1_0, (⟨#[]⟩ : ByteArray)⟩ : S73)] : List S73).length) tv <| .tr t7.1.length <| .tr t7.2.1.length <| .tr t7.2.2.length <| .jump (.l9 ([(⟨1, (a1_0 ++ (⟨#[46, 110, 101, 119]⟩ : ByteArray)), (⟨#[]⟩ : ByteArray), a2_0⟩ : S73), (⟨2, (a1_0 ++ (⟨#[46, 110, 101, 119]⟩ : ByteArray)), a1_0, (⟨#[]⟩ : ByteArray)⟩ : S73)] : List S73) t7.1 t7.2.1 t7.2.2 2 0 a0_0 a0_1 a0_2))) (fun h1 => .triv (0 = ([] : List S80).length) tv <| .triv (0 = ([] : List S80).length) tv <| .triv (0 = ([] : List S73).length) tv <| .ret (1, ([] : List S80), ([] : List S80), ([] : List S73)))
def f67.o (a0_0 : List S80) (a0_1 : List S80) (a0_2 : List S73) (a1_0 : ByteArray) (a2_0 : ByteArray) : (Int × (List S80) × (List S80) × (List S73)) → V El × List (O El) := fun r => (.tup [.agg [.win 0 true (.l 0) (.d 0 r.2.1.length), .win 1 true (.l 0) (.d 0 r.2.2.1.length), .win 2 true (.l 0) (.d 0 r.2.2.2.length)], .id .i64 0 r.1], [.row true true true 0 2 r.2.1 none, .row true true true 0 2 r.2.2.1 none, .row true true true 0 3 r.2.2.2 none])
def sf67 (k : Nat) : List (V G.El) → List (O G.El) → Q G.El (V G.El × List (O G.El)) := fun as0' os0' => lH as0' fun v0 as1' => lH as1' fun v1 as2' => lH as2' fun v2 as3' => lT as3' <| lT os0' <| argA v0 fun b1' => argH b1' fun y2' r2' => argH r2' fun y3' r3' => argH r3' fun y4' r4' => argT r4' <| argL 2 y2' fun a0_0 => argL 2 y3' fun a0_1 => argL 3 y4' fun a0_2 => argS v1 fun a1_0 => argS v2 fun a2_0 => .call _ (f67 k a0_0 a0_1 a0_2 a1_0 a2_0) fun r => .ret (.tup [.agg [.win 0 true (.l 0) (.d 0 r.2.1.length), .win 1 true (.l 0) (.d 0 r.2.2.1.length), .win 2 true (.l 0) (.d 0 r.2.2.2.length)], .id .i64 0 r.1], [.row true true true 0 2 r.2.1 none, .row true true true 0 2 r.2.2.1 none, .row true true true 0 3 r.2.2.2 none])
def f24.start (k : Nat) (a0_0 : List S80) (a0_1 : List S80) (a0_2 : List S73) : PT ((List S80) × (List S80) × (List S73)) Empty := .call _ (f49 k a0_0 a0_1 a0_2) fun t1 => .ite (t1 = true) (fun h1 => .callh _ (f59 k a0_0) fun t2 ht2 => .recall _ (f59 k a0_0) t2 ht2 <| .tr t2.length <| .tr t2.length <| .triv (0 = ([] : List S73).length) tv <| .ret (t2, t2, ([] : List S73))) (fun h1 => .triv (0 = ([] : List S80).length) tv <| .triv (0 = ([] : List S80).length) tv <| .triv (0 = ([] : List S73).length) tv <| .ret (([] : List S80), ([] : List S80), ([] : List S73)))
def f24.o (a0_0 : List S80) (a0_1 : List S80) (a0_2 : List S73) : ((List S80) × (List S80) × (List S73)) → V El × List (O El) := fun r => (.agg [.win 0 true (.l 0) (.d 0 r.1.length), .win 1 true (.l 0) (.d 0 r.2.1.length), .win 2 true (.l 0) (.d 0 r.2.2.length)], [.row true true true 0 2 r.1 none, .row true true true 0 2 r.2.1 none, .row true true true 0 3 r.2.2 none])
def sf24 (k : Nat) : List (V G.El) → List (O G.El) → Q G.El (V G.El × List (O G.El)) := fun as0' os0' => lH as0' fun v0 as1' => lT as1' <| lT os0' <| argA v0 fun b1' => argH b1' fun y2' r2' => argH r2' fun y3' r3' => argH r3' fun y4' r4' => argT r4' <| argL 2 y2' fun a0_0 => argL 2 y3' fun a0_1 => argL 3 y4' fun a0_2 => .call _ (f24 k a0_0 a0_1 a0_2) fun r => .ret (.agg [.win 0 true (.l 0) (.d 0 r.1.length), .win 1 true (.l 0) (.d 0 r.2.1.length), .win 2 true (.l 0) (.d 0 r.2.2.length)], [.row true true true 0 2 r.1 none, .row true true true 0 2 r.2.1 none, .row true true true 0 3 r.2.2 none])
def f40.start (k : Nat) (a0_0 : List S80) (a0_1 : List S80) (a0_2 : List S73) (a1_0 : Int) (a2_0 : Int) : PT (Int × (List S80) × (List S80) × (List S73)) Empty := .call _ (f49 k a0_0 a0_1 a0_2) fun t1 => .ite (t1 = true) (fun h1 => .call _ (f73 k a0_0 a0_1 a0_2) fun t2 => .ite (t2.2.2.1 = true) (fun h2 => .th h2 <| .call _ (f78 k a1_0) fun t3 => .th h2 <| .th h2 <| .ite (t3 = true) (fun h3 => .th h3 <| .call _ (f78 k a2_0) fun t4 => .th h3 <| .th h3 <| .ite (t4 = true) (fun h4 => .th h4 <| .th h4 <| .th h4 <| .th h4 <| .ite (a1_0 < t2.1) (fun h5 => .th h5 <| .th h5 <| .th h5 <| .th h5 <| .th h5 <| .th h5 <| .th h5 <| .th h5 <| .call _ (f79 k a0_0 a0_1 a0_2) fun t5 => .tr t5.1.length <| .tr t5.2.1.length <| .tr t5.2.2.length <| .ret (10, t5.1, t5.2.1, t5.2.2)) (fun h5 => .th h5 <| .th h5 <| .th h5 <| .th h5 <| .ite (t2.1 = a1_0) (fun h6 => .th h6 <| .th h6 <| .th h5 <| .th h6 <| .th h5 <| .ite (t2.2.1 = 0) (fun h7 => .th h7 <| .th h7 <| .th h7 <| .th h5 <| .th h7 <| .th h5 <| .call _ (f81 k a1_0) fun t6 => .call _ (f81 k a2_0) fun t7 => .need (t6.size + t7.size ≤ 9223372036854775807) fun h8 => .call _ (f80 k 1 (t6 ++ t7)) fun t8 => .call _ (f67 k a0_0 a0_1 a0_2 (⟨#[118, 111, 116, 101]⟩ : ByteArray) t8) fun t9 => .ite (t9.1 = 0) (fun h9 => .tr t9.2.1.length <| .tr t9.2.2.1.length <| .tr t9.2.2.2.length <| .call _ (f24 k t9.2.1 t9.2.2.1 t9.2.2.2) fun t10 => .tr t10.1.length <| .tr t10.2.1.length <| .tr t10.2.2.length <| .ret (0, t10.1, t10.2.1, t10.2.2)) (fun h9 => .call _ (f79 k a0_0 a0_1 a0_2) fun t11 => .tr t11.1.length <| .tr t11.2.1.length <| .tr t11.2.2.length <| .ret (t9.1, t11.1, t11.2.1, t11.2.2))) (fun h7 => .th h7 <| .th h7 <| .th h7 <| .th h5 <| .th h7 <| .th h5 <| .ite (t2.2.1 = a2_0) (fun h10 => .call _ (f81 k a1_0) fun t12 => .call _ (f81 k a2_0) fun t13 => .need (t12.size + t13.size ≤ 9223372036854775807) fun h11 => .call _ (f80 k 1 (t12 ++ t13)) fun t14 => .call _ (f67 k a0_0 a0_1 a0_2 (⟨#[118, 111, 116, 101]⟩ : ByteArray) t14) fun t15 => .ite (t15.1 = 0) (fun h12 => .tr t15.2.1.length <| .tr t15.2.2.1.length <| .tr t15.2.2.2.length <| .call _ (f24 k t15.2.1 t15.2.2.1 t15.2.2.2) fun t16 => .tr t16.1.length <| .tr t16.2.1.length <| .tr t16.2.2.length <| .ret (0, t16.1, t16.2.1, t16.2.2)) (fun h12 => .call _ (f79 k a0_0 a0_1 a0_2) fun t17 => .tr t17.1.length <| .tr t17.2.1.length <| .tr t17.2.2.length <| .ret (t15.1, t17.1, t17.2.1, t17.2.2))) (fun h10 => .call _ (f79 k a0_0 a0_1 a0_2) fun t18 => .tr t18.1.length <| .tr t18.2.1.length <| .tr t18.2.2.length <| .ret (10, t18.1, t18.2.1, t18.2.2)))) (fun h6 => .th h6 <| .th h6 <| .th h5 <| .th h6 <| .th h5 <| .th h5 <| .th h5 <| .call _ (f81 k a1_0) fun t19 => .call _ (f81 k a2_0) fun t20 => .need (t19.size + t20.size ≤ 9223372036854775807) fun h13 => .call _ (f80 k 1 (t19 ++ t20)) fun t21 => .call _ (f67 k a0_0 a0_1 a0_2 (⟨#[118, 111, 116, 101]⟩ : ByteArray) t21) fun t22 => .ite (t22.1 = 0) (fun h14 => .tr t22.2.1.length <| .tr t22.2.2.1.length <| .tr t22.2.2.2.length <| .call _ (f24 k t22.2.1 t22.2.2.1 t22.2.2.2) fun t23 => .tr t23.1.length <| .tr t23.2.1.length <| .tr t23.2.2.length <| .ret (0, t23.1, t23.2.1, t23.2.2)) (fun h14 => .call _ (f79 k a0_0 a0_1 a0_2) fun t24 => .tr t24.1.length <| .tr t24.2.1.length <| .tr t24.2.2.length <| .ret (t22.1, t24.1, t24.2.1, t24.2.2))))) (fun h4 => .th h4 <| .th h4 <| .th h4 <| .th h4 <| .call _ (f79 k a0_0 a0_1 a0_2) fun t25 => .tr t25.1.length <| .tr t25.2.1.length <| .tr t25.2.2.length <| .ret (10, t25.1, t25.2.1, t25.2.2))) (fun h3 => .th h3 <| .th h3 <| .th h3 <| .call _ (f79 k a0_0 a0_1 a0_2) fun t26 => .tr t26.1.length <| .tr t26.2.1.length <| .tr t26.2.2.length <| .ret (10, t26.1, t26.2.1, t26.2.2))) (fun h2 => .th h2 <| .th h2 <| .th h2 <| .call _ (f79 k a0_0 a0_1 a0_2) fun t27 => .tr t27.1.length <| .tr t27.2.1.length <| .tr t27.2.2.length <| .ret (10, t27.1, t27.2.1, t27.2.2))) (fun h1 => .triv (0 = ([] : List S80).length) tv <| .triv (0 = ([] : List S80).length) tv <| .triv (0 = ([] : List S73).length) tv <| .ret (1, ([] : List S80), ([] : List S80), ([] : List S73)))
def f40.o (a0_0 : List S80) (a0_1 : List S80) (a0_2 : List S73) (a1_0 : Int) (a2_0 : Int) : (Int × (List S80) × (List S80) × (List S73)) → V El × List (O El) := fun r => (.tup [.agg [.win 0 true (.l 0) (.d 0 r.2.1.length), .win 1 true (.l 0) (.d 0 r.2.2.1.length), .win 2 true (.l 0) (.d 0 r.2.2.2.length)], .id .i64 0 r.1], [.row true true true 0 2 r.2.1 none, .row true true true 0 2 r.2.2.1 none, .row true true true 0 3 r.2.2.2 none])
def sf40 (k : Nat) : List (V G.El) → List (O G.El) → Q G.El (V G.El × List (O G.El)) := fun as0' os0' => lH as0' fun v0 as1' => lH as1' fun v1 as2' => lH as2' fun v2 as3' => lT as3' <| lT os0' <| argA v0 fun b1' => argH b1' fun y2' r2' => argH r2' fun y3' r3' => argH r3' fun y4' r4' => argT r4' <| argL 2 y2' fun a0_0 => argL 2 y3' fun a0_1 => argL 3 y4' fun a0_2 => argI .i64 v1 fun a1_0 => argI .i64 v2 fun a2_0 => .call _ (f40 k a0_0 a0_1 a0_2 a1_0 a2_0) fun r => .ret (.tup [.agg [.win 0 true (.l 0) (.d 0 r.2.1.length), .win 1 true (.l 0) (.d 0 r.2.2.1.length), .win 2 true (.l 0) (.d 0 r.2.2.2.length)], .id .i64 0 r.1], [.row true true true 0 2 r.2.1 none, .row true true true 0 2 r.2.2.1 none, .row true true true 0 3 r.2.2.2 none])
inductive f70.L where
  | l2 (x0 : List S80) (x1 : Int) (x5 : Int)
def f70.st : f70.L → Nat × S El
  | .l2 x0 x1 x5 => (2, ⟨33, .dead, [(0, .sl 2 x0 []), (1, .id .i64 2 x1), (5, .id .i64 6 x5)], [], 0, 0⟩)
def f70.hint : f70.L → H
  | .l2 .. => .all
def f70.blk (k : Nat) : f70.L → PT (Int) f70.L
  | .l2 x0 x1 x5 => .ite (x5 < ((x0.length : Nat) : Int)) (fun h1 => .need (0 ≤ x5) fun h2 => .th h1 <| .call _ (f105 k x1) fun t1 => .ite ((strEq ((at' x0 x5).f0) t1) = true) (fun h3 => .th h2 <| .th h1 <| .call _ (f105 k (IntKind.i64.wrap (x1 + 1))) fun t2 => .ite ((strEq ((at' x0 x5).f1) t2) = true) (fun h4 => .jump (.l2 x0 (IntKind.i64.wrap ((IntKind.i64.wrap (x1 + 1)) + 1)) (IntKind.i64.wrap (x5 + 1)))) (fun h4 => .ret (-1))) (fun h3 => .ret (-1))) (fun h1 => .ret x1)
def f70.D (k : Nat) : f70.L → Option (Int)
  | .l2 x0 x1 x5 => f70.l2 k x0 x1 x5
def f70.start (k : Nat) (a0_0 : List S80) (a1_0 : Int) : PT (Int) f70.L := .jump (.l2 a0_0 a1_0 0)
def f70.o (a0_0 : List S80) (a1_0 : Int) : (Int) → V El × List (O El) := fun r => (.id .i64 0 r, [])
def sf70 (k : Nat) : List (V G.El) → List (O G.El) → Q G.El (V G.El × List (O G.El)) := fun as0' os0' => lH as0' fun v0 as1' => lH as1' fun v1 as2' => lT as2' <| lT os0' <| argL 2 v0 fun a0_0 => argI .i64 v1 fun a1_0 => .call _ (f70 k a0_0 a1_0) fun r => .ret (.id .i64 0 r, [])
inductive f71.L where
  | l2 (x0 : List S73) (x1 : Int) (x5 : Int)
def f71.st : f71.L → Nat × S El
  | .l2 x0 x1 x5 => (2, ⟨52, .dead, [(0, .sl 3 x0 []), (1, .id .i64 2 x1), (5, .id .i64 6 x5)], [], 0, 0⟩)
def f71.hint : f71.L → H
  | .l2 .. => .all
def f71.blk (k : Nat) : f71.L → PT (Int) f71.L
  | .l2 x0 x1 x5 => .ite (x5 < ((x0.length : Nat) : Int)) (fun h1 => .need (0 ≤ x5) fun h2 => .th h1 <| .ite ((at' x0 x5).f0 = x1) (fun h3 => .th h2 <| .th h1 <| .call _ (f105 k (IntKind.i64.wrap (x1 + 1))) fun t1 => .ite ((strEq ((at' x0 x5).f1) t1) = true) (fun h4 => .th h2 <| .th h1 <| .call _ (f105 k (IntKind.i64.wrap ((IntKind.i64.wrap (x1 + 1)) + 1))) fun t2 => .ite ((strEq ((at' x0 x5).f2) t2) = true) (fun h5 => .th h2 <| .th h1 <| .call _ (f105 k (IntKind.i64.wrap ((IntKind.i64.wrap ((IntKind.i64.wrap (x1 + 1)) + 1)) + 1))) fun t3 => .ite ((strEq ((at' x0 x5).f3) t3) = true) (fun h6 => .jump (.l2 x0 (IntKind.i64.wrap ((IntKind.i64.wrap ((IntKind.i64.wrap ((IntKind.i64.wrap (x1 + 1)) + 1)) + 1)) + 1)) (IntKind.i64.wrap (x5 + 1)))) (fun h6 => .ret (-1))) (fun h5 => .ret (-1))) (fun h4 => .ret (-1))) (fun h3 => .ret (-1))) (fun h1 => .ret x1)
def f71.D (k : Nat) : f71.L → Option (Int)
  | .l2 x0 x1 x5 => f71.l2 k x0 x1 x5
def f71.start (k : Nat) (a0_0 : List S73) (a1_0 : Int) : PT (Int) f71.L := .jump (.l2 a0_0 a1_0 0)
def f71.o (a0_0 : List S73) (a1_0 : Int) : (Int) → V El × List (O El) := fun r => (.id .i64 0 r, [])
def sf71 (k : Nat) : List (V G.El) → List (O G.El) → Q G.El (V G.El × List (O G.El)) := fun as0' os0' => lH as0' fun v0 as1' => lH as1' fun v1 as2' => lT as2' <| lT os0' <| argL 3 v0 fun a0_0 => argI .i64 v1 fun a1_0 => .call _ (f71 k a0_0 a1_0) fun r => .ret (.id .i64 0 r, [])
def f30.start (k : Nat) (a0_0 : List S80) (a0_1 : List S80) (a0_2 : List S73) (a1_0 : Int) : PT (Int) Empty := .call _ (f70 k a0_0 a1_0) fun t1 => .ite (t1 < 0) (fun h1 => .ret (-1)) (fun h1 => .call _ (f70 k a0_1 t1) fun t2 => .ite (t2 < 0) (fun h2 => .ret (-1)) (fun h2 => .call _ (f71 k a0_2 t2) fun t3 => .ite (t3 < 0) (fun h3 => .ret (-1)) (fun h3 => .ret t3)))
def f30.o (a0_0 : List S80) (a0_1 : List S80) (a0_2 : List S73) (a1_0 : Int) : (Int) → V El × List (O El) := fun r => (.id .i64 0 r, [])
def sf30 (k : Nat) : List (V G.El) → List (O G.El) → Q G.El (V G.El × List (O G.El)) := fun as0' os0' => lH as0' fun v0 as1' => lH as1' fun v1 as2' => lT as2' <| lT os0' <| argA v0 fun b1' => argH b1' fun y2' r2' => argH r2' fun y3' r3' => argH r3' fun y4' r4' => argT r4' <| argL 2 y2' fun a0_0 => argL 2 y3' fun a0_1 => argL 3 y4' fun a0_2 => argI .i64 v1 fun a1_0 => .call _ (f30 k a0_0 a0_1 a0_2 a1_0) fun r => .ret (.id .i64 0 r, [])
def f11.start (k : Nat) (a0_0 : List S106) (a0_1 : List S106) (a0_2 : List S108) (a1_0 : Int) (a2_0 : Int) : PT (Bool) Empty := .call _ (f12 k a0_0 a0_1 a0_2 1048576) fun t1 => .ite (t1 < 0) (fun h1 => .ret true) (fun h1 => .callh _ (f14 k a0_0 a0_1 a0_2) fun t2 ht2 => .tr t2.1.length <| .tr t2.2.1.length <| .tr t2.2.2.length <| .call _ (f39 k t2.1 t2.2.1 t2.2.2 a1_0 a2_0) fun t3 => .recall _ (f14 k a0_0 a0_1 a0_2) t2 ht2 <| .tr t2.1.length <| .tr t2.2.1.length <| .tr t2.2.2.length <| .callh _ (f40 k t2.1 t2.2.1 t2.2.2 a1_0 a2_0) fun t4 ht4 => .tr t4.2.1.length <| .tr t4.2.2.1.length <| .tr t4.2.2.2.length <| .tr t3.2.1.length <| .tr t3.2.2.1.length <| .tr t3.2.2.2.length <| .callh _ (f16 k t4.2.1 t4.2.2.1 t4.2.2.2 t3.2.1 t3.2.2.1 t3.2.2.2) fun t5 ht5 => .ite (t5 = true) (fun h2 => .th h2 <| .th h2 <| .th h2 <| .ite (t4.1 = t3.1) (fun h3 => .recall _ (f14 k a0_0 a0_1 a0_2) t2 ht2 <| .tr t2.1.length <| .tr t2.2.1.length <| .tr t2.2.2.length <| .tr t2.1.length <| .tr t2.2.1.length <| .tr t2.2.2.length <| .call _ (f16 k t2.1 t2.2.1 t2.2.2 t2.1 t2.2.1 t2.2.2) fun t6 => .ite (t6 = true) (fun h4 => .tr t2.1.length <| .tr t2.2.1.length <| .tr t2.2.2.length <| .call _ (f29 k 1 t2.1 t2.2.1 t2.2.2) fun t7 => .ite (t7.1 < 0) (fun h5 => .th h5 <| .th h5 <| .th h5 <| .th h5 <| .ret false) (fun h5 => .th h5 <| .th h5 <| .tr t4.2.1.length <| .tr t4.2.2.1.length <| .tr t4.2.2.2.length <| .tr t3.2.1.length <| .tr t3.2.2.1.length <| .tr t3.2.2.2.length <| .recall _ (f16 k t4.2.1 t4.2.2.1 t4.2.2.2 t3.2.1 t3.2.2.1 t3.2.2.2) t5 ht5 <| .th h5 <| .th h5 <| .th h2 <| .th h2 <| .th h2 <| .th h2 <| .th h3 <| .tr t4.2.1.length <| .tr t4.2.2.1.length <| .tr t4.2.2.2.length <| .call _ (f29 k 1 t4.2.1 t4.2.2.1 t4.2.2.2) fun t8 => .need (t4.2.1.length ≤ t8.2.1.length) fun h6 => .need (t4.2.2.1.length ≤ t8.2.2.1.length) fun h7 => .need (t4.2.2.2.length ≤ t8.2.2.2.length) fun h8 => .callh _ (f30 k (t8.2.1.take t4.2.1.length) (t8.2.2.1.take t4.2.2.1.length) (t8.2.2.2.take t4.2.2.2.length) 1) fun t9 ht9 => .ite (t9 < 0) (fun h9 => .ret false) (fun h9 => .ite (t9 = t8.1) (fun h10 => .recall _ (f14 k a0_0 a0_1 a0_2) t2 ht2 <| .tr t2.1.length <| .tr t2.2.1.length <| .tr t2.2.2.length <| .recall _ (f40 k t2.1 t2.2.1 t2.2.2 a1_0 a2_0) t4 ht4 <| .tr t4.2.1.length <| .tr t4.2.2.1.length <| .tr t4.2.2.2.length <| .tr t3.2.1.length <| .tr t3.2.2.1.length <| .tr t3.2.2.2.length <| .recall _ (f16 k t4.2.1 t4.2.2.1 t4.2.2.2 t3.2.1 t3.2.2.1 t3.2.2.2) t5 ht5 <| .th h2 <| .th h2 <| .th h2 <| .th h2 <| .th h3 <| .th h6 <| .th h7 <| .th h8 <| .recall _ (f30 k (t8.2.1.take t4.2.1.length) (t8.2.2.1.take t4.2.2.1.length) (t8.2.2.2.take t4.2.2.2.length) 1) t9 ht9 <| .th h9 <| .th h10 <| .ret true) (fun h10 => .ret false)))) (fun h4 => .ret false)) (fun h3 => .ret false)) (fun h2 => .th h2 <| .th h2 <| .th h2 <| .ret false))
def f11.o (a0_0 : List S106) (a0_1 : List S106) (a0_2 : List S108) (a1_0 : Int) (a2_0 : Int) : (Bool) → V El × List (O El) := fun r => (.bb false r, [])
end Go.Proofs.Ytfjoamlgbegpgaa.P
namespace Go.Proofs.Ytfjoamlgbegpgaa.P
open Go Go.Proofs.Ytfjoamlgbegpgaa.PM Go.Proofs.Ytfjoamlgbegpgaa.PN Go.Proofs
set_option maxRecDepth 100000
set_option linter.unusedVariables false
theorem ti2 : TiOk Try.prog G 2 ⟨1, false, 8, .int .i64, some (.il .i64 0), some [none], none⟩ := ⟨by kernel_rfl, by kernel_rfl, by kernel_rfl, fun z h => some_all (p := fun z => zeroT Try.prog 2 = some (denA G z)) (by kernel_rfl) h, (by kernel_rfl : Try.prog.underlying 2 = some (.int .i64)), fun l h => some_all (p := fun l => cellKs Try.prog 8 2 = some (l.map (Option.map G.w))) (by kernel_rfl) h, fun l h => none_all h⟩
theorem ti3 : TiOk Try.prog G 3 ⟨1, false, 8, .int .i64, some (.il .i64 0), some [none], none⟩ := ⟨by kernel_rfl, by kernel_rfl, by kernel_rfl, fun z h => some_all (p := fun z => zeroT Try.prog 3 = some (denA G z)) (by kernel_rfl) h, (by kernel_rfl : Try.prog.underlying 3 = some (.int .i64)), fun l h => some_all (p := fun l => cellKs Try.prog 8 3 = some (l.map (Option.map G.w))) (by kernel_rfl) h, fun l h => none_all h⟩
theorem ti4 : TiOk Try.prog G 4 ⟨1, false, 1, .bool, some (.bl false), some [none], none⟩ := ⟨by kernel_rfl, by kernel_rfl, by kernel_rfl, fun z h => some_all (p := fun z => zeroT Try.prog 4 = some (denA G z)) (by kernel_rfl) h, (by kernel_rfl : Try.prog.underlying 4 = some .bool), fun l h => some_all (p := fun l => cellKs Try.prog 8 4 = some (l.map (Option.map G.w))) (by kernel_rfl) h, fun l h => none_all h⟩
theorem ti5 : TiOk Try.prog G 5 ⟨1, false, 1, .int .u8, some (.il .u8 0), some [none], none⟩ := ⟨by kernel_rfl, by kernel_rfl, by kernel_rfl, fun z h => some_all (p := fun z => zeroT Try.prog 5 = some (denA G z)) (by kernel_rfl) h, (by kernel_rfl : Try.prog.underlying 5 = some (.int .u8)), fun l h => some_all (p := fun l => cellKs Try.prog 8 5 = some (l.map (Option.map G.w))) (by kernel_rfl) h, fun l h => none_all h⟩
theorem ti9 : TiOk Try.prog G 9 ⟨1, false, 16, .string, some (.s (⟨#[]⟩ : ByteArray)), some [none], none⟩ := ⟨by kernel_rfl, by kernel_rfl, by kernel_rfl, fun z h => some_all (p := fun z => zeroT Try.prog 9 = some (denA G z)) (by kernel_rfl) h, (by kernel_rfl : Try.prog.underlying 9 = some .string), fun l h => some_all (p := fun l => cellKs Try.prog 8 9 = some (l.map (Option.map G.w))) (by kernel_rfl) h, fun l h => none_all h⟩
theorem ti22 : TiOk Try.prog G 22 ⟨1, false, 24, .slice 106 0, some (.nil), some [some 0], none⟩ := ⟨by kernel_rfl, by kernel_rfl, by kernel_rfl, fun z h => some_all (p := fun z => zeroT Try.prog 22 = some (denA G z)) (by kernel_rfl) h, (by kernel_rfl : Try.prog.underlying 22 = some (.slice 106)), fun l h => some_all (p := fun l => cellKs Try.prog 8 22 = some (l.map (Option.map G.w))) (by kernel_rfl) h, fun l h => none_all h⟩
theorem ti23 : TiOk Try.prog G 23 ⟨1, false, 24, .slice 108 1, some (.nil), some [some 1], none⟩ := ⟨by kernel_rfl, by kernel_rfl, by kernel_rfl, fun z h => some_all (p := fun z => zeroT Try.prog 23 = some (denA G z)) (by kernel_rfl) h, (by kernel_rfl : Try.prog.underlying 23 = some (.slice 108)), fun l h => some_all (p := fun l => cellKs Try.prog 8 23 = some (l.map (Option.map G.w))) (by kernel_rfl) h, fun l h => none_all h⟩
theorem ti25 : TiOk Try.prog G 25 ⟨3, true, 72, .struct [(0, 22), (1, 22), (2, 23)], some (.agg [.nil, .nil, .nil]), some [some 0, some 0, some 1], none⟩ := ⟨by kernel_rfl, by kernel_rfl, by kernel_rfl, fun z h => some_all (p := fun z => zeroT Try.prog 25 = some (denA G z)) (by kernel_rfl) h, ⟨by kernel_rfl, fun l h => (by kernel_rfl : fieldsT Try.prog 25 = fieldsK G [(0, 22), (1, 22), (2, 23)]).trans h⟩, fun l h => some_all (p := fun l => cellKs Try.prog 8 25 = some (l.map (Option.map G.w))) (by kernel_rfl) h, fun l h => none_all h⟩
theorem ti28 : TiOk Try.prog G 28 ⟨1, false, 24, .slice 80 2, some (.nil), some [some 2], none⟩ := ⟨by kernel_rfl, by kernel_rfl, by kernel_rfl, fun z h => some_all (p := fun z => zeroT Try.prog 28 = some (denA G z)) (by kernel_rfl) h, (by kernel_rfl : Try.prog.underlying 28 = some (.slice 80)), fun l h => some_all (p := fun l => cellKs Try.prog 8 28 = some (l.map (Option.map G.w))) (by kernel_rfl) h, fun l h => none_all h⟩
theorem ti29 : TiOk Try.prog G 29 ⟨1, false, 24, .slice 73 3, some (.nil), some [some 3], none⟩ := ⟨by kernel_rfl, by kernel_rfl, by kernel_rfl, fun z h => some_all (p := fun z => zeroT Try.prog 29 = some (denA G z)) (by kernel_rfl) h, (by kernel_rfl : Try.prog.underlying 29 = some (.slice 73)), fun l h => some_all (p := fun l => cellKs Try.prog 8 29 = some (l.map (Option.map G.w))) (by kernel_rfl) h, fun l h => none_all h⟩
theorem ti31 : TiOk Try.prog G 31 ⟨3, true, 72, .struct [(0, 28), (1, 28), (2, 29)], some (.agg [.nil, .nil, .nil]), some [some 2, some 2, some 3], none⟩ := ⟨by kernel_rfl, by kernel_rfl, by kernel_rfl, fun z h => some_all (p := fun z => zeroT Try.prog 31 = some (denA G z)) (by kernel_rfl) h, ⟨by kernel_rfl, fun l h => (by kernel_rfl : fieldsT Try.prog 31 = fieldsK G [(0, 28), (1, 28), (2, 29)]).trans h⟩, fun l h => some_all (p := fun l => cellKs Try.prog 8 31 = some (l.map (Option.map G.w))) (by kernel_rfl) h, fun l h => none_all h⟩
theorem ti38 : TiOk Try.prog G 38 ⟨1, false, 24, .slice 5 6, some (.nil), some [some 6], none⟩ := ⟨by kernel_rfl, by kernel_rfl, by kernel_rfl, fun z h => some_all (p := fun z => zeroT Try.prog 38 = some (denA G z)) (by kernel_rfl) h, (by kernel_rfl : Try.prog.underlying 38 = some (.slice 5)), fun l h => some_all (p := fun l => cellKs Try.prog 8 38 = some (l.map (Option.map G.w))) (by kernel_rfl) h, fun l h => none_all h⟩
theorem ti51 : TiOk Try.prog G 51 ⟨1, false, 8, .int .u64, some (.il .u64 0), some [none], none⟩ := ⟨by kernel_rfl, by kernel_rfl, by kernel_rfl, fun z h => some_all (p := fun z => zeroT Try.prog 51 = some (denA G z)) (by kernel_rfl) h, (by kernel_rfl : Try.prog.underlying 51 = some (.int .u64)), fun l h => some_all (p := fun l => cellKs Try.prog 8 51 = some (l.map (Option.map G.w))) (by kernel_rfl) h, fun l h => none_all h⟩
theorem ti58 : TiOk Try.prog G 58 ⟨1, false, 24, .slice 136 4, some (.nil), some [some 4], none⟩ := ⟨by kernel_rfl, by kernel_rfl, by kernel_rfl, fun z h => some_all (p := fun z => zeroT Try.prog 58 = some (denA G z)) (by kernel_rfl) h, (by kernel_rfl : Try.prog.underlying 58 = some (.slice 136)), fun l h => some_all (p := fun l => cellKs Try.prog 8 58 = some (l.map (Option.map G.w))) (by kernel_rfl) h, fun l h => none_all h⟩
theorem ti60 : TiOk Try.prog G 60 ⟨3, true, 40, .struct [(0, 2), (1, 2), (2, 58)], some (.agg [.il .i64 0, .il .i64 0, .nil]), some [none, none, some 4], none⟩ := ⟨by kernel_rfl, by kernel_rfl, by kernel_rfl, fun z h => some_all (p := fun z => zeroT Try.prog 60 = some (denA G z)) (by kernel_rfl) h, ⟨by kernel_rfl, fun l h => (by kernel_rfl : fieldsT Try.prog 60 = fieldsK G [(0, 2), (1, 2), (2, 58)]).trans h⟩, fun l h => some_all (p := fun l => cellKs Try.prog 8 60 = some (l.map (Option.map G.w))) (by kernel_rfl) h, fun l h => none_all h⟩
theorem ti73 : TiOk Try.prog G 73 ⟨4, true, 56, .struct [(0, 2), (1, 9), (2, 9), (3, 9)], some (.agg [.il .i64 0, .s (⟨#[]⟩ : ByteArray), .s (⟨#[]⟩ : ByteArray), .s (⟨#[]⟩ : ByteArray)]), some [none, none, none, none], none⟩ := ⟨by kernel_rfl, by kernel_rfl, by kernel_rfl, fun z h => some_all (p := fun z => zeroT Try.prog 73 = some (denA G z)) (by kernel_rfl) h, ⟨by kernel_rfl, fun l h => (by kernel_rfl : fieldsT Try.prog 73 = fieldsK G [(0, 2), (1, 9), (2, 9), (3, 9)]).trans h⟩, fun l h => some_all (p := fun l => cellKs Try.prog 8 73 = some (l.map (Option.map G.w))) (by kernel_rfl) h, fun l h => none_all h⟩
theorem ti80 : TiOk Try.prog G 80 ⟨2, true, 32, .struct [(0, 9), (1, 9)], some (.agg [.s (⟨#[]⟩ : ByteArray), .s (⟨#[]⟩ : ByteArray)]), some [none, none], some [(0, 9), (1, 9)]⟩ := ⟨by kernel_rfl, by kernel_rfl, by kernel_rfl, fun z h => some_all (p := fun z => zeroT Try.prog 80 = some (denA G z)) (by kernel_rfl) h, ⟨by kernel_rfl, fun l h => (by kernel_rfl : fieldsT Try.prog 80 = fieldsK G [(0, 9), (1, 9)]).trans h⟩, fun l h => some_all (p := fun l => cellKs Try.prog 8 80 = some (l.map (Option.map G.w))) (by kernel_rfl) h, fun l h => some_all (p := fun l => eqT Try.prog 80 = some l) (by kernel_rfl) h⟩
theorem ti104 : TiOk Try.prog G 104 ⟨2, true, 24, .struct [(0, 2), (1, 9)], some (.agg [.il .i64 0, .s (⟨#[]⟩ : ByteArray)]), some [none, none], none⟩ := ⟨by kernel_rfl, by kernel_rfl, by kernel_rfl, fun z h => some_all (p := fun z => zeroT Try.prog 104 = some (denA G z)) (by kernel_rfl) h, ⟨by kernel_rfl, fun l h => (by kernel_rfl : fieldsT Try.prog 104 = fieldsK G [(0, 2), (1, 9)]).trans h⟩, fun l h => some_all (p := fun l => cellKs Try.prog 8 104 = some (l.map (Option.map G.w))) (by kernel_rfl) h, fun l h => none_all h⟩
theorem ti106 : TiOk Try.prog G 106 ⟨2, true, 32, .struct [(0, 9), (1, 9)], some (.agg [.s (⟨#[]⟩ : ByteArray), .s (⟨#[]⟩ : ByteArray)]), some [none, none], none⟩ := ⟨by kernel_rfl, by kernel_rfl, by kernel_rfl, fun z h => some_all (p := fun z => zeroT Try.prog 106 = some (denA G z)) (by kernel_rfl) h, ⟨by kernel_rfl, fun l h => (by kernel_rfl : fieldsT Try.prog 106 = fieldsK G [(0, 9), (1, 9)]).trans h⟩, fun l h => some_all (p := fun l => cellKs Try.prog 8 106 = some (l.map (Option.map G.w))) (by kernel_rfl) h, fun l h => none_all h⟩
theorem ti108 : TiOk Try.prog G 108 ⟨4, true, 56, .struct [(0, 2), (1, 9), (2, 9), (3, 9)], some (.agg [.il .i64 0, .s (⟨#[]⟩ : ByteArray), .s (⟨#[]⟩ : ByteArray), .s (⟨#[]⟩ : ByteArray)]), some [none, none, none, none], none⟩ := ⟨by kernel_rfl, by kernel_rfl, by kernel_rfl, fun z h => some_all (p := fun z => zeroT Try.prog 108 = some (denA G z)) (by kernel_rfl) h, ⟨by kernel_rfl, fun l h => (by kernel_rfl : fieldsT Try.prog 108 = fieldsK G [(0, 2), (1, 9), (2, 9), (3, 9)]).trans h⟩, fun l h => some_all (p := fun l => cellKs Try.prog 8 108 = some (l.map (Option.map G.w))) (by kernel_rfl) h, fun l h => none_all h⟩
theorem ti128 : TiOk Try.prog G 128 ⟨1, false, 24, .slice 104 5, some (.nil), some [some 5], none⟩ := ⟨by kernel_rfl, by kernel_rfl, by kernel_rfl, fun z h => some_all (p := fun z => zeroT Try.prog 128 = some (denA G z)) (by kernel_rfl) h, (by kernel_rfl : Try.prog.underlying 128 = some (.slice 104)), fun l h => some_all (p := fun l => cellKs Try.prog 8 128 = some (l.map (Option.map G.w))) (by kernel_rfl) h, fun l h => none_all h⟩
theorem ti136 : TiOk Try.prog G 136 ⟨3, true, 32, .struct [(0, 2), (1, 2), (2, 9)], some (.agg [.il .i64 0, .il .i64 0, .s (⟨#[]⟩ : ByteArray)]), some [none, none, none], none⟩ := ⟨by kernel_rfl, by kernel_rfl, by kernel_rfl, fun z h => some_all (p := fun z => zeroT Try.prog 136 = some (denA G z)) (by kernel_rfl) h, ⟨by kernel_rfl, fun l h => (by kernel_rfl : fieldsT Try.prog 136 = fieldsK G [(0, 2), (1, 2), (2, 9)]).trans h⟩, fun l h => some_all (p := fun l => cellKs Try.prog 8 136 = some (l.map (Option.map G.w))) (by kernel_rfl) h, fun l h => none_all h⟩
theorem ti141 : TiOk Try.prog G 141 ⟨0, true, 0, .struct [], some (.agg []), some [], none⟩ := ⟨by kernel_rfl, by kernel_rfl, by kernel_rfl, fun z h => some_all (p := fun z => zeroT Try.prog 141 = some (denA G z)) (by kernel_rfl) h, ⟨by kernel_rfl, fun l h => (by kernel_rfl : fieldsT Try.prog 141 = fieldsK G []).trans h⟩, fun l h => some_all (p := fun l => cellKs Try.prog 8 141 = some (l.map (Option.map G.w))) (by kernel_rfl) h, fun l h => none_all h⟩
theorem ti143 : TiOk Try.prog G 143 ⟨1, false, 4, .int .u32, some (.il .u32 0), some [none], none⟩ := ⟨by kernel_rfl, by kernel_rfl, by kernel_rfl, fun z h => some_all (p := fun z => zeroT Try.prog 143 = some (denA G z)) (by kernel_rfl) h, (by kernel_rfl : Try.prog.underlying 143 = some (.int .u32)), fun l h => some_all (p := fun l => cellKs Try.prog 8 143 = some (l.map (Option.map G.w))) (by kernel_rfl) h, fun l h => none_all h⟩
theorem tis_ok : TisOk Try.prog G tis := (tis_cons ti2 (tis_cons ti3 (tis_cons ti4 (tis_cons ti5 (tis_cons ti9 (tis_cons ti22 (tis_cons ti23 (tis_cons ti25 (tis_cons ti28 (tis_cons ti29 (tis_cons ti31 (tis_cons ti38 (tis_cons ti51 (tis_cons ti58 (tis_cons ti60 (tis_cons ti73 (tis_cons ti80 (tis_cons ti104 (tis_cons ti106 (tis_cons ti108 (tis_cons ti128 (tis_cons ti136 (tis_cons ti141 (tis_cons ti143 tis_nil))))))))))))))))))))))))
theorem G_mk : ∀ t cs x, G.mkE t cs = some x → cs.map (den1 G) = (G.cells t x).map (den1 G)
  | 0 => fun cs x h => by
    match cs, h with
    | [c0, c1], h => have h : (cS c0 fun a0 => cS c1 fun a1 => some (⟨a0, a1⟩ : S106) : Option (S106)) = some x := h; obtain ⟨a0, e0, h⟩ := cS_some h; obtain ⟨a1, e1, h⟩ := cS_some h; obtain rfl := Option.some.inj h; simp only [List.map_cons, List.map_nil, e0, e1]; rfl
    | [], h => cases h
    | _ :: _ :: _ :: _, h => cases h
    | [_], h => cases h
  | 1 => fun cs x h => by
    match cs, h with
    | [c0, c1, c2, c3], h => have h : (cI .i64 c0 fun a0 => cS c1 fun a1 => cS c2 fun a2 => cS c3 fun a3 => some (⟨a0, a1, a2, a3⟩ : S108) : Option (S108)) = some x := h; obtain ⟨a0, e0, h⟩ := cI_some h; obtain ⟨a1, e1, h⟩ := cS_some h; obtain ⟨a2, e2, h⟩ := cS_some h; obtain ⟨a3, e3, h⟩ := cS_some h; obtain rfl := Option.some.inj h; simp only [List.map_cons, List.map_nil, e0, e1, e2, e3]; rfl
    | [], h => cases h
    | _ :: _ :: _ :: _ :: _ :: _, h => cases h
    | [_], h => cases h
    | [_, _], h => cases h
    | [_, _, _], h => cases h
  | 2 => fun cs x h => by
    match cs, h with
    | [c0, c1], h => have h : (cS c0 fun a0 => cS c1 fun a1 => some (⟨a0, a1⟩ : S80) : Option (S80)) = some x := h; obtain ⟨a0, e0, h⟩ := cS_some h; obtain ⟨a1, e1, h⟩ := cS_some h; obtain rfl := Option.some.inj h; simp only [List.map_cons, List.map_nil, e0, e1]; rfl
    | [], h => cases h
    | _ :: _ :: _ :: _, h => cases h
    | [_], h => cases h
  | 3 => fun cs x h => by
    match cs, h with
    | [c0, c1, c2, c3], h => have h : (cI .i64 c0 fun a0 => cS c1 fun a1 => cS c2 fun a2 => cS c3 fun a3 => some (⟨a0, a1, a2, a3⟩ : S73) : Option (S73)) = some x := h; obtain ⟨a0, e0, h⟩ := cI_some h; obtain ⟨a1, e1, h⟩ := cS_some h; obtain ⟨a2, e2, h⟩ := cS_some h; obtain ⟨a3, e3, h⟩ := cS_some h; obtain rfl := Option.some.inj h; simp only [List.map_cons, List.map_nil, e0, e1, e2, e3]; rfl
    | [], h => cases h
    | _ :: _ :: _ :: _ :: _ :: _, h => cases h
    | [_], h => cases h
    | [_, _], h => cases h
    | [_, _, _], h => cases h
  | 4 => fun cs x h => by
    match cs, h with
    | [c0, c1, c2], h => have h : (cI .i64 c0 fun a0 => cI .i64 c1 fun a1 => cS c2 fun a2 => some (⟨a0, a1, a2⟩ : S136) : Option (S136)) = some x := h; obtain ⟨a0, e0, h⟩ := cI_some h; obtain ⟨a1, e1, h⟩ := cI_some h; obtain ⟨a2, e2, h⟩ := cS_some h; obtain rfl := Option.some.inj h; simp only [List.map_cons, List.map_nil, e0, e1, e2]; rfl
    | [], h => cases h
    | _ :: _ :: _ :: _ :: _, h => cases h
    | [_], h => cases h
    | [_, _], h => cases h
  | 5 => fun cs x h => by
    match cs, h with
    | [c0, c1], h => have h : (cI .i64 c0 fun a0 => cS c1 fun a1 => some (⟨a0, a1⟩ : S104) : Option (S104)) = some x := h; obtain ⟨a0, e0, h⟩ := cI_some h; obtain ⟨a1, e1, h⟩ := cS_some h; obtain rfl := Option.some.inj h; simp only [List.map_cons, List.map_nil, e0, e1]; rfl
    | [], h => cases h
    | _ :: _ :: _ :: _, h => cases h
    | [_], h => cases h
  | 6 => fun cs x h => by
    match cs, h with
    | [c0], h => have h : (cI .u8 c0 fun a0 => some (a0 : Int) : Option (Int)) = some x := h; obtain ⟨a0, e0, h⟩ := cI_some h; obtain rfl := Option.some.inj h; simp only [List.map_cons, List.map_nil, e0]; rfl
    | [], h => cases h
    | _ :: _ :: _, h => cases h
  | _ + 7 => fun cs x h => by cases h
theorem G_ok : SgOk Try.prog G where
  enc := fun t => match t with | 0 => fun _ => rfl | 1 => fun _ => rfl | 2 => fun _ => rfl | 3 => fun _ => rfl | 4 => fun _ => rfl | 5 => fun _ => rfl | 6 => fun _ => rfl | _ + 7 => fun _ => rfl
  len := fun t => match t with | 0 => fun _ => rfl | 1 => fun _ => rfl | 2 => fun _ => rfl | 3 => fun _ => rfl | 4 => fun _ => rfl | 5 => fun _ => rfl | 6 => fun _ => rfl | _ + 7 => fun _ => rfl
  agg1 := fun t => match t with | 0 => fun h => by cases h | 1 => fun h => by cases h | 2 => fun h => by cases h | 3 => fun h => by cases h | 4 => fun h => by cases h | 5 => fun h => by cases h | 6 => fun _ => rfl | _ + 7 => fun h => by cases h
  mkC := G_mk
  ofStr := fun t => match t with | 0 => fun _ _ h => by cases h | 1 => fun _ _ h => by cases h | 2 => fun _ _ h => by cases h | 3 => fun _ _ h => by cases h | 4 => fun _ _ h => by cases h | 5 => fun _ _ h => by cases h | 6 => fun s xs h => by obtain rfl := Option.some.inj h; exact ofStr_u8 s | _ + 7 => fun _ _ h => by cases h
  toStr := fun t => match t with | 0 => fun _ _ h => by cases h | 1 => fun _ _ h => by cases h | 2 => fun _ _ h => by cases h | 3 => fun _ _ h => by cases h | 4 => fun _ _ h => by cases h | 5 => fun _ _ h => by cases h | 6 => fun xs s h => by obtain rfl := Option.some.inj h; exact toStr_u8 xs | _ + 7 => fun _ _ h => by cases h
  flat := fun t => match t with | 0 => fun _ _ => rfl | 1 => fun _ _ => rfl | 2 => fun _ _ => rfl | 3 => fun _ _ => rfl | 4 => fun _ _ => rfl | 5 => fun _ _ => rfl | 6 => fun _ _ => rfl | _ + 7 => fun _ _ => rfl
  ti := tis_ok
end Go.Proofs.Ytfjoamlgbegpgaa.P
namespace Go.Proofs.Ytfjoamlgbegpgaa.P
open Go Go.Proofs.Ytfjoamlgbegpgaa.PM Go.Proofs.Ytfjoamlgbegpgaa.PN Go.Proofs
set_option maxRecDepth 100000
set_option linter.unusedVariables false
def envf82 (k : Nat) : Ev El := envOf CC0 []
theorem envf82_ok (k : Nat) : EvOk Try.prog CC0 P0 G (envf82 k) := env_ok (sums_nil)
def ktf82 : Nat → Nat → Nat := fun rid q => 0
theorem f82_ok {k : Nat} {a0_0 : ByteArray} {a0_1 : ByteArray} {a1_0 : Int} {r : Int} (h : f82 k a0_0 a0_1 a1_0 = some r) : callT Try.prog CC0 P0 82 (List.map (denV G) [.agg [.s a0_0, .s a0_1], .id .i64 2 a1_0]) (List.map (denO G) []) = some (denV G (f82.o a0_0 a0_1 a1_0 r).1, List.map (denO G) (f82.o a0_0 a0_1 a1_0 r).2) :=
 fn_ok0 (k := k) (E := envf82) (kt := ktf82) (start := f82.start k a0_0 a0_1 a1_0) (o := f82.o a0_0 a0_1 a1_0) (h0 := .all) (objs := []) G_ok envf82_ok rfl Try.func82 rfl (by kernel_rfl) (by kernel_rfl) rfl (Nat.le_of_ble_eq_true (by kernel_rfl)) (by kernel_rfl) ((by kernel_rfl : (f82.start k a0_0 a0_1 a1_0).run Empty.elim = f82 k a0_0 a0_1 a1_0).trans h)
theorem sf82_ok (k : Nat) : SumOk Try.prog CC0 P0 G 82 (sf82 k) := by
 intro as0' os0' lk r l h0'
 unfold sf82 at h0'
 obtain ⟨v0, as1', rfl, h1'⟩ := lH_runs h0'; obtain ⟨v1, as2', rfl, h2'⟩ := lH_runs h1'; obtain ⟨rfl, h3'⟩ := lT_runs h2'; obtain ⟨rfl, h4'⟩ := lT_runs h3'; obtain ⟨b1', e1, h5'⟩ := argA_runs h4'; obtain ⟨y2', r2', e2, h6'⟩ := argH_runs h5'; obtain ⟨y3', r3', e3, h7'⟩ := argH_runs h6'; obtain ⟨e4, h8'⟩ := argT_runs h7'; obtain ⟨a0_0, e5, h9'⟩ := argS_runs h8'; obtain ⟨a0_1, e6, h10'⟩ := argS_runs h9'; obtain ⟨a1_0, e7, h11'⟩ := argI_runs h10'; obtain ⟨z', hz', h⟩ := call_runs h11'
 obtain ⟨rfl, rfl⟩ := runs_ret.1 h; exact ⟨rfl, by simp only [List.map_cons, List.map_nil, e1, e2, e3, e4, e5, e6, e7]; exact f82_ok hz'⟩
end Go.Proofs.Ytfjoamlgbegpgaa.P
namespace Go.Proofs.Ytfjoamlgbegpgaa.P
open Go Go.Proofs.Ytfjoamlgbegpgaa.PM Go.Proofs.Ytfjoamlgbegpgaa.PN Go.Proofs
set_option maxRecDepth 100000
set_option linter.unusedVariables false
def envf41 (k : Nat) : Ev El := envOf CC0 [(82, sf82 k)]
theorem envf41_ok (k : Nat) : EvOk Try.prog CC0 P0 G (envf41 k) := env_ok (sums_cons (sf82_ok k) (sums_nil))
def ktf41 : Nat → Nat → Nat := fun rid q => 0
theorem f41_ok {k : Nat} {a0_0 : List S106} {a1_0 : Int} {r : Int} (h : f41 k a0_0 a1_0 = some r) : callT Try.prog CC0 P0 41 (List.map (denV G) [.sl 0 a0_0 [], .id .i64 2 a1_0]) (List.map (denO G) []) = some (denV G (f41.o a0_0 a1_0 r).1, List.map (denO G) (f41.o a0_0 a1_0 r).2) :=
 fn_ok (k := k) (E := envf41) (kt := ktf41) (start := f41.start k a0_0 a1_0) (stt := f41.st) (o := f41.o a0_0 a1_0) (h0 := .all) (D := f41.D) (blk := f41.blk) (hint := f41.hint) (objs := []) G_ok envf41_ok rfl Try.func41 rfl (by kernel_rfl) (by kernel_rfl) rfl (Nat.le_of_ble_eq_true (by kernel_rfl)) (fun x => by cases x <;> kernel_rfl) (fun k x => by cases x <;> kernel_rfl) (fun k x => by cases x <;> kernel_rfl) (by kernel_rfl) ((by kernel_rfl : (f41.start k a0_0 a1_0).run (f41.D k) = f41 k a0_0 a1_0).trans h)
theorem sf41_ok (k : Nat) : SumOk Try.prog CC0 P0 G 41 (sf41 k) := by
 intro as0' os0' lk r l h0'
 unfold sf41 at h0'
 obtain ⟨v0, as1', rfl, h1'⟩ := lH_runs h0'; obtain ⟨v1, as2', rfl, h2'⟩ := lH_runs h1'; obtain ⟨rfl, h3'⟩ := lT_runs h2'; obtain ⟨rfl, h4'⟩ := lT_runs h3'; obtain ⟨a0_0, e1, h5'⟩ := argL_runs h4'; obtain ⟨a1_0, e2, h6'⟩ := argI_runs h5'; obtain ⟨z', hz', h⟩ := call_runs h6'
 obtain ⟨rfl, rfl⟩ := runs_ret.1 h; exact ⟨rfl, by simp only [List.map_cons, List.map_nil, e1, e2]; exact f41_ok hz'⟩
end Go.Proofs.Ytfjoamlgbegpgaa.P
namespace Go.Proofs.Ytfjoamlgbegpgaa.P
open Go Go.Proofs.Ytfjoamlgbegpgaa.PM Go.Proofs.Ytfjoamlgbegpgaa.PN Go.Proofs
set_option maxRecDepth 100000
set_option linter.unusedVariables false
def envf83 (k : Nat) : Ev El := envOf CC0 []
theorem envf83_ok (k : Nat) : EvOk Try.prog CC0 P0 G (envf83 k) := env_ok (sums_nil)
def ktf83 : Nat → Nat → Nat := fun rid q => 0
theorem f83_ok {k : Nat} {a0_0 : Int} {a0_1 : ByteArray} {a0_2 : ByteArray} {a0_3 : ByteArray} {a1_0 : Int} {r : Int} (h : f83 k a0_0 a0_1 a0_2 a0_3 a1_0 = some r) : callT Try.prog CC0 P0 83 (List.map (denV G) [.agg [.id .i64 0 a0_0, .s a0_1, .s a0_2, .s a0_3], .id .i64 2 a1_0]) (List.map (denO G) []) = some (denV G (f83.o a0_0 a0_1 a0_2 a0_3 a1_0 r).1, List.map (denO G) (f83.o a0_0 a0_1 a0_2 a0_3 a1_0 r).2) :=
 fn_ok0 (k := k) (E := envf83) (kt := ktf83) (start := f83.start k a0_0 a0_1 a0_2 a0_3 a1_0) (o := f83.o a0_0 a0_1 a0_2 a0_3 a1_0) (h0 := .all) (objs := []) G_ok envf83_ok rfl Try.func83 rfl (by kernel_rfl) (by kernel_rfl) rfl (Nat.le_of_ble_eq_true (by kernel_rfl)) (by kernel_rfl) ((by kernel_rfl : (f83.start k a0_0 a0_1 a0_2 a0_3 a1_0).run Empty.elim = f83 k a0_0 a0_1 a0_2 a0_3 a1_0).trans h)
theorem sf83_ok (k : Nat) : SumOk Try.prog CC0 P0 G 83 (sf83 k) := by
 intro as0' os0' lk r l h0'
 unfold sf83 at h0'
 obtain ⟨v0, as1', rfl, h1'⟩ := lH_runs h0'; obtain ⟨v1, as2', rfl, h2'⟩ := lH_runs h1'; obtain ⟨rfl, h3'⟩ := lT_runs h2'; obtain ⟨rfl, h4'⟩ := lT_runs h3'; obtain ⟨b1', e1, h5'⟩ := argA_runs h4'; obtain ⟨y2', r2', e2, h6'⟩ := argH_runs h5'; obtain ⟨y3', r3', e3, h7'⟩ := argH_runs h6'; obtain ⟨y4', r4', e4, h8'⟩ := argH_runs h7'; obtain ⟨y5', r5', e5, h9'⟩ := argH_runs h8'; obtain ⟨e6, h10'⟩ := argT_runs h9'; obtain ⟨a0_0, e7, h11'⟩ := argI_runs h10'; obtain ⟨a0_1, e8, h12'⟩ := argS_runs h11'; obtain ⟨a0_2, e9, h13'⟩ := argS_runs h12'; obtain ⟨a0_3, e10, h14'⟩ := argS_runs h13'; obtain ⟨a1_0, e11, h15'⟩ := argI_runs h14'; obtain ⟨z', hz', h⟩ := call_runs h15'
 obtain ⟨rfl, rfl⟩ := runs_ret.1 h; exact ⟨rfl, by simp only [List.map_cons, List.map_nil, e1, e2, e3, e4, e5, e6, e7, e8, e9, e10, e11]; exact f83_ok hz'⟩
end Go.Proofs.Ytfjoamlgbegpgaa.P
namespace Go.Proofs.Ytfjoamlgbegpgaa.P
open Go Go.Proofs.Ytfjoamlgbegpgaa.PM Go.Proofs.Ytfjoamlgbegpgaa.PN Go.Proofs
set_option maxRecDepth 100000
set_option linter.unusedVariables false
def envf42 (k : Nat) : Ev El := envOf CC0 [(83, sf83 k)]
theorem envf42_ok (k : Nat) : EvOk Try.prog CC0 P0 G (envf42 k) := env_ok (sums_cons (sf83_ok k) (sums_nil))
def ktf42 : Nat → Nat → Nat := fun rid q => 0
theorem f42_ok {k : Nat} {a0_0 : List S108} {a1_0 : Int} {r : Int} (h : f42 k a0_0 a1_0 = some r) : callT Try.prog CC0 P0 42 (List.map (denV G) [.sl 1 a0_0 [], .id .i64 2 a1_0]) (List.map (denO G) []) = some (denV G (f42.o a0_0 a1_0 r).1, List.map (denO G) (f42.o a0_0 a1_0 r).2) :=
 fn_ok (k := k) (E := envf42) (kt := ktf42) (start := f42.start k a0_0 a1_0) (stt := f42.st) (o := f42.o a0_0 a1_0) (h0 := .all) (D := f42.D) (blk := f42.blk) (hint := f42.hint) (objs := []) G_ok envf42_ok rfl Try.func42 rfl (by kernel_rfl) (by kernel_rfl) rfl (Nat.le_of_ble_eq_true (by kernel_rfl)) (fun x => by cases x <;> kernel_rfl) (fun k x => by cases x <;> kernel_rfl) (fun k x => by cases x <;> kernel_rfl) (by kernel_rfl) ((by kernel_rfl : (f42.start k a0_0 a1_0).run (f42.D k) = f42 k a0_0 a1_0).trans h)
theorem sf42_ok (k : Nat) : SumOk Try.prog CC0 P0 G 42 (sf42 k) := by
 intro as0' os0' lk r l h0'
 unfold sf42 at h0'
 obtain ⟨v0, as1', rfl, h1'⟩ := lH_runs h0'; obtain ⟨v1, as2', rfl, h2'⟩ := lH_runs h1'; obtain ⟨rfl, h3'⟩ := lT_runs h2'; obtain ⟨rfl, h4'⟩ := lT_runs h3'; obtain ⟨a0_0, e1, h5'⟩ := argL_runs h4'; obtain ⟨a1_0, e2, h6'⟩ := argI_runs h5'; obtain ⟨z', hz', h⟩ := call_runs h6'
 obtain ⟨rfl, rfl⟩ := runs_ret.1 h; exact ⟨rfl, by simp only [List.map_cons, List.map_nil, e1, e2]; exact f42_ok hz'⟩
end Go.Proofs.Ytfjoamlgbegpgaa.P
namespace Go.Proofs.Ytfjoamlgbegpgaa.P
open Go Go.Proofs.Ytfjoamlgbegpgaa.PM Go.Proofs.Ytfjoamlgbegpgaa.PN Go.Proofs
set_option maxRecDepth 100000
set_option linter.unusedVariables false
def envf12 (k : Nat) : Ev El := envOf CC0 [(41, sf41 k), (42, sf42 k)]
theorem envf12_ok (k : Nat) : EvOk Try.prog CC0 P0 G (envf12 k) := env_ok (sums_cons (sf41_ok k) (sums_cons (sf42_ok k) (sums_nil)))
def ktf12 : Nat → Nat → Nat := fun rid q => 0
theorem f12_ok {k : Nat} {a0_0 : List S106} {a0_1 : List S106} {a0_2 : List S108} {a1_0 : Int} {r : Int} (h : f12 k a0_0 a0_1 a0_2 a1_0 = some r) : callT Try.prog CC0 P0 12 (List.map (denV G) [.agg [.sl 0 a0_0 [], .sl 0 a0_1 [], .sl 1 a0_2 []], .id .i64 2 a1_0]) (List.map (denO G) []) = some (denV G (f12.o a0_0 a0_1 a0_2 a1_0 r).1, List.map (denO G) (f12.o a0_0 a0_1 a0_2 a1_0 r).2) :=
 fn_ok0 (k := k) (E := envf12) (kt := ktf12) (start := f12.start k a0_0 a0_1 a0_2 a1_0) (o := f12.o a0_0 a0_1 a0_2 a1_0) (h0 := .all) (objs := []) G_ok envf12_ok rfl Try.func12 rfl (by kernel_rfl) (by kernel_rfl) rfl (Nat.le_of_ble_eq_true (by kernel_rfl)) (by kernel_rfl) ((by kernel_rfl : (f12.start k a0_0 a0_1 a0_2 a1_0).run Empty.elim = f12 k a0_0 a0_1 a0_2 a1_0).trans h)
theorem sf12_ok (k : Nat) : SumOk Try.prog CC0 P0 G 12 (sf12 k) := by
 intro as0' os0' lk r l h0'
 unfold sf12 at h0'
 obtain ⟨v0, as1', rfl, h1'⟩ := lH_runs h0'; obtain ⟨v1, as2', rfl, h2'⟩ := lH_runs h1'; obtain ⟨rfl, h3'⟩ := lT_runs h2'; obtain ⟨rfl, h4'⟩ := lT_runs h3'; obtain ⟨b1', e1, h5'⟩ := argA_runs h4'; obtain ⟨y2', r2', e2, h6'⟩ := argH_runs h5'; obtain ⟨y3', r3', e3, h7'⟩ := argH_runs h6'; obtain ⟨y4', r4', e4, h8'⟩ := argH_runs h7'; obtain ⟨e5, h9'⟩ := argT_runs h8'; obtain ⟨a0_0, e6, h10'⟩ := argL_runs h9'; obtain ⟨a0_1, e7, h11'⟩ := argL_runs h10'; obtain ⟨a0_2, e8, h12'⟩ := argL_runs h11'; obtain ⟨a1_0, e9, h13'⟩ := argI_runs h12'; obtain ⟨z', hz', h⟩ := call_runs h13'
 obtain ⟨rfl, rfl⟩ := runs_ret.1 h; exact ⟨rfl, by simp only [List.map_cons, List.map_nil, e1, e2, e3, e4, e5, e6, e7, e8, e9]; exact f12_ok hz'⟩
end Go.Proofs.Ytfjoamlgbegpgaa.P
namespace Go.Proofs.Ytfjoamlgbegpgaa.P
open Go Go.Proofs.Ytfjoamlgbegpgaa.PM Go.Proofs.Ytfjoamlgbegpgaa.PN Go.Proofs
set_option maxRecDepth 100000
set_option linter.unusedVariables false
def envf87 (k : Nat) : Ev El := envOf CC0 []
theorem envf87_ok (k : Nat) : EvOk Try.prog CC0 P0 G (envf87 k) := env_ok (sums_nil)
def ktf87 : Nat → Nat → Nat := fun rid q => 0
theorem f87_ok {k : Nat} {a0_0 : ByteArray} {a0_1 : ByteArray} {r : ByteArray × ByteArray} (h : f87 k a0_0 a0_1 = some r) : callT Try.prog CC0 P0 87 (List.map (denV G) [.agg [.s a0_0, .s a0_1]]) (List.map (denO G) []) = some (denV G (f87.o a0_0 a0_1 r).1, List.map (denO G) (f87.o a0_0 a0_1 r).2) :=
 fn_ok0 (k := k) (E := envf87) (kt := ktf87) (start := f87.start k a0_0 a0_1) (o := f87.o a0_0 a0_1) (h0 := .all) (objs := []) G_ok envf87_ok rfl Try.func87 rfl (by kernel_rfl) (by kernel_rfl) rfl (Nat.le_of_ble_eq_true (by kernel_rfl)) (by kernel_rfl) ((by kernel_rfl : (f87.start k a0_0 a0_1).run Empty.elim = f87 k a0_0 a0_1).trans h)
theorem sf87_ok (k : Nat) : SumOk Try.prog CC0 P0 G 87 (sf87 k) := by
 intro as0' os0' lk r l h0'
 unfold sf87 at h0'
 obtain ⟨v0, as1', rfl, h1'⟩ := lH_runs h0'; obtain ⟨rfl, h2'⟩ := lT_runs h1'; obtain ⟨rfl, h3'⟩ := lT_runs h2'; obtain ⟨b1', e1, h4'⟩ := argA_runs h3'; obtain ⟨y2', r2', e2, h5'⟩ := argH_runs h4'; obtain ⟨y3', r3', e3, h6'⟩ := argH_runs h5'; obtain ⟨e4, h7'⟩ := argT_runs h6'; obtain ⟨a0_0, e5, h8'⟩ := argS_runs h7'; obtain ⟨a0_1, e6, h9'⟩ := argS_runs h8'; obtain ⟨z', hz', h⟩ := call_runs h9'
 obtain ⟨rfl, rfl⟩ := runs_ret.1 h; exact ⟨rfl, by simp only [List.map_cons, List.map_nil, e1, e2, e3, e4, e5, e6]; exact f87_ok hz'⟩
end Go.Proofs.Ytfjoamlgbegpgaa.P
namespace Go.Proofs.Ytfjoamlgbegpgaa.P
open Go Go.Proofs.Ytfjoamlgbegpgaa.PM Go.Proofs.Ytfjoamlgbegpgaa.PN Go.Proofs
set_option maxRecDepth 100000
set_option linter.unusedVariables false
def envf47 (k : Nat) : Ev El := envOf CC0 [(87, sf87 k)]
theorem envf47_ok (k : Nat) : EvOk Try.prog CC0 P0 G (envf47 k) := env_ok (sums_cons (sf87_ok k) (sums_nil))
def ktf47 : Nat → Nat → Nat := fun rid q => 0
theorem f47_ok {k : Nat} {a0_0 : List S106} {r : (List S80)} (h : f47 k a0_0 = some r) : callT Try.prog CC0 P0 47 (List.map (denV G) [.sl 0 a0_0 []]) (List.map (denO G) []) = some (denV G (f47.o a0_0 r).1, List.map (denO G) (f47.o a0_0 r).2) :=
 fn_ok (k := k) (E := envf47) (kt := ktf47) (start := f47.start k a0_0) (stt := f47.st) (o := f47.o a0_0) (h0 := .all) (D := f47.D) (blk := f47.blk) (hint := f47.hint) (objs := []) G_ok envf47_ok rfl Try.func47 rfl (by kernel_rfl) (by kernel_rfl) rfl (Nat.le_of_ble_eq_true (by kernel_rfl)) (fun x => by cases x <;> kernel_rfl) (fun k x => by cases x <;> kernel_rfl) (fun k x => by cases x <;> kernel_rfl) (by kernel_rfl) ((by kernel_rfl : (f47.start k a0_0).run (f47.D k) = f47 k a0_0).trans h)
theorem sf47_ok (k : Nat) : SumOk Try.prog CC0 P0 G 47 (sf47 k) := by
 intro as0' os0' lk r l h0'
 unfold sf47 at h0'
 obtain ⟨v0, as1', rfl, h1'⟩ := lH_runs h0'; obtain ⟨rfl, h2'⟩ := lT_runs h1'; obtain ⟨rfl, h3'⟩ := lT_runs h2'; obtain ⟨a0_0, e1, h4'⟩ := argL_runs h3'; obtain ⟨z', hz', h⟩ := call_runs h4'
 obtain ⟨rfl, rfl⟩ := runs_ret.1 h; exact ⟨rfl, by simp only [List.map_cons, List.map_nil, e1]; exact f47_ok hz'⟩
end Go.Proofs.Ytfjoamlgbegpgaa.P
namespace Go.Proofs.Ytfjoamlgbegpgaa.P
open Go Go.Proofs.Ytfjoamlgbegpgaa.PM Go.Proofs.Ytfjoamlgbegpgaa.PN Go.Proofs
set_option maxRecDepth 100000
set_option linter.unusedVariables false
def envf88 (k : Nat) : Ev El := envOf CC0 []
theorem envf88_ok (k : Nat) : EvOk Try.prog CC0 P0 G (envf88 k) := env_ok (sums_nil)
def ktf88 : Nat → Nat → Nat := fun rid q => 0
theorem f88_ok {k : Nat} {a0_0 : Int} {a0_1 : ByteArray} {a0_2 : ByteArray} {a0_3 : ByteArray} {r : Int × ByteArray × ByteArray × ByteArray} (h : f88 k a0_0 a0_1 a0_2 a0_3 = some r) : callT Try.prog CC0 P0 88 (List.map (denV G) [.agg [.id .i64 0 a0_0, .s a0_1, .s a0_2, .s a0_3]]) (List.map (denO G) []) = some (denV G (f88.o a0_0 a0_1 a0_2 a0_3 r).1, List.map (denO G) (f88.o a0_0 a0_1 a0_2 a0_3 r).2) :=
 fn_ok0 (k := k) (E := envf88) (kt := ktf88) (start := f88.start k a0_0 a0_1 a0_2 a0_3) (o := f88.o a0_0 a0_1 a0_2 a0_3) (h0 := .all) (objs := []) G_ok envf88_ok rfl Try.func88 rfl (by kernel_rfl) (by kernel_rfl) rfl (Nat.le_of_ble_eq_true (by kernel_rfl)) (by kernel_rfl) ((by kernel_rfl : (f88.start k a0_0 a0_1 a0_2 a0_3).run Empty.elim = f88 k a0_0 a0_1 a0_2 a0_3).trans h)
theorem sf88_ok (k : Nat) : SumOk Try.prog CC0 P0 G 88 (sf88 k) := by
 intro as0' os0' lk r l h0'
 unfold sf88 at h0'
 obtain ⟨v0, as1', rfl, h1'⟩ := lH_runs h0'; obtain ⟨rfl, h2'⟩ := lT_runs h1'; obtain ⟨rfl, h3'⟩ := lT_runs h2'; obtain ⟨b1', e1, h4'⟩ := argA_runs h3'; obtain ⟨y2', r2', e2, h5'⟩ := argH_runs h4'; obtain ⟨y3', r3', e3, h6'⟩ := argH_runs h5'; obtain ⟨y4', r4', e4, h7'⟩ := argH_runs h6'; obtain ⟨y5', r5', e5, h8'⟩ := argH_runs h7'; obtain ⟨e6, h9'⟩ := argT_runs h8'; obtain ⟨a0_0, e7, h10'⟩ := argI_runs h9'; obtain ⟨a0_1, e8, h11'⟩ := argS_runs h10'; obtain ⟨a0_2, e9, h12'⟩ := argS_runs h11'; obtain ⟨a0_3, e10, h13'⟩ := argS_runs h12'; obtain ⟨z', hz', h⟩ := call_runs h13'
 obtain ⟨rfl, rfl⟩ := runs_ret.1 h; exact ⟨rfl, by simp only [List.map_cons, List.map_nil, e1, e2, e3, e4, e5, e6, e7, e8, e9, e10]; exact f88_ok hz'⟩
end Go.Proofs.Ytfjoamlgbegpgaa.P
namespace Go.Proofs.Ytfjoamlgbegpgaa.P
open Go Go.Proofs.Ytfjoamlgbegpgaa.PM Go.Proofs.Ytfjoamlgbegpgaa.PN Go.Proofs
set_option maxRecDepth 100000
set_option linter.unusedVariables false
def envf48 (k : Nat) : Ev El := envOf CC0 [(88, sf88 k)]
theorem envf48_ok (k : Nat) : EvOk Try.prog CC0 P0 G (envf48 k) := env_ok (sums_cons (sf88_ok k) (sums_nil))
def ktf48 : Nat → Nat → Nat := fun rid q => 0
theorem f48_ok {k : Nat} {a0_0 : List S108} {r : (List S73)} (h : f48 k a0_0 = some r) : callT Try.prog CC0 P0 48 (List.map (denV G) [.sl 1 a0_0 []]) (List.map (denO G) []) = some (denV G (f48.o a0_0 r).1, List.map (denO G) (f48.o a0_0 r).2) :=
 fn_ok (k := k) (E := envf48) (kt := ktf48) (start := f48.start k a0_0) (stt := f48.st) (o := f48.o a0_0) (h0 := .all) (D := f48.D) (blk := f48.blk) (hint := f48.hint) (objs := []) G_ok envf48_ok rfl Try.func48 rfl (by kernel_rfl) (by kernel_rfl) rfl (Nat.le_of_ble_eq_true (by kernel_rfl)) (fun x => by cases x <;> kernel_rfl) (fun k x => by cases x <;> kernel_rfl) (fun k x => by cases x <;> kernel_rfl) (by kernel_rfl) ((by kernel_rfl : (f48.start k a0_0).run (f48.D k) = f48 k a0_0).trans h)
theorem sf48_ok (k : Nat) : SumOk Try.prog CC0 P0 G 48 (sf48 k) := by
 intro as0' os0' lk r l h0'
 unfold sf48 at h0'
 obtain ⟨v0, as1', rfl, h1'⟩ := lH_runs h0'; obtain ⟨rfl, h2'⟩ := lT_runs h1'; obtain ⟨rfl, h3'⟩ := lT_runs h2'; obtain ⟨a0_0, e1, h4'⟩ := argL_runs h3'; obtain ⟨z', hz', h⟩ := call_runs h4'
 obtain ⟨rfl, rfl⟩ := runs_ret.1 h; exact ⟨rfl, by simp only [List.map_cons, List.map_nil, e1]; exact f48_ok hz'⟩
end Go.Proofs.Ytfjoamlgbegpgaa.P
namespace Go.Proofs.Ytfjoamlgbegpgaa.P
open Go Go.Proofs.Ytfjoamlgbegpgaa.PM Go.Proofs.Ytfjoamlgbegpgaa.PN Go.Proofs
set_option maxRecDepth 100000
set_option linter.unusedVariables false
def envf14 (k : Nat) : Ev El := envOf CC0 [(47, sf47 k), (48, sf48 k)]
theorem envf14_ok (k : Nat) : EvOk Try.prog CC0 P0 G (envf14 k) := env_ok (sums_cons (sf47_ok k) (sums_cons (sf48_ok k) (sums_nil)))
def ktf14 : Nat → Nat → Nat := fun rid q => 0
theorem f14_ok {k : Nat} {a0_0 : List S106} {a0_1 : List S106} {a0_2 : List S108} {r : (List S80) × (List S80) × (List S73)} (h : f14 k a0_0 a0_1 a0_2 = some r) : callT Try.prog CC0 P0 14 (List.map (denV G) [.agg [.sl 0 a0_0 [], .sl 0 a0_1 [], .sl 1 a0_2 []]]) (List.map (denO G) []) = some (denV G (f14.o a0_0 a0_1 a0_2 r).1, List.map (denO G) (f14.o a0_0 a0_1 a0_2 r).2) :=
 fn_ok0 (k := k) (E := envf14) (kt := ktf14) (start := f14.start k a0_0 a0_1 a0_2) (o := f14.o a0_0 a0_1 a0_2) (h0 := .all) (objs := []) G_ok envf14_ok rfl Try.func14 rfl (by kernel_rfl) (by kernel_rfl) rfl (Nat.le_of_ble_eq_true (by kernel_rfl)) (by kernel_rfl) ((by kernel_rfl : (f14.start k a0_0 a0_1 a0_2).run Empty.elim = f14 k a0_0 a0_1 a0_2).trans h)
theorem sf14_ok (k : Nat) : SumOk Try.prog CC0 P0 G 14 (sf14 k) := by
 intro as0' os0' lk r l h0'
 unfold sf14 at h0'
 obtain ⟨v0, as1', rfl, h1'⟩ := lH_runs h0'; obtain ⟨rfl, h2'⟩ := lT_runs h1'; obtain ⟨rfl, h3'⟩ := lT_runs h2'; obtain ⟨b1', e1, h4'⟩ := argA_runs h3'; obtain ⟨y2', r2', e2, h5'⟩ := argH_runs h4'; obtain ⟨y3', r3', e3, h6'⟩ := argH_runs h5'; obtain ⟨y4', r4', e4, h7'⟩ := argH_runs h6'; obtain ⟨e5, h8'⟩ := argT_runs h7'; obtain ⟨a0_0, e6, h9'⟩ := argL_runs h8'; obtain ⟨a0_1, e7, h10'⟩ := argL_runs h9'; obtain ⟨a0_2, e8, h11'⟩ := argL_runs h10'; obtain ⟨z', hz', h⟩ := call_runs h11'
 obtain ⟨rfl, rfl⟩ := runs_ret.1 h; exact ⟨rfl, by simp only [List.map_cons, List.map_nil, e1, e2, e3, e4, e5, e6, e7, e8]; exact f14_ok hz'⟩
end Go.Proofs.Ytfjoamlgbegpgaa.P
namespace Go.Proofs.Ytfjoamlgbegpgaa.P
open Go Go.Proofs.Ytfjoamlgbegpgaa.PM Go.Proofs.Ytfjoamlgbegpgaa.PN Go.Proofs
set_option maxRecDepth 100000
set_option linter.unusedVariables false
def envf91 (k : Nat) : Ev El := envOf CC0 []
theorem envf91_ok (k : Nat) : EvOk Try.prog CC0 P0 G (envf91 k) := env_ok (sums_nil)
def ktf91 : Nat → Nat → Nat := fun rid q => 0
theorem f91_ok {k : Nat} {a0_0 : ByteArray} {a0_1 : ByteArray} {a1_0 : ByteArray} {a1_1 : ByteArray} {r : Bool} (h : f91 k a0_0 a0_1 a1_0 a1_1 = some r) : callT Try.prog CC0 P0 91 (List.map (denV G) [.agg [.s a0_0, .s a0_1], .agg [.s a1_0, .s a1_1]]) (List.map (denO G) []) = some (denV G (f91.o a0_0 a0_1 a1_0 a1_1 r).1, List.map (denO G) (f91.o a0_0 a0_1 a1_0 a1_1 r).2) :=
 fn_ok0 (k := k) (E := envf91) (kt := ktf91) (start := f91.start k a0_0 a0_1 a1_0 a1_1) (o := f91.o a0_0 a0_1 a1_0 a1_1) (h0 := .all) (objs := []) G_ok envf91_ok rfl Try.func91 rfl (by kernel_rfl) (by kernel_rfl) rfl (Nat.le_of_ble_eq_true (by kernel_rfl)) (by kernel_rfl) ((by kernel_rfl : (f91.start k a0_0 a0_1 a1_0 a1_1).run Empty.elim = f91 k a0_0 a0_1 a1_0 a1_1).trans h)
theorem sf91_ok (k : Nat) : SumOk Try.prog CC0 P0 G 91 (sf91 k) := by
 intro as0' os0' lk r l h0'
 unfold sf91 at h0'
 obtain ⟨v0, as1', rfl, h1'⟩ := lH_runs h0'; obtain ⟨v1, as2', rfl, h2'⟩ := lH_runs h1'; obtain ⟨rfl, h3'⟩ := lT_runs h2'; obtain ⟨rfl, h4'⟩ := lT_runs h3'; obtain ⟨b1', e1, h5'⟩ := argA_runs h4'; obtain ⟨y2', r2', e2, h6'⟩ := argH_runs h5'; obtain ⟨y3', r3', e3, h7'⟩ := argH_runs h6'; obtain ⟨e4, h8'⟩ := argT_runs h7'; obtain ⟨a0_0, e5, h9'⟩ := argS_runs h8'; obtain ⟨a0_1, e6, h10'⟩ := argS_runs h9'; obtain ⟨b4', e7, h11'⟩ := argA_runs h10'; obtain ⟨y5', r5', e8, h12'⟩ := argH_runs h11'; obtain ⟨y6', r6', e9, h13'⟩ := argH_runs h12'; obtain ⟨e10, h14'⟩ := argT_runs h13'; obtain ⟨a1_0, e11, h15'⟩ := argS_runs h14'; obtain ⟨a1_1, e12, h16'⟩ := argS_runs h15'; obtain ⟨z', hz', h⟩ := call_runs h16'
 obtain ⟨rfl, rfl⟩ := runs_ret.1 h; exact ⟨rfl, by simp only [List.map_cons, List.map_nil, e1, e2, e3, e4, e5, e6, e7, e8, e9, e10, e11, e12]; exact f91_ok hz'⟩
end Go.Proofs.Ytfjoamlgbegpgaa.P
namespace Go.Proofs.Ytfjoamlgbegpgaa.P
open Go Go.Proofs.Ytfjoamlgbegpgaa.PM Go.Proofs.Ytfjoamlgbegpgaa.PN Go.Proofs
set_option maxRecDepth 100000
set_option linter.unusedVariables false
def envf50 (k : Nat) : Ev El := envOf CC0 [(91, sf91 k)]
theorem envf50_ok (k : Nat) : EvOk Try.prog CC0 P0 G (envf50 k) := env_ok (sums_cons (sf91_ok k) (sums_nil))
def ktf50 : Nat → Nat → Nat := fun rid q => 0
theorem f50_ok {k : Nat} {a0_0 : List S80} {a1_0 : List S80} {r : Bool} (h : f50 k a0_0 a1_0 = some r) : callT Try.prog CC0 P0 50 (List.map (denV G) [.sl 2 a0_0 [], .sl 2 a1_0 []]) (List.map (denO G) []) = some (denV G (f50.o a0_0 a1_0 r).1, List.map (denO G) (f50.o a0_0 a1_0 r).2) :=
 fn_ok (k := k) (E := envf50) (kt := ktf50) (start := f50.start k a0_0 a1_0) (stt := f50.st) (o := f50.o a0_0 a1_0) (h0 := .all) (D := f50.D) (blk := f50.blk) (hint := f50.hint) (objs := []) G_ok envf50_ok rfl Try.func50 rfl (by kernel_rfl) (by kernel_rfl) rfl (Nat.le_of_ble_eq_true (by kernel_rfl)) (fun x => by cases x <;> kernel_rfl) (fun k x => by cases x <;> kernel_rfl) (fun k x => by cases x <;> kernel_rfl) (by kernel_rfl) ((by kernel_rfl : (f50.start k a0_0 a1_0).run (f50.D k) = f50 k a0_0 a1_0).trans h)
theorem sf50_ok (k : Nat) : SumOk Try.prog CC0 P0 G 50 (sf50 k) := by
 intro as0' os0' lk r l h0'
 unfold sf50 at h0'
 obtain ⟨v0, as1', rfl, h1'⟩ := lH_runs h0'; obtain ⟨v1, as2', rfl, h2'⟩ := lH_runs h1'; obtain ⟨rfl, h3'⟩ := lT_runs h2'; obtain ⟨rfl, h4'⟩ := lT_runs h3'; obtain ⟨a0_0, e1, h5'⟩ := argL_runs h4'; obtain ⟨a1_0, e2, h6'⟩ := argL_runs h5'; obtain ⟨z', hz', h⟩ := call_runs h6'
 obtain ⟨rfl, rfl⟩ := runs_ret.1 h; exact ⟨rfl, by simp only [List.map_cons, List.map_nil, e1, e2]; exact f50_ok hz'⟩
end Go.Proofs.Ytfjoamlgbegpgaa.P
namespace Go.Proofs.Ytfjoamlgbegpgaa.P
open Go Go.Proofs.Ytfjoamlgbegpgaa.PM Go.Proofs.Ytfjoamlgbegpgaa.PN Go.Proofs
set_option maxRecDepth 100000
set_option linter.unusedVariables false
def envf92 (k : Nat) : Ev El := envOf CC0 []
theorem envf92_ok (k : Nat) : EvOk Try.prog CC0 P0 G (envf92 k) := env_ok (sums_nil)
def ktf92 : Nat → Nat → Nat := fun rid q => 0
theorem f92_ok {k : Nat} {a0_0 : Int} {a0_1 : ByteArray} {a0_2 : ByteArray} {a0_3 : ByteArray} {a1_0 : Int} {a1_1 : ByteArray} {a1_2 : ByteArray} {a1_3 : ByteArray} {r : Bool} (h : f92 k a0_0 a0_1 a0_2 a0_3 a1_0 a1_1 a1_2 a1_3 = some r) : callT Try.prog CC0 P0 92 (List.map (denV G) [.agg [.id .i64 0 a0_0, .s a0_1, .s a0_2, .s a0_3], .agg [.id .i64 0 a1_0, .s a1_1, .s a1_2, .s a1_3]]) (List.map (denO G) []) = some (denV G (f92.o a0_0 a0_1 a0_2 a0_3 a1_0 a1_1 a1_2 a1_3 r).1, List.map (denO G) (f92.o a0_0 a0_1 a0_2 a0_3 a1_0 a1_1 a1_2 a1_3 r).2) :=
 fn_ok0 (k := k) (E := envf92) (kt := ktf92) (start := f92.start k a0_0 a0_1 a0_2 a0_3 a1_0 a1_1 a1_2 a1_3) (o := f92.o a0_0 a0_1 a0_2 a0_3 a1_0 a1_1 a1_2 a1_3) (h0 := .all) (objs := []) G_ok envf92_ok rfl Try.func92 rfl (by kernel_rfl) (by kernel_rfl) rfl (Nat.le_of_ble_eq_true (by kernel_rfl)) (by kernel_rfl) ((by kernel_rfl : (f92.start k a0_0 a0_1 a0_2 a0_3 a1_0 a1_1 a1_2 a1_3).run Empty.elim = f92 k a0_0 a0_1 a0_2 a0_3 a1_0 a1_1 a1_2 a1_3).trans h)
theorem sf92_ok (k : Nat) : SumOk Try.prog CC0 P0 G 92 (sf92 k) := by
 intro as0' os0' lk r l h0'
 unfold sf92 at h0'
 obtain ⟨v0, as1', rfl, h1'⟩ := lH_runs h0'; obtain ⟨v1, as2', rfl, h2'⟩ := lH_runs h1'; obtain ⟨rfl, h3'⟩ := lT_runs h2'; obtain ⟨rfl, h4'⟩ := lT_runs h3'; obtain ⟨b1', e1, h5'⟩ := argA_runs h4'; obtain ⟨y2', r2', e2, h6'⟩ := argH_runs h5'; obtain ⟨y3', r3', e3, h7'⟩ := argH_runs h6'; obtain ⟨y4', r4', e4, h8'⟩ := argH_runs h7'; obtain ⟨y5', r5', e5, h9'⟩ := argH_runs h8'; obtain ⟨e6, h10'⟩ := argT_runs h9'; obtain ⟨a0_0, e7, h11'⟩ := argI_runs h10'; obtain ⟨a0_1, e8, h12'⟩ := argS_runs h11'; obtain ⟨a0_2, e9, h13'⟩ := argS_runs h12'; obtain ⟨a0_3, e10, h14'⟩ := argS_runs h13'; obtain ⟨b6', e11, h15'⟩ := argA_runs h14'; obtain ⟨y7', r7', e12, h16'⟩ := argH_runs h15'; obtain ⟨y8', r8', e13, h17'⟩ := argH_runs h16'; obtain ⟨y9', r9', e14, h18'⟩ := argH_runs h17'; obtain ⟨y10', r10', e15, h19'⟩ := argH_runs h18'; obtain ⟨e16, h20'⟩ := argT_runs h19'; obtain ⟨a1_0, e17, h21'⟩ := argI_runs h20'; obtain ⟨a1_1, e18, h22'⟩ := argS_runs h21'; obtain ⟨a1_2, e19, h23'⟩ := argS_runs h22'; obtain ⟨a1_3, e20, h24'⟩ := argS_runs h23'; obtain ⟨z', hz', h⟩ := call_runs h24'
 obtain ⟨rfl, rfl⟩ := runs_ret.1 h; exact ⟨rfl, by simp only [List.map_cons, List.map_nil, e1, e2, e3, e4, e5, e6, e7, e8, e9, e10, e11, e12, e13, e14, e15, e16, e17, e18, e19, e20]; exact f92_ok hz'⟩
end Go.Proofs.Ytfjoamlgbegpgaa.P
namespace Go.Proofs.Ytfjoamlgbegpgaa.P
open Go Go.Proofs.Ytfjoamlgbegpgaa.PM Go.Proofs.Ytfjoamlgbegpgaa.PN Go.Proofs
set_option maxRecDepth 100000
set_option linter.unusedVariables false
def envf51 (k : Nat) : Ev El := envOf CC0 [(92, sf92 k)]
theorem envf51_ok (k : Nat) : EvOk Try.prog CC0 P0 G (envf51 k) := env_ok (sums_cons (sf92_ok k) (sums_nil))
def ktf51 : Nat → Nat → Nat := fun rid q => 0
theorem f51_ok {k : Nat} {a0_0 : List S73} {a1_0 : List S73} {r : Bool} (h : f51 k a0_0 a1_0 = some r) : callT Try.prog CC0 P0 51 (List.map (denV G) [.sl 3 a0_0 [], .sl 3 a1_0 []]) (List.map (denO G) []) = some (denV G (f51.o a0_0 a1_0 r).1, List.map (denO G) (f51.o a0_0 a1_0 r).2) :=
 fn_ok (k := k) (E := envf51) (kt := ktf51) (start := f51.start k a0_0 a1_0) (stt := f51.st) (o := f51.o a0_0 a1_0) (h0 := .all) (D := f51.D) (blk := f51.blk) (hint := f51.hint) (objs := []) G_ok envf51_ok rfl Try.func51 rfl (by kernel_rfl) (by kernel_rfl) rfl (Nat.le_of_ble_eq_true (by kernel_rfl)) (fun x => by cases x <;> kernel_rfl) (fun k x => by cases x <;> kernel_rfl) (fun k x => by cases x <;> kernel_rfl) (by kernel_rfl) ((by kernel_rfl : (f51.start k a0_0 a1_0).run (f51.D k) = f51 k a0_0 a1_0).trans h)
theorem sf51_ok (k : Nat) : SumOk Try.prog CC0 P0 G 51 (sf51 k) := by
 intro as0' os0' lk r l h0'
 unfold sf51 at h0'
 obtain ⟨v0, as1', rfl, h1'⟩ := lH_runs h0'; obtain ⟨v1, as2', rfl, h2'⟩ := lH_runs h1'; obtain ⟨rfl, h3'⟩ := lT_runs h2'; obtain ⟨rfl, h4'⟩ := lT_runs h3'; obtain ⟨a0_0, e1, h5'⟩ := argL_runs h4'; obtain ⟨a1_0, e2, h6'⟩ := argL_runs h5'; obtain ⟨z', hz', h⟩ := call_runs h6'
 obtain ⟨rfl, rfl⟩ := runs_ret.1 h; exact ⟨rfl, by simp only [List.map_cons, List.map_nil, e1, e2]; exact f51_ok hz'⟩
end Go.Proofs.Ytfjoamlgbegpgaa.P
namespace Go.Proofs.Ytfjoamlgbegpgaa.P
open Go Go.Proofs.Ytfjoamlgbegpgaa.PM Go.Proofs.Ytfjoamlgbegpgaa.PN Go.Proofs
set_option maxRecDepth 100000
set_option linter.unusedVariables false
def envf16 (k : Nat) : Ev El := envOf CC0 [(50, sf50 k), (51, sf51 k)]
theorem envf16_ok (k : Nat) : EvOk Try.prog CC0 P0 G (envf16 k) := env_ok (sums_cons (sf50_ok k) (sums_cons (sf51_ok k) (sums_nil)))
def ktf16 : Nat → Nat → Nat := fun rid q => 0
theorem f16_ok {k : Nat} {a0_0 : List S80} {a0_1 : List S80} {a0_2 : List S73} {a1_0 : List S80} {a1_1 : List S80} {a1_2 : List S73} {r : Bool} (h : f16 k a0_0 a0_1 a0_2 a1_0 a1_1 a1_2 = some r) : callT Try.prog CC0 P0 16 (List.map (denV G) [.agg [.sl 2 a0_0 [], .sl 2 a0_1 [], .sl 3 a0_2 []], .agg [.sl 2 a1_0 [], .sl 2 a1_1 [], .sl 3 a1_2 []]]) (List.map (denO G) []) = some (denV G (f16.o a0_0 a0_1 a0_2 a1_0 a1_1 a1_2 r).1, List.map (denO G) (f16.o a0_0 a0_1 a0_2 a1_0 a1_1 a1_2 r).2) :=
 fn_ok0 (k := k) (E := envf16) (kt := ktf16) (start := f16.start k a0_0 a0_1 a0_2 a1_0 a1_1 a1_2) (o := f16.o a0_0 a0_1 a0_2 a1_0 a1_1 a1_2) (h0 := .all) (objs := []) G_ok envf16_ok rfl Try.func16 rfl (by kernel_rfl) (by kernel_rfl) rfl (Nat.le_of_ble_eq_true (by kernel_rfl)) (by kernel_rfl) ((by kernel_rfl : (f16.start k a0_0 a0_1 a0_2 a1_0 a1_1 a1_2).run Empty.elim = f16 k a0_0 a0_1 a0_2 a1_0 a1_1 a1_2).trans h)
theorem sf16_ok (k : Nat) : SumOk Try.prog CC0 P0 G 16 (sf16 k) := by
 intro as0' os0' lk r l h0'
 unfold sf16 at h0'
 obtain ⟨v0, as1', rfl, h1'⟩ := lH_runs h0'; obtain ⟨v1, as2', rfl, h2'⟩ := lH_runs h1'; obtain ⟨rfl, h3'⟩ := lT_runs h2'; obtain ⟨rfl, h4'⟩ := lT_runs h3'; obtain ⟨b1', e1, h5'⟩ := argA_runs h4'; obtain ⟨y2', r2', e2, h6'⟩ := argH_runs h5'; obtain ⟨y3', r3', e3, h7'⟩ := argH_runs h6'; obtain ⟨y4', r4', e4, h8'⟩ := argH_runs h7'; obtain ⟨e5, h9'⟩ := argT_runs h8'; obtain ⟨a0_0, e6, h10'⟩ := argL_runs h9'; obtain ⟨a0_1, e7, h11'⟩ := argL_runs h10'; obtain ⟨a0_2, e8, h12'⟩ := argL_runs h11'; obtain ⟨b5', e9, h13'⟩ := argA_runs h12'; obtain ⟨y6', r6', e10, h14'⟩ := argH_runs h13'; obtain ⟨y7', r7', e11, h15'⟩ := argH_runs h14'; obtain ⟨y8', r8', e12, h16'⟩ := argH_runs h15'; obtain ⟨e13, h17'⟩ := argT_runs h16'; obtain ⟨a1_0, e14, h18'⟩ := argL_runs h17'; obtain ⟨a1_1, e15, h19'⟩ := argL_runs h18'; obtain ⟨a1_2, e16, h20'⟩ := argL_runs h19'; obtain ⟨z', hz', h⟩ := call_runs h20'
 obtain ⟨rfl, rfl⟩ := runs_ret.1 h; exact ⟨rfl, by simp only [List.map_cons, List.map_nil, e1, e2, e3, e4, e5, e6, e7, e8, e9, e10, e11, e12, e13, e14, e15, e16]; exact f16_ok hz'⟩
end Go.Proofs.Ytfjoamlgbegpgaa.P
namespace Go.Proofs.Ytfjoamlgbegpgaa.P
open Go Go.Proofs.Ytfjoamlgbegpgaa.PM Go.Proofs.Ytfjoamlgbegpgaa.PN Go.Proofs
set_option maxRecDepth 100000
set_option linter.unusedVariables false
def envf105 (k : Nat) : Ev El := envOf CC0 []
theorem envf105_ok (k : Nat) : EvOk Try.prog CC0 P0 G (envf105 k) := env_ok (sums_nil)
def ktf105 : Nat → Nat → Nat := fun rid q => 0
theorem f105_ok {k : Nat} {a0_0 : Int} {r : ByteArray} (h : f105 k a0_0 = some r) : callT Try.prog CC0 P0 105 (List.map (denV G) [.id .i64 1 a0_0]) (List.map (denO G) []) = some (denV G (f105.o a0_0 r).1, List.map (denO G) (f105.o a0_0 r).2) :=
 fn_ok (k := k) (E := envf105) (kt := ktf105) (start := f105.start k a0_0) (stt := f105.st) (o := f105.o a0_0) (h0 := .all) (D := f105.D) (blk := f105.blk) (hint := f105.hint) (objs := []) G_ok envf105_ok rfl Try.func105 rfl (by kernel_rfl) (by kernel_rfl) rfl (Nat.le_of_ble_eq_true (by kernel_rfl)) (fun x => by cases x <;> kernel_rfl) (fun k x => by cases x <;> kernel_rfl) (fun k x => by cases x <;> kernel_rfl) (by kernel_rfl) ((by kernel_rfl : (f105.start k a0_0).run (f105.D k) = f105 k a0_0).trans h)
theorem sf105_ok (k : Nat) : SumOk Try.prog CC0 P0 G 105 (sf105 k) := by
 intro as0' os0' lk r l h0'
 unfold sf105 at h0'
 obtain ⟨v0, as1', rfl, h1'⟩ := lH_runs h0'; obtain ⟨rfl, h2'⟩ := lT_runs h1'; obtain ⟨rfl, h3'⟩ := lT_runs h2'; obtain ⟨a0_0, e1, h4'⟩ := argI_runs h3'; obtain ⟨z', hz', h⟩ := call_runs h4'
 obtain ⟨rfl, rfl⟩ := runs_ret.1 h; exact ⟨rfl, by simp only [List.map_cons, List.map_nil, e1]; exact f105_ok hz'⟩
end Go.Proofs.Ytfjoamlgbegpgaa.P
namespace Go.Proofs.Ytfjoamlgbegpgaa.P
open Go Go.Proofs.Ytfjoamlgbegpgaa.PM Go.Proofs.Ytfjoamlgbegpgaa.PN Go.Proofs
set_option maxRecDepth 100000
set_option linter.unusedVariables false
def envf68 (k : Nat) : Ev El := envOf CC0 [(105, sf105 k)]
theorem envf68_ok (k : Nat) : EvOk Try.prog CC0 P0 G (envf68 k) := env_ok (sums_cons (sf105_ok k) (sums_nil))
def ktf68 : Nat → Nat → Nat := fun rid q => 0
theorem f68_ok {k : Nat} {a1_0 : Int} {o0 : List S80} {r : Int × (List S80)} (h : f68 k a1_0 o0 = some r) : callT Try.prog CC0 P0 68 (List.map (denV G) [.win 0 true (.l 0) (.d 0 o0.length), .id .i64 2 a1_0]) (List.map (denO G) [.row true true true 0 2 o0 none]) = some (denV G (f68.o a1_0 o0 r).1, List.map (denO G) (f68.o a1_0 o0 r).2) :=
 fn_ok (k := k) (E := envf68) (kt := ktf68) (start := f68.start k a1_0 o0) (stt := f68.st) (o := f68.o a1_0 o0) (h0 := .all) (D := f68.D) (blk := f68.blk) (hint := f68.hint) (objs := [.row true true true 0 2 o0 none]) G_ok envf68_ok rfl Try.func68 rfl (by kernel_rfl) (by kernel_rfl) rfl (Nat.le_of_ble_eq_true (by kernel_rfl)) (fun x => by cases x <;> kernel_rfl) (fun k x => by cases x <;> kernel_rfl) (fun k x => by cases x <;> kernel_rfl) (by kernel_rfl) ((by kernel_rfl : (f68.start k a1_0 o0).run (f68.D k) = f68 k a1_0 o0).trans h)
theorem sf68_ok (k : Nat) : SumOk Try.prog CC0 P0 G 68 (sf68 k) := by
 intro as0' os0' lk r l h0'
 unfold sf68 at h0'
 obtain ⟨v0, as1', rfl, h1'⟩ := lH_runs h0'; obtain ⟨v1, as2', rfl, h2'⟩ := lH_runs h1'; obtain ⟨rfl, h3'⟩ := lT_runs h2'; obtain ⟨x0, os1', rfl, h4'⟩ := lH_runs h3'; obtain ⟨rfl, h5'⟩ := lT_runs h4'; obtain ⟨o0, e1, h6'⟩ := argR_runs h5'; obtain ⟨e2, h7'⟩ := argW_runs h6'; obtain ⟨a1_0, e3, h8'⟩ := argI_runs h7'; obtain ⟨z', hz', h⟩ := call_runs h8'
 obtain ⟨rfl, rfl⟩ := runs_ret.1 h; exact ⟨rfl, by simp only [List.map_cons, List.map_nil, e1, e2, e3]; exact f68_ok hz'⟩
end Go.Proofs.Ytfjoamlgbegpgaa.P
namespace Go.Proofs.Ytfjoamlgbegpgaa.P
open Go Go.Proofs.Ytfjoamlgbegpgaa.PM Go.Proofs.Ytfjoamlgbegpgaa.PN Go.Proofs
set_option maxRecDepth 100000
set_option linter.unusedVariables false
def envf69 (k : Nat) : Ev El := envOf CC0 [(105, sf105 k)]
theorem envf69_ok (k : Nat) : EvOk Try.prog CC0 P0 G (envf69 k) := env_ok (sums_cons (sf105_ok k) (sums_nil))
def ktf69 : Nat → Nat → Nat := fun rid q => 0
theorem f69_ok {k : Nat} {a1_0 : Int} {o0 : List S73} {r : Int × (List S73)} (h : f69 k a1_0 o0 = some r) : callT Try.prog CC0 P0 69 (List.map (denV G) [.win 0 true (.l 0) (.d 0 o0.length), .id .i64 2 a1_0]) (List.map (denO G) [.row true true true 0 3 o0 none]) = some (denV G (f69.o a1_0 o0 r).1, List.map (denO G) (f69.o a1_0 o0 r).2) :=
 fn_ok (k := k) (E := envf69) (kt := ktf69) (start := f69.start k a1_0 o0) (stt := f69.st) (o := f69.o a1_0 o0) (h0 := .all) (D := f69.D) (blk := f69.blk) (hint := f69.hint) (objs := [.row true true true 0 3 o0 none]) G_ok envf69_ok rfl Try.func69 rfl (by kernel_rfl) (by kernel_rfl) rfl (Nat.le_of_ble_eq_true (by kernel_rfl)) (fun x => by cases x <;> kernel_rfl) (fun k x => by cases x <;> kernel_rfl) (fun k x => by cases x <;> kernel_rfl) (by kernel_rfl) ((by kernel_rfl : (f69.start k a1_0 o0).run (f69.D k) = f69 k a1_0 o0).trans h)
theorem sf69_ok (k : Nat) : SumOk Try.prog CC0 P0 G 69 (sf69 k) := by
 intro as0' os0' lk r l h0'
 unfold sf69 at h0'
 obtain ⟨v0, as1', rfl, h1'⟩ := lH_runs h0'; obtain ⟨v1, as2', rfl, h2'⟩ := lH_runs h1'; obtain ⟨rfl, h3'⟩ := lT_runs h2'; obtain ⟨x0, os1', rfl, h4'⟩ := lH_runs h3'; obtain ⟨rfl, h5'⟩ := lT_runs h4'; obtain ⟨o0, e1, h6'⟩ := argR_runs h5'; obtain ⟨e2, h7'⟩ := argW_runs h6'; obtain ⟨a1_0, e3, h8'⟩ := argI_runs h7'; obtain ⟨z', hz', h⟩ := call_runs h8'
 obtain ⟨rfl, rfl⟩ := runs_ret.1 h; exact ⟨rfl, by simp only [List.map_cons, List.map_nil, e1, e2, e3]; exact f69_ok hz'⟩
end Go.Proofs.Ytfjoamlgbegpgaa.P
namespace Go.Proofs.Ytfjoamlgbegpgaa.P
open Go Go.Proofs.Ytfjoamlgbegpgaa.PM Go.Proofs.Ytfjoamlgbegpgaa.PN Go.Proofs
set_option maxRecDepth 100000
set_option linter.unusedVariables false
def envf29 (k : Nat) : Ev El := envOf CC0 [(68, sf68 k), (69, sf69 k)]
theorem envf29_ok (k : Nat) : EvOk Try.prog CC0 P0 G (envf29 k) := env_ok (sums_cons (sf68_ok k) (sums_cons (sf69_ok k) (sums_nil)))
def ktf29 : Nat → Nat → Nat := fun rid q => 0
theorem f29_ok {k : Nat} {a1_0 : Int} {o0 : List S80} {o1 : List S80} {o2 : List S73} {r : Int × (List S80) × (List S80) × (List S73)} (h : f29 k a1_0 o0 o1 o2 = some r) : callT Try.prog CC0 P0 29 (List.map (denV G) [.agg [.win 0 true (.l 0) (.d 0 o0.length), .win 1 true (.l 0) (.d 0 o1.length), .win 2 true (.l 0) (.d 0 o2.length)], .id .i64 2 a1_0]) (List.map (denO G) [.row true true true 0 2 o0 none, .row true true true 0 2 o1 none, .row true true true 0 3 o2 none]) = some (denV G (f29.o a1_0 o0 o1 o2 r).1, List.map (denO G) (f29.o a1_0 o0 o1 o2 r).2) :=
 fn_ok0 (k := k) (E := envf29) (kt := ktf29) (start := f29.start k a1_0 o0 o1 o2) (o := f29.o a1_0 o0 o1 o2) (h0 := .all) (objs := [.row true true true 0 2 o0 none, .row true true true 0 2 o1 none, .row true true true 0 3 o2 none]) G_ok envf29_ok rfl Try.func29 rfl (by kernel_rfl) (by kernel_rfl) rfl (Nat.le_of_ble_eq_true (by kernel_rfl)) (by kernel_rfl) ((by kernel_rfl : (f29.start k a1_0 o0 o1 o2).run Empty.elim = f29 k a1_0 o0 o1 o2).trans h)
theorem sf29_ok (k : Nat) : SumOk Try.prog CC0 P0 G 29 (sf29 k) := by
 intro as0' os0' lk r l h0'
 unfold sf29 at h0'
 obtain ⟨v0, as1', rfl, h1'⟩ := lH_runs h0'; obtain ⟨v1, as2', rfl, h2'⟩ := lH_runs h1'; obtain ⟨rfl, h3'⟩ := lT_runs h2'; obtain ⟨x0, os1', rfl, h4'⟩ := lH_runs h3'; obtain ⟨x1, os2', rfl, h5'⟩ := lH_runs h4'; obtain ⟨x2, os3', rfl, h6'⟩ := lH_runs h5'; obtain ⟨rfl, h7'⟩ := lT_runs h6'; obtain ⟨o0, e1, h8'⟩ := argR_runs h7'; obtain ⟨o1, e2, h9'⟩ := argR_runs h8'; obtain ⟨o2, e3, h10'⟩ := argR_runs h9'; obtain ⟨b1', e4, h11'⟩ := argA_runs h10'; obtain ⟨y2', r2', e5, h12'⟩ := argH_runs h11'; obtain ⟨y3', r3', e6, h13'⟩ := argH_runs h12'; obtain ⟨y4', r4', e7, h14'⟩ := argH_runs h13'; obtain ⟨e8, h15'⟩ := argT_runs h14'; obtain ⟨e9, h16'⟩ := argW_runs h15'; obtain ⟨e10, h17'⟩ := argW_runs h16'; obtain ⟨e11, h18'⟩ := argW_runs h17'; obtain ⟨a1_0, e12, h19'⟩ := argI_runs h18'; obtain ⟨z', hz', h⟩ := call_runs h19'
 obtain ⟨rfl, rfl⟩ := runs_ret.1 h; exact ⟨rfl, by simp only [List.map_cons, List.map_nil, e1, e2, e3, e4, e5, e6, e7, e8, e9, e10, e11, e12]; exact f29_ok hz'⟩
end Go.Proofs.Ytfjoamlgbegpgaa.P
namespace Go.Proofs.Ytfjoamlgbegpgaa.P
open Go Go.Proofs.Ytfjoamlgbegpgaa.PM Go.Proofs.Ytfjoamlgbegpgaa.PN Go.Proofs
set_option maxRecDepth 100000
set_option linter.unusedVariables false
def envf70 (k : Nat) : Ev El := envOf CC0 [(105, sf105 k)]
theorem envf70_ok (k : Nat) : EvOk Try.prog CC0 P0 G (envf70 k) := env_ok (sums_cons (sf105_ok k) (sums_nil))
def ktf70 : Nat → Nat → Nat := fun rid q => 0
theorem f70_ok {k : Nat} {a0_0 : List S80} {a1_0 : Int} {r : Int} (h : f70 k a0_0 a1_0 = some r) : callT Try.prog CC0 P0 70 (List.map (denV G) [.sl 2 a0_0 [], .id .i64 2 a1_0]) (List.map (denO G) []) = some (denV G (f70.o a0_0 a1_0 r).1, List.map (denO G) (f70.o a0_0 a1_0 r).2) :=
 fn_ok (k := k) (E := envf70) (kt := ktf70) (start := f70.start k a0_0 a1_0) (stt := f70.st) (o := f70.o a0_0 a1_0) (h0 := .all) (D := f70.D) (blk := f70.blk) (hint := f70.hint) (objs := []) G_ok envf70_ok rfl Try.func70 rfl (by kernel_rfl) (by kernel_rfl) rfl (Nat.le_of_ble_eq_true (by kernel_rfl)) (fun x => by cases x <;> kernel_rfl) (fun k x => by cases x <;> kernel_rfl) (fun k x => by cases x <;> kernel_rfl) (by kernel_rfl) ((by kernel_rfl : (f70.start k a0_0 a1_0).run (f70.D k) = f70 k a0_0 a1_0).trans h)
theorem sf70_ok (k : Nat) : SumOk Try.prog CC0 P0 G 70 (sf70 k) := by
 intro as0' os0' lk r l h0'
 unfold sf70 at h0'
 obtain ⟨v0, as1', rfl, h1'⟩ := lH_runs h0'; obtain ⟨v1, as2', rfl, h2'⟩ := lH_runs h1'; obtain ⟨rfl, h3'⟩ := lT_runs h2'; obtain ⟨rfl, h4'⟩ := lT_runs h3'; obtain ⟨a0_0, e1, h5'⟩ := argL_runs h4'; obtain ⟨a1_0, e2, h6'⟩ := argI_runs h5'; obtain ⟨z', hz', h⟩ := call_runs h6'
 obtain ⟨rfl, rfl⟩ := runs_ret.1 h; exact ⟨rfl, by simp only [List.map_cons, List.map_nil, e1, e2]; exact f70_ok hz'⟩
end Go.Proofs.Ytfjoamlgbegpgaa.P
namespace Go.Proofs.Ytfjoamlgbegpgaa.P
open Go Go.Proofs.Ytfjoamlgbegpgaa.PM Go.Proofs.Ytfjoamlgbegpgaa.PN Go.Proofs
set_option maxRecDepth 100000
set_option linter.unusedVariables false
def envf71 (k : Nat) : Ev El := envOf CC0 [(105, sf105 k)]
theorem envf71_ok (k : Nat) : EvOk Try.prog CC0 P0 G (envf71 k) := env_ok (sums_cons (sf105_ok k) (sums_nil))
def ktf71 : Nat → Nat → Nat := fun rid q => 0
theorem f71_ok {k : Nat} {a0_0 : List S73} {a1_0 : Int} {r : Int} (h : f71 k a0_0 a1_0 = some r) : callT Try.prog CC0 P0 71 (List.map (denV G) [.sl 3 a0_0 [], .id .i64 2 a1_0]) (List.map (denO G) []) = some (denV G (f71.o a0_0 a1_0 r).1, List.map (denO G) (f71.o a0_0 a1_0 r).2) :=
 fn_ok (k := k) (E := envf71) (kt := ktf71) (start := f71.start k a0_0 a1_0) (stt := f71.st) (o := f71.o a0_0 a1_0) (h0 := .all) (D := f71.D) (blk := f71.blk) (hint := f71.hint) (objs := []) G_ok envf71_ok rfl Try.func71 rfl (by kernel_rfl) (by kernel_rfl) rfl (Nat.le_of_ble_eq_true (by kernel_rfl)) (fun x => by cases x <;> kernel_rfl) (fun k x => by cases x <;> kernel_rfl) (fun k x => by cases x <;> kernel_rfl) (by kernel_rfl) ((by kernel_rfl : (f71.start k a0_0 a1_0).run (f71.D k) = f71 k a0_0 a1_0).trans h)
theorem sf71_ok (k : Nat) : SumOk Try.prog CC0 P0 G 71 (sf71 k) := by
 intro as0' os0' lk r l h0'
 unfold sf71 at h0'
 obtain ⟨v0, as1', rfl, h1'⟩ := lH_runs h0'; obtain ⟨v1, as2', rfl, h2'⟩ := lH_runs h1'; obtain ⟨rfl, h3'⟩ := lT_runs h2'; obtain ⟨rfl, h4'⟩ := lT_runs h3'; obtain ⟨a0_0, e1, h5'⟩ := argL_runs h4'; obtain ⟨a1_0, e2, h6'⟩ := argI_runs h5'; obtain ⟨z', hz', h⟩ := call_runs h6'
 obtain ⟨rfl, rfl⟩ := runs_ret.1 h; exact ⟨rfl, by simp only [List.map_cons, List.map_nil, e1, e2]; exact f71_ok hz'⟩
end Go.Proofs.Ytfjoamlgbegpgaa.P
namespace Go.Proofs.Ytfjoamlgbegpgaa.P
open Go Go.Proofs.Ytfjoamlgbegpgaa.PM Go.Proofs.Ytfjoamlgbegpgaa.PN Go.Proofs
set_option maxRecDepth 100000
set_option linter.unusedVariables false
def envf30 (k : Nat) : Ev El := envOf CC0 [(70, sf70 k), (71, sf71 k)]
theorem envf30_ok (k : Nat) : EvOk Try.prog CC0 P0 G (envf30 k) := env_ok (sums_cons (sf70_ok k) (sums_cons (sf71_ok k) (sums_nil)))
def ktf30 : Nat → Nat → Nat := fun rid q => 0
theorem f30_ok {k : Nat} {a0_0 : List S80} {a0_1 : List S80} {a0_2 : List S73} {a1_0 : Int} {r : Int} (h : f30 k a0_0 a0_1 a0_2 a1_0 = some r) : callT Try.prog CC0 P0 30 (List.map (denV G) [.agg [.sl 2 a0_0 [], .sl 2 a0_1 [], .sl 3 a0_2 []], .id .i64 2 a1_0]) (List.map (denO G) []) = some (denV G (f30.o a0_0 a0_1 a0_2 a1_0 r).1, List.map (denO G) (f30.o a0_0 a0_1 a0_2 a1_0 r).2) :=
 fn_ok0 (k := k) (E := envf30) (kt := ktf30) (start := f30.start k a0_0 a0_1 a0_2 a1_0) (o := f30.o a0_0 a0_1 a0_2 a1_0) (h0 := .all) (objs := []) G_ok envf30_ok rfl Try.func30 rfl (by kernel_rfl) (by kernel_rfl) rfl (Nat.le_of_ble_eq_true (by kernel_rfl)) (by kernel_rfl) ((by kernel_rfl : (f30.start k a0_0 a0_1 a0_2 a1_0).run Empty.elim = f30 k a0_0 a0_1 a0_2 a1_0).trans h)
theorem sf30_ok (k : Nat) : SumOk Try.prog CC0 P0 G 30 (sf30 k) := by
 intro as0' os0' lk r l h0'
 unfold sf30 at h0'
 obtain ⟨v0, as1', rfl, h1'⟩ := lH_runs h0'; obtain ⟨v1, as2', rfl, h2'⟩ := lH_runs h1'; obtain ⟨rfl, h3'⟩ := lT_runs h2'; obtain ⟨rfl, h4'⟩ := lT_runs h3'; obtain ⟨b1', e1, h5'⟩ := argA_runs h4'; obtain ⟨y2', r2', e2, h6'⟩ := argH_runs h5'; obtain ⟨y3', r3', e3, h7'⟩ := argH_runs h6'; obtain ⟨y4', r4', e4, h8'⟩ := argH_runs h7'; obtain ⟨e5, h9'⟩ := argT_runs h8'; obtain ⟨a0_0, e6, h10'⟩ := argL_runs h9'; obtain ⟨a0_1, e7, h11'⟩ := argL_runs h10'; obtain ⟨a0_2, e8, h12'⟩ := argL_runs h11'; obtain ⟨a1_0, e9, h13'⟩ := argI_runs h12'; obtain ⟨z', hz', h⟩ := call_runs h13'
 obtain ⟨rfl, rfl⟩ := runs_ret.1 h; exact ⟨rfl, by simp only [List.map_cons, List.map_nil, e1, e2, e3, e4, e5, e6, e7, e8, e9]; exact f30_ok hz'⟩
end Go.Proofs.Ytfjoamlgbegpgaa.P
namespace Go.Proofs.Ytfjoamlgbegpgaa.P
open Go Go.Proofs.Ytfjoamlgbegpgaa.PM Go.Proofs.Ytfjoamlgbegpgaa.PN Go.Proofs
set_option maxRecDepth 100000
set_option linter.unusedVariables false
def envf84 (k : Nat) : Ev El := envOf CC0 []
theorem envf84_ok (k : Nat) : EvOk Try.prog CC0 P0 G (envf84 k) := env_ok (sums_nil)
def ktf84 : Nat → Nat → Nat := fun rid q => 0
theorem f84_ok {k : Nat} {a0_0 : ByteArray} {r : Bool} (h : f84 k a0_0 = some r) : callT Try.prog CC0 P0 84 (List.map (denV G) [.s a0_0]) (List.map (denO G) []) = some (denV G (f84.o a0_0 r).1, List.map (denO G) (f84.o a0_0 r).2) :=
 fn_ok0 (k := k) (E := envf84) (kt := ktf84) (start := f84.start k a0_0) (o := f84.o a0_0) (h0 := (.both (.l (.l (.l .all))) (.r (.r (.r .all))))) (objs := []) G_ok envf84_ok rfl Try.func84 rfl (by kernel_rfl) (by kernel_rfl) rfl (Nat.le_of_ble_eq_true (by kernel_rfl)) (by kernel_rfl) ((by kernel_rfl : (f84.start k a0_0).run Empty.elim = f84 k a0_0).trans h)
theorem sf84_ok (k : Nat) : SumOk Try.prog CC0 P0 G 84 (sf84 k) := by
 intro as0' os0' lk r l h0'
 unfold sf84 at h0'
 obtain ⟨v0, as1', rfl, h1'⟩ := lH_runs h0'; obtain ⟨rfl, h2'⟩ := lT_runs h1'; obtain ⟨rfl, h3'⟩ := lT_runs h2'; obtain ⟨a0_0, e1, h4'⟩ := argS_runs h3'; obtain ⟨z', hz', h⟩ := call_runs h4'
 obtain ⟨rfl, rfl⟩ := runs_ret.1 h; exact ⟨rfl, by simp only [List.map_cons, List.map_nil, e1]; exact f84_ok hz'⟩
end Go.Proofs.Ytfjoamlgbegpgaa.P
namespace Go.Proofs.Ytfjoamlgbegpgaa.P
open Go Go.Proofs.Ytfjoamlgbegpgaa.PM Go.Proofs.Ytfjoamlgbegpgaa.PN Go.Proofs
set_option maxRecDepth 100000
set_option linter.unusedVariables false
def envf43 (k : Nat) : Ev El := envOf CC0 [(84, sf84 k)]
theorem envf43_ok (k : Nat) : EvOk Try.prog CC0 P0 G (envf43 k) := env_ok (sums_cons (sf84_ok k) (sums_nil))
def ktf43 : Nat → Nat → Nat := fun rid q => 0
theorem f43_ok {k : Nat} {a0_0 : List S80} {r : Bool} (h : f43 k a0_0 = some r) : callT Try.prog CC0 P0 43 (List.map (denV G) [.sl 2 a0_0 []]) (List.map (denO G) []) = some (denV G (f43.o a0_0 r).1, List.map (denO G) (f43.o a0_0 r).2) :=
 fn_ok (k := k) (E := envf43) (kt := ktf43) (start := f43.start k a0_0) (stt := f43.st) (o := f43.o a0_0) (h0 := .all) (D := f43.D) (blk := f43.blk) (hint := f43.hint) (objs := []) G_ok envf43_ok rfl Try.func43 rfl (by kernel_rfl) (by kernel_rfl) rfl (Nat.le_of_ble_eq_true (by kernel_rfl)) (fun x => by cases x <;> kernel_rfl) (fun k x => by cases x <;> kernel_rfl) (fun k x => by cases x <;> kernel_rfl) (by kernel_rfl) ((by kernel_rfl : (f43.start k a0_0).run (f43.D k) = f43 k a0_0).trans h)
theorem sf43_ok (k : Nat) : SumOk Try.prog CC0 P0 G 43 (sf43 k) := by
 intro as0' os0' lk r l h0'
 unfold sf43 at h0'
 obtain ⟨v0, as1', rfl, h1'⟩ := lH_runs h0'; obtain ⟨rfl, h2'⟩ := lT_runs h1'; obtain ⟨rfl, h3'⟩ := lT_runs h2'; obtain ⟨a0_0, e1, h4'⟩ := argL_runs h3'; obtain ⟨z', hz', h⟩ := call_runs h4'
 obtain ⟨rfl, rfl⟩ := runs_ret.1 h; exact ⟨rfl, by simp only [List.map_cons, List.map_nil, e1]; exact f43_ok hz'⟩
end Go.Proofs.Ytfjoamlgbegpgaa.P
namespace Go.Proofs.Ytfjoamlgbegpgaa.P
open Go Go.Proofs.Ytfjoamlgbegpgaa.PM Go.Proofs.Ytfjoamlgbegpgaa.PN Go.Proofs
set_option maxRecDepth 100000
set_option linter.unusedVariables false
def envf52 (k : Nat) : Ev El := envOf CC0 []
theorem envf52_ok (k : Nat) : EvOk Try.prog CC0 P0 G (envf52 k) := env_ok (sums_nil)
def ktf52 : Nat → Nat → Nat := fun rid q => 0
theorem f52_ok {k : Nat} {a0_0 : List S80} {a1_0 : ByteArray} {r : Int} (h : f52 k a0_0 a1_0 = some r) : callT Try.prog CC0 P0 52 (List.map (denV G) [.sl 2 a0_0 [], .s a1_0]) (List.map (denO G) []) = some (denV G (f52.o a0_0 a1_0 r).1, List.map (denO G) (f52.o a0_0 a1_0 r).2) :=
 fn_ok (k := k) (E := envf52) (kt := ktf52) (start := f52.start k a0_0 a1_0) (stt := f52.st) (o := f52.o a0_0 a1_0) (h0 := .all) (D := f52.D) (blk := f52.blk) (hint := f52.hint) (objs := []) G_ok envf52_ok rfl Try.func52 rfl (by kernel_rfl) (by kernel_rfl) rfl (Nat.le_of_ble_eq_true (by kernel_rfl)) (fun x => by cases x <;> kernel_rfl) (fun k x => by cases x <;> kernel_rfl) (fun k x => by cases x <;> kernel_rfl) (by kernel_rfl) ((by kernel_rfl : (f52.start k a0_0 a1_0).run (f52.D k) = f52 k a0_0 a1_0).trans h)
theorem sf52_ok (k : Nat) : SumOk Try.prog CC0 P0 G 52 (sf52 k) := by
 intro as0' os0' lk r l h0'
 unfold sf52 at h0'
 obtain ⟨v0, as1', rfl, h1'⟩ := lH_runs h0'; obtain ⟨v1, as2', rfl, h2'⟩ := lH_runs h1'; obtain ⟨rfl, h3'⟩ := lT_runs h2'; obtain ⟨rfl, h4'⟩ := lT_runs h3'; obtain ⟨a0_0, e1, h5'⟩ := argL_runs h4'; obtain ⟨a1_0, e2, h6'⟩ := argS_runs h5'; obtain ⟨z', hz', h⟩ := call_runs h6'
 obtain ⟨rfl, rfl⟩ := runs_ret.1 h; exact ⟨rfl, by simp only [List.map_cons, List.map_nil, e1, e2]; exact f52_ok hz'⟩
end Go.Proofs.Ytfjoamlgbegpgaa.P
