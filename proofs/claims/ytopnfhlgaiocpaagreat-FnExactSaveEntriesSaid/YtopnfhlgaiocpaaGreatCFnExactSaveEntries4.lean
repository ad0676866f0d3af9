/- Part of the proof of FnExactSaveEntries: no statement of its own. -/
import Derived.Below
import Derived.KernelRfl
import Derived.Lib.ParseIntB
import Derived.Lib.Split
import Derived.Sort.Grow
import Derived.Test.YtopnfhlgaiocpaaGreatProg
import Derived.Test.YtopnfhlgaiocpaaGreatCFnExactSaveEntries3
set_option linter.unusedVariables false
set_option linter.unusedSimpArgs false
namespace Go.Proofs.YtopnfhlgaiocpaaGreat.PN
open Go Go.Proofs.YtopnfhlgaiocpaaGreat.PM
variable {P : Program} {C : Cert} {prim : FuncId → Option (List T → List Ob → Option (T × List Ob))} {G : Sg} {β : Type} {lk : Nat → O G.El} {r : β} {l : List Nat}
theorem argI_runs {k : IntKind} {v : V G.El} {f : Int → Q G.El β} (h : (argI k v f).runs lk r l) : ∃ a, denV G v = .sc (.int k a) ∧ (f a).runs lk r l := by
  cases v with
  | il k' n =>
    simp only [argI] at h
    by_cases hk : k' = k
    · subst hk; rw [decide_eq_true rfl] at h; exact ⟨n, rfl, h⟩
    · rw [decide_eq_false hk] at h; exact h.elim
  | id k' m n =>
    simp only [argI] at h
    by_cases hk : k' = k
    · subst hk; rw [decide_eq_true rfl] at h; exact ⟨n, rfl, h⟩
    · rw [decide_eq_false hk] at h; exact h.elim
  | _ => exact h.elim
theorem argB_runs {v : V G.El} {f : Bool → Q G.El β} (h : (argB v f).runs lk r l) : ∃ a, denV G v = .sc (.bool a) ∧ (f a).runs lk r l := by
  cases v with
  | bl b => exact ⟨b, rfl, h⟩
  | bp n c d => cases n <;> exact ⟨_, rfl, h⟩
  | bb n x => cases n <;> exact ⟨_, rfl, h⟩
  | _ => exact h.elim
theorem argS_runs {v : V G.El} {f : ByteArray → Q G.El β} (h : (argS v f).runs lk r l) : ∃ a, denV G v = .sc (.string a) ∧ (f a).runs lk r l := by
  cases v with
  | s x => exact ⟨x, rfl, h⟩
  | _ => exact h.elim
theorem argL_runs {e : Nat} {v : V G.El} {f : List (G.El e) → Q G.El β} (h : (argL e v f).runs lk r l) : ∃ xs, denV G v = .sl (List.map (G.enc e) xs) [] ∧ (f xs).runs lk r l := by
  cases v with
  | sl t xs src =>
    cases src with
    | nil =>
      simp only [argL] at h
      split at h
      · rename_i he; subst he; exact ⟨xs, rfl, h⟩
      · exact h.elim
    | cons a q => exact h.elim
  | s0 src =>
    cases src with
    | nil => exact ⟨[], rfl, h⟩
    | cons a q => exact h.elim
  | _ => exact h.elim
theorem argA_runs {v : V G.El} {f : List (V G.El) → Q G.El β} (h : (argA v f).runs lk r l) : ∃ cs, denV G v = .agg (cs.map (den1 G)) ∧ (f cs).runs lk r l := by
  cases v with
  | agg cs => exact ⟨cs, rfl, h⟩
  | _ => exact h.elim
theorem denV_cell1 (v : V G.El) : denV G (cell1 v) = den1 G v := by
  cases v with
  | bp n c d => cases n <;> rfl
  | bb n x => cases n <;> rfl
  | _ => rfl
theorem argH_runs {cs : List (V G.El)} {f : V G.El → List (V G.El) → Q G.El β} (h : (argH cs f).runs lk r l) : ∃ y q, cs.map (den1 G) = denV G y :: q.map (den1 G) ∧ (f y q).runs lk r l := by
  cases cs with
  | nil => exact h.elim
  | cons y q => exact ⟨cell1 y, q, by rw [denV_cell1]; rfl, h⟩
theorem lH_runs {γ : Type} {cs : List γ} {f : γ → List γ → Q G.El β} (h : (lH cs f).runs lk r l) : ∃ y q, cs = y :: q ∧ (f y q).runs lk r l := by
  cases cs with
  | nil => exact h.elim
  | cons y q => exact ⟨y, q, rfl, h⟩
theorem lT_runs {γ : Type} {cs : List γ} {f : Q G.El β} (h : (lT cs f).runs lk r l) : cs = [] ∧ f.runs lk r l := by
  cases cs with
  | nil => exact ⟨rfl, h⟩
  | cons y q => exact h.elim
theorem argPH_runs {cs : List (V G.El)} {f : V G.El → List (V G.El) → Q G.El β} (h : (argPH cs f).runs lk r l) : ∃ y q, cs.map denP = denV G y :: q.map denP ∧ (f y q).runs lk r l := by
  cases cs with
  | nil => exact h.elim
  | cons y q =>
    simp only [argPH] at h
    cases y with
    | ptr o i j => exact ⟨_, q, rfl, h⟩
    | _ => exact h.elim
theorem argR_runs {e : Nat} {x : O G.El} {f : List (G.El e) → Q G.El β} (h : (argR e x f).runs lk r l) : ∃ xs, denO G x = Ob.mkRow (G.w e) (List.map (G.enc e) xs) ∧ (f xs).runs lk r l := by
  cases x with
  | row a m k v t xs last =>
    cases a <;> cases m <;> first | exact h.elim | skip
    cases v with
    | succ n => exact h.elim
    | zero =>
      simp only [argR] at h
      split at h
      · rename_i he; subst he; exact ⟨_, rfl, h⟩
      · exact h.elim
  | _ => exact h.elim
theorem argW_runs {o n : Nat} {v : V G.El} {f : Q G.El β} (h : (argW o n v f).runs lk r l) : denV G v = .win o 0 n ∧ f.runs lk r l := by
  cases v with
  | win o' full off len =>
    simp only [argW] at h
    cases hb : o' == o && off.is0 with
    | false => rw [hb] at h; exact h.elim
    | true =>
      rw [hb] at h
      simp only [runs_bind, runs_nd] at h
      obtain ⟨_, _, _, ⟨hl, rfl⟩, h, rfl⟩ := h
      simp only [Bool.and_eq_true, beq_iff_eq] at hb
      refine ⟨?_, h⟩
      show T.win o' off.v len.v = _
      rw [hb.1, is0_v hb.2, hl]
  | _ => exact h.elim
theorem argP_runs {o : Nat} {v : V G.El} {f : Nat → Nat → Q G.El β} (h : (argP o v f).runs lk r l) : ∃ a b, denV G v = .win o a b ∧ (f a b).runs lk r l := by
  cases v with
  | win o' full off len =>
    simp only [argP] at h
    cases hb : o' == o with
    | false => rw [hb] at h; exact h.elim
    | true =>
      rw [hb] at h
      have : o' = o := by simpa using hb
      exact ⟨off.v, len.v, by rw [← this]; rfl, h⟩
  | _ => exact h.elim
theorem argQ_runs {o : Nat} {v : V G.El} {f : Nat → Q G.El β} (h : (argQ o v f).runs lk r l) : ∃ b, denV G v = .win o 0 b ∧ (f b).runs lk r l := by
  cases v with
  | win o' full off len =>
    simp only [argQ] at h
    cases hb : o' == o && off.is0 with
    | false => rw [hb] at h; exact h.elim
    | true =>
      rw [hb] at h
      simp only [Bool.and_eq_true, beq_iff_eq] at hb
      exact ⟨len.v, by rw [← hb.1]; show T.win o' off.v len.v = _; rw [is0_v hb.2], h⟩
  | _ => exact h.elim
theorem argNil_runs {v : V G.El} {f : Q G.El β} (h : (argNil v f).runs lk r l) : denV G v = .nil ∧ f.runs lk r l := by
  cases v with
  | nil => exact ⟨rfl, h⟩
  | _ => exact h.elim
theorem argDead_runs {v : V G.El} {f : Q G.El β} (h : (argDead v f).runs lk r l) : denV G v = .dead ∧ f.runs lk r l := by
  cases v with
  | dead => exact ⟨rfl, h⟩
  | _ => exact h.elim
theorem argV_runs {o j : Nat} {v : V G.El} {f : Q G.El β} (h : (argV o j v f).runs lk r l) : denV G v = .ptr o 0 j ∧ f.runs lk r l := by
  cases v with
  | ptr o' i j' =>
    simp only [argV] at h
    cases hb : o' == o && i.is0 && j' == j with
    | false => rw [hb] at h; exact h.elim
    | true =>
      rw [hb] at h
      simp only [Bool.and_eq_true, beq_iff_eq] at hb
      refine ⟨?_, h⟩
      show T.ptr o' i.v j' = _
      rw [hb.1.1, is0_v hb.1.2, hb.2]
  | _ => exact h.elim
theorem argE_runs {o j : Nat} {v : V G.El} {f : Nat → Q G.El β} (h : (argE o j v f).runs lk r l) : ∃ i, denV G v = .ptr o i j ∧ (f i).runs lk r l := by
  cases v with
  | ptr o' i j' =>
    simp only [argE] at h
    cases hb : o' == o && j' == j with
    | false => rw [hb] at h; exact h.elim
    | true =>
      rw [hb] at h
      simp only [Bool.and_eq_true, beq_iff_eq] at hb
      exact ⟨i.v, by rw [← hb.1, ← hb.2]; rfl, h⟩
  | _ => exact h.elim
theorem argF_runs {g : FuncId} {v : V G.El} {f : List (V G.El) → Q G.El β} (h : (argF g v f).runs lk r l) : ∃ cs : List (V G.El), denV G v = .fn g (cs.map denP) ∧ (f cs).runs lk r l := by
  cases v with
  | fn g' caps =>
    simp only [argF] at h
    cases hb : g' == g with
    | false => rw [hb] at h; exact h.elim
    | true =>
      rw [hb] at h
      have : g' = g := by simpa using hb
      exact ⟨caps, by rw [← this]; rfl, h⟩
  | _ => exact h.elim
theorem argX_runs {k : Nat} {agg : Bool} {x : O G.El} {f : List (V G.El) → Q G.El β} (h : (argX k agg x f).runs lk r l) : ∃ cs, denO G x = Ob.mkBox k (wrapT agg (cs.map (den1 G))) ∧ (f cs).runs lk r l := by
  cases x with
  | box a m v k' g cs =>
    cases a <;> cases m <;> first | exact h.elim | skip
    cases v with
    | succ n => exact h.elim
    | zero =>
      simp only [argX] at h
      cases hb : k' == k && (g == agg) && oneOr g cs with
      | false => rw [hb] at h; exact h.elim
      | true =>
        rw [hb] at h
        simp only [Bool.and_eq_true, beq_iff_eq] at hb
        obtain ⟨⟨rfl, rfl⟩, _⟩ := hb
        exact ⟨cs, rfl, h⟩
  | _ => exact h.elim
theorem call_runs {ρ : Type} {x : Option ρ} {f : ρ → Q G.El β} (h : (Q.call ρ x f).runs lk r l) : ∃ y, x = some y ∧ (f y).runs lk r l := h
def SumOk (P : Program) (C : Cert) (prim : FuncId → Option (List T → List Ob → Option (T × List Ob))) (G : Sg) (f : FuncId) (s : List (V G.El) → List (O G.El) → Q G.El (V G.El × List (O G.El))) : Prop :=
  ∀ (args : List (V G.El)) (objs : List (O G.El)) (lk : Nat → O G.El) (r : V G.El × List (O G.El)) (l : List Nat), (s args objs).runs lk r l →
    l = [] ∧ callT P C prim f (args.map (denV G)) (objs.map (denO G)) = some (denV G r.1, r.2.map (denO G))
def SumsOk (P : Program) (C : Cert) (prim : FuncId → Option (List T → List Ob → Option (T × List Ob))) (G : Sg) (l : List (Nat × (List (V G.El) → List (O G.El) → Q G.El (V G.El × List (O G.El))))) : Prop := ∀ f s, findU l f = some s → SumOk P C prim G f s
theorem sums_nil : SumsOk P C prim G [] := fun f s h => by cases h
theorem sums_cons {f : Nat} {s : List (V G.El) → List (O G.El) → Q G.El (V G.El × List (O G.El))} {l : List (Nat × (List (V G.El) → List (O G.El) → Q G.El (V G.El × List (O G.El))))} (h1 : SumOk P C prim G f s) (h2 : SumsOk P C prim G l) : SumsOk P C prim G ((f, s) :: l) := by
  intro g t h
  simp only [findU] at h
  split at h
  · rename_i he; subst he; obtain rfl := Option.some.inj h; exact h1
  · exact h2 g t h
theorem env_ok {l : List (Nat × (List (V G.El) → List (O G.El) → Q G.El (V G.El × List (O G.El))))} (h : SumsOk P C prim G l) : EvOk P C prim G (envOf C l) := by
  refine ⟨fun f => rfl, fun f args objs lk r q hr => ?_⟩
  simp only [envOf] at hr
  cases hf : findU l f with
  | none => rw [hf] at hr; exact hr.elim
  | some s => rw [hf] at hr; exact h f s hf args objs lk r q hr
theorem fn_ok0 {f : FuncId} {fn : Func} {c : Code} {Rr : Type} {E : Nat → Ev G.El} {kt : Nat → Nat → Nat} {start : PT Rr Empty} {h0 : H} {o : Rr → V G.El × List (O G.El)} {args : List (V G.El)} {objs : List (O G.El)} {s0 : S G.El} {k : Nat} {r : Rr}
    (ok : SgOk P G) (hE : ∀ k, EvOk P C prim G (E k)) (hp : prim f = none) (hf : P.funcs[f]? = some fn) (hb : fn.body = some c) (ho : okCode (C f) c = true) (hids : distinct (ids c) = true)
    (hs : s0 = startS fn.ntmps args objs) (hn : args.length ≤ fn.ntmps)
    (h0T : PN.exec ⟨G, E k, C f, kt⟩ c s0 h0 (endK ⟨G, E k, C f, kt⟩ fn objs.length) = start.lay (outL o) (jumpL (Empty.elim : Empty → Nat × S G.El))) (h : start.run (Empty.elim) = some r) :
    callT P C prim f (args.map (denV G)) (objs.map (denO G)) = some (denV G (o r).1, (o r).2.map (denO G)) :=
  fn_ok (D := fun _ => Empty.elim) (blk := fun _ => Empty.elim) (stt := Empty.elim) (hint := Empty.elim) ok hE hp hf hb ho hids hs hn (fun x => x.elim) (fun _ x => x.elim) (fun _ x => x.elim) h0T h
theorem cI_some {k : IntKind} {v : V G.El} {f : Int → Option β} (h : cI k v f = some r) : ∃ a, den1 G v = .sc (.int k a) ∧ f a = some r := by
  cases v with
  | il k' n =>
    simp only [cI] at h
    by_cases hk : k' = k
    · subst hk; rw [decide_eq_true rfl] at h; exact ⟨n, rfl, h⟩
    · rw [decide_eq_false hk] at h; cases h
  | id k' m n =>
    simp only [cI] at h
    by_cases hk : k' = k
    · subst hk; rw [decide_eq_true rfl] at h; exact ⟨n, rfl, h⟩
    · rw [decide_eq_false hk] at h; cases h
  | _ => cases h
theorem cS_some {v : V G.El} {f : ByteArray → Option β} (h : cS v f = some r) : ∃ a, den1 G v = .sc (.string a) ∧ f a = some r := by
  cases v with
  | s x => exact ⟨x, rfl, h⟩
  | _ => cases h
def TisOk (P : Program) (G : Sg) (l : List (Nat × TI G.El)) : Prop := ∀ t i, findK l t = some i → TiOk P G t i
theorem tis_nil : TisOk P G [] := fun t i h => by cases h
theorem tis_cons {t : Nat} {i : TI G.El} {l : List (Nat × TI G.El)} (h1 : TiOk P G t i) (h2 : TisOk P G l) : TisOk P G ((t, i) :: l) := by
  intro g j h
  simp only [findK] at h
  split at h
  · rename_i he; subst he; obtain rfl := Option.some.inj h; exact h1
  · exact h2 g j h
theorem some_all {α : Type} {a b : α} {p : α → Prop} (h : p a) (e : some a = some b) : p b := by obtain rfl := Option.some.inj e; exact h
theorem none_all {α : Type} {b : α} {p : Prop} (e : none = some b) : p := by cases e
theorem ofStr_u8 (s : ByteArray) : (bytesL s).map (fun x => T.sc (.int .u8 x)) = s.data.toList.map fun b => T.sc (.int .u8 (b.toNat : Int)) := by unfold bytesL; rw [List.map_map]; rfl
theorem toStr_u8 (xs : List Int) : bytesOf (xs.map (fun x => T.sc (.int .u8 x))) = some (strOf xs).data.toList := by
  have := bytesOf_map xs
  unfold strOf
  exact this
abbrev na {El : Nat → Type} {α β : Type} (cs : List (V El)) (g : V El → (α → Q El β) → Q El β) (f : α → List (V El) → Q El β) : Q El β := lH cs fun y q => g y fun a => f a q
abbrev nc {El : Nat → Type} {α β : Type} (cs : List (V El)) (g : V El → (α → Q El β) → Q El β) (f : α → List (V El) → Q El β) : Q El β := argH cs fun y q => g y fun a => f a q
abbrev na0 {El : Nat → Type} {β : Type} (cs : List (V El)) (g : V El → Q El β → Q El β) (f : List (V El) → Q El β) : Q El β := lH cs fun y q => g y (f q)
abbrev nc0 {El : Nat → Type} {β : Type} (cs : List (V El)) (g : V El → Q El β → Q El β) (f : List (V El) → Q El β) : Q El β := argH cs fun y q => g y (f q)
abbrev PT.t2 {R Lb : Type} {c : Prop} [d : Decidable c] (h : c) (k : PT R Lb) : PT R Lb := .th h (.th h k)
abbrev PT.t3 {R Lb : Type} {c : Prop} [d : Decidable c] (h : c) (k : PT R Lb) : PT R Lb := .th h (.t2 h k)
abbrev PT.t4 {R Lb : Type} {c : Prop} [d : Decidable c] (h : c) (k : PT R Lb) : PT R Lb := .th h (.t3 h k)
abbrev PT.t5 {R Lb : Type} {c : Prop} [d : Decidable c] (h : c) (k : PT R Lb) : PT R Lb := .th h (.t4 h k)
abbrev PT.t6 {R Lb : Type} {c : Prop} [d : Decidable c] (h : c) (k : PT R Lb) : PT R Lb := .th h (.t5 h k)
abbrev PT.t7 {R Lb : Type} {c : Prop} [d : Decidable c] (h : c) (k : PT R Lb) : PT R Lb := .th h (.t6 h k)
abbrev PT.t8 {R Lb : Type} {c : Prop} [d : Decidable c] (h : c) (k : PT R Lb) : PT R Lb := .th h (.t7 h k)
abbrev PT.t9 {R Lb : Type} {c : Prop} [d : Decidable c] (h : c) (k : PT R Lb) : PT R Lb := .th h (.t8 h k)
abbrev PT.t10 {R Lb : Type} {c : Prop} [d : Decidable c] (h : c) (k : PT R Lb) : PT R Lb := .th h (.t9 h k)
abbrev PT.t11 {R Lb : Type} {c : Prop} [d : Decidable c] (h : c) (k : PT R Lb) : PT R Lb := .th h (.t10 h k)
abbrev PT.t12 {R Lb : Type} {c : Prop} [d : Decidable c] (h : c) (k : PT R Lb) : PT R Lb := .th h (.t11 h k)
theorem argT2_runs {cs : List (V G.El)} {f : Q G.El β} (h : (argT cs f).runs lk r l) : cs.map (den1 G) = [] ∧ cs.map denP = [] ∧ f.runs lk r l := by
  cases cs with
  | nil => exact ⟨rfl, rfl, h⟩
  | cons y q => exact h.elim
theorem either_runs {γ δ : Type} {x : γ ⊕ δ} {f : γ → Q G.El β} {g : δ → Q G.El β} (h : (Q.either γ δ x f g).runs lk r l) : (∃ a, x = .inl a ∧ (f a).runs lk r l) ∨ ∃ a, x = .inr a ∧ (g a).runs lk r l := by
  cases x with
  | inl a => exact .inl ⟨a, rfl, h⟩
  | inr a => exact .inr ⟨a, rfl, h⟩
theorem sum_auto {f : FuncId} {s : List (V G.El) → List (O G.El) → Q G.El (V G.El × List (O G.El))} {α : Prop} (F : α) (h : α → SumOk P C prim G f s := by
    intro F ys os lk r l h
    with_reducible repeat (first
      | (replace h := lH_runs h; obtain ⟨_, _, rfl, h⟩ := h)
      | (replace h := lT_runs h; obtain ⟨rfl, h⟩ := h)
      | (replace h := argH_runs h; obtain ⟨_, _, _, h⟩ := h)
      | (replace h := argT2_runs h; obtain ⟨_, _, h⟩ := h)
      | (replace h := argL_runs h; obtain ⟨_, _, h⟩ := h)
      | (replace h := argI_runs h; obtain ⟨_, _, h⟩ := h)
      | (replace h := argS_runs h; obtain ⟨_, _, h⟩ := h)
      | (replace h := argB_runs h; obtain ⟨_, _, h⟩ := h)
      | (replace h := argA_runs h; obtain ⟨_, _, h⟩ := h)
      | (replace h := argR_runs h; obtain ⟨_, _, h⟩ := h)
      | (replace h := argX_runs h; obtain ⟨_, _, h⟩ := h)
      | (replace h := argW_runs h; obtain ⟨_, h⟩ := h)
      | (replace h := argV_runs h; obtain ⟨_, h⟩ := h)
      | (replace h := argP_runs h; obtain ⟨_, _, _, h⟩ := h)
      | (replace h := argQ_runs h; obtain ⟨_, _, h⟩ := h)
      | (replace h := argE_runs h; obtain ⟨_, _, h⟩ := h)
      | (replace h := argF_runs h; obtain ⟨_, _, h⟩ := h)
      | (replace h := argPH_runs h; obtain ⟨_, _, _, h⟩ := h)
      | (replace h := argNil_runs h; obtain ⟨_, h⟩ := h)
      | (replace h := argDead_runs h; obtain ⟨_, h⟩ := h))
    replace h := call_runs h
    obtain ⟨_, hz, h⟩ := h
    repeat' (first
      | (obtain ⟨rfl, rfl⟩ := runs_ret.1 h; exact ⟨rfl, by simp only [List.map_cons, List.map_nil, *] <;> exact F hz⟩)
      | (replace h := either_runs h; obtain ⟨_, rfl, h⟩ | ⟨_, rfl, h⟩ := h))) : SumOk P C prim G f s := h F
structure Pk (P : Program) (C : Cert) (prim : FuncId → Option (List T → List Ob → Option (T × List Ob))) (G : Sg) where
  n : Nat
  s : Nat → List (V G.El) → List (O G.El) → Q G.El (V G.El × List (O G.El))
  ok : ∀ k, SumOk P C prim G n (s k)
def evK (l : List (Pk P C prim G)) (k : Nat) : Ev G.El := envOf C (l.map fun p => (p.n, p.s k))
theorem evK_sums (k : Nat) : ∀ l : List (Pk P C prim G), SumsOk P C prim G (l.map fun p => (p.n, p.s k))
  | [] => sums_nil
  | p :: r => sums_cons (p.ok k) (evK_sums k r)
theorem evK_ok (l : List (Pk P C prim G)) (k : Nat) : EvOk P C prim G (evK l k) := env_ok (evK_sums k l)
end Go.Proofs.YtopnfhlgaiocpaaGreat.PN
namespace Go.Proofs.YtopnfhlgaiocpaaGreat.PM
open Go
end Go.Proofs.YtopnfhlgaiocpaaGreat.PM
namespace Go.Proofs.YtopnfhlgaiocpaaGreat.P
open Go Go.Proofs.YtopnfhlgaiocpaaGreat.PM Go.Proofs.YtopnfhlgaiocpaaGreat.PN Go.Proofs
set_option maxRecDepth 100000
set_option linter.unusedVariables false
def El : Nat → Type
  | 0 => S75
  | 1 => S77
  | 2 => S47
  | 3 => S58
  | 4 => S63
  | 5 => S61
  | 6 => S88
  | 7 => Int
  | _ + 8 => Unit
def tis : List (Nat × TI El) := [
  (2, ⟨1, false, 8, .int .i64, some (.il .i64 0), some [none], none⟩),
  (3, ⟨1, false, 8, .int .i64, some (.il .i64 0), some [none], none⟩),
  (4, ⟨1, false, 1, .bool, some (.bl false), some [none], none⟩),
  (5, ⟨1, false, 1, .int .u8, some (.il .u8 0), some [none], none⟩),
  (9, ⟨1, false, 16, .string, some (.s (⟨#[]⟩ : ByteArray)), some [none], none⟩),
  (22, ⟨1, false, 24, .slice 75 0, some (.nil), some [some 0], none⟩),
  (23, ⟨1, false, 24, .slice 77 1, some (.nil), some [some 1], none⟩),
  (25, ⟨3, true, 72, .struct [(0, 22), (1, 22), (2, 23)], some (.agg [.nil, .nil, .nil]), some [some 0, some 0, some 1], none⟩),
  (26, ⟨1, false, 24, .slice 47 2, some (.nil), some [some 2], none⟩),
  (29, ⟨1, false, 24, .slice 58 3, some (.nil), some [some 3], none⟩),
  (30, ⟨1, false, 24, .slice 63 4, some (.nil), some [some 4], none⟩),
  (32, ⟨3, true, 72, .struct [(0, 29), (1, 29), (2, 30)], some (.agg [.nil, .nil, .nil]), some [some 3, some 3, some 4], none⟩),
  (36, ⟨1, false, 24, .slice 61 5, some (.nil), some [some 5], none⟩),
  (47, ⟨3, true, 32, .struct [(0, 2), (1, 2), (2, 9)], some (.agg [.il .i64 0, .il .i64 0, .s (⟨#[]⟩ : ByteArray)]), some [none, none, none], none⟩),
  (50, ⟨3, true, 40, .struct [(0, 2), (1, 2), (2, 36)], some (.agg [.il .i64 0, .il .i64 0, .nil]), some [none, none, some 5], none⟩),
  (58, ⟨2, true, 32, .struct [(0, 9), (1, 9)], some (.agg [.s (⟨#[]⟩ : ByteArray), .s (⟨#[]⟩ : ByteArray)]), some [none, none], some [(0, 9), (1, 9)]⟩),
  (61, ⟨3, true, 32, .struct [(0, 2), (1, 2), (2, 9)], some (.agg [.il .i64 0, .il .i64 0, .s (⟨#[]⟩ : ByteArray)]), some [none, none, none], none⟩),
  (63, ⟨4, true, 56, .struct [(0, 2), (1, 9), (2, 9), (3, 9)], some (.agg [.il .i64 0, .s (⟨#[]⟩ : ByteArray), .s (⟨#[]⟩ : ByteArray), .s (⟨#[]⟩ : ByteArray)]), some [none, none, none, none], none⟩),
  (75, ⟨2, true, 32, .struct [(0, 9), (1, 9)], some (.agg [.s (⟨#[]⟩ : ByteArray), .s (⟨#[]⟩ : ByteArray)]), some [none, none], none⟩),
  (77, ⟨4, true, 56, .struct [(0, 2), (1, 9), (2, 9), (3, 9)], some (.agg [.il .i64 0, .s (⟨#[]⟩ : ByteArray), .s (⟨#[]⟩ : ByteArray), .s (⟨#[]⟩ : ByteArray)]), some [none, none, none, none], none⟩),
  (82, ⟨1, false, 24, .slice 88 6, some (.nil), some [some 6], none⟩),
  (88, ⟨2, true, 24, .struct [(0, 2), (1, 9)], some (.agg [.il .i64 0, .s (⟨#[]⟩ : ByteArray)]), some [none, none], none⟩),
  (102, ⟨1, false, 24, .slice 5 7, some (.nil), some [some 7], none⟩),
  (111, ⟨1, false, 4, .int .u32, some (.il .u32 0), some [none], none⟩),
  (122, ⟨1, false, 8, .int .u64, some (.il .u64 0), some [none], none⟩),
  (126, ⟨0, true, 0, .struct [], some (.agg []), some [], none⟩)]
def G : Sg where
  El := El
  w := fun t => match t with | 0 => (2) | 1 => (4) | 2 => (3) | 3 => (2) | 4 => (4) | 5 => (3) | 6 => (2) | 7 => (1) | _ + 8 => 0
  aggE := fun t => match t with | 0 => (true) | 1 => (true) | 2 => (true) | 3 => (true) | 4 => (true) | 5 => (true) | 6 => (true) | 7 => (false) | _ + 8 => true
  flat := fun t => match t with | 0 => (true) | 1 => (true) | 2 => (true) | 3 => (true) | 4 => (true) | 5 => (true) | 6 => (true) | 7 => (true) | _ + 8 => true
  inh := fun t => match t with | 0 => ((default : S75)) | 1 => ((default : S77)) | 2 => ((default : S47)) | 3 => ((default : S58)) | 4 => ((default : S63)) | 5 => ((default : S61)) | 6 => ((default : S88)) | 7 => ((default : Int)) | _ + 8 => ()
  cells := fun t => match t with | 0 => (fun (x : S75) => [.s x.f0, .s x.f1]) | 1 => (fun (x : S77) => [.id .i64 0 x.f0, .s x.f1, .s x.f2, .s x.f3]) | 2 => (fun (x : S47) => [.id .i64 0 x.f0, .id .i64 0 x.f1, .s x.f2]) | 3 => (fun (x : S58) => [.s x.f0, .s x.f1]) | 4 => (fun (x : S63) => [.id .i64 0 x.f0, .s x.f1, .s x.f2, .s x.f3]) | 5 => (fun (x : S61) => [.id .i64 0 x.f0, .id .i64 0 x.f1, .s x.f2]) | 6 => (fun (x : S88) => [.id .i64 0 x.f0, .s x.f1]) | 7 => (fun (x : Int) => [.id .u8 0 x]) | _ + 8 => fun _ => []
  mkE := fun t => match t with | 0 => (fun cs => match cs with | [c0, c1] => cS c0 fun a0 => cS c1 fun a1 => some (⟨a0, a1⟩ : S75) | _ => none) | 1 => (fun cs => match cs with | [c0, c1, c2, c3] => cI .i64 c0 fun a0 => cS c1 fun a1 => cS c2 fun a2 => cS c3 fun a3 => some (⟨a0, a1, a2, a3⟩ : S77) | _ => none) | 2 => (fun cs => match cs with | [c0, c1, c2] => cI .i64 c0 fun a0 => cI .i64 c1 fun a1 => cS c2 fun a2 => some (⟨a0, a1, a2⟩ : S47) | _ => none) | 3 => (fun cs => match cs with | [c0, c1] => cS c0 fun a0 => cS c1 fun a1 => some (⟨a0, a1⟩ : S58) | _ => none) | 4 => (fun cs => match cs with | [c0, c1, c2, c3] => cI .i64 c0 fun a0 => cS c1 fun a1 => cS c2 fun a2 => cS c3 fun a3 => some (⟨a0, a1, a2, a3⟩ : S63) | _ => none) | 5 => (fun cs => match cs with | [c0, c1, c2] => cI .i64 c0 fun a0 => cI .i64 c1 fun a1 => cS c2 fun a2 => some (⟨a0, a1, a2⟩ : S61) | _ => none) | 6 => (fun cs => match cs with | [c0, c1] => cI .i64 c0 fun a0 => cS c1 fun a1 => some (⟨a0, a1⟩ : S88) | _ => none) | 7 => (fun cs => match cs with | [c0] => cI .u8 c0 fun a0 => some (a0 : Int) | _ => none) | _ + 8 => fun _ => none
  ofStr := fun t => match t with | 0 => (fun _ => none) | 1 => (fun _ => none) | 2 => (fun _ => none) | 3 => (fun _ => none) | 4 => (fun _ => none) | 5 => (fun _ => none) | 6 => (fun _ => none) | 7 => (fun s => some (bytesL s)) | _ + 8 => fun _ => none
  toStr := fun t => match t with | 0 => (fun _ => none) | 1 => (fun _ => none) | 2 => (fun _ => none) | 3 => (fun _ => none) | 4 => (fun _ => none) | 5 => (fun _ => none) | 6 => (fun _ => none) | 7 => (fun xs => some (strOf xs)) | _ + 8 => fun _ => none
  ti := findK tis
  enc := fun t => match t with | 0 => (e75) | 1 => (e77) | 2 => (e47) | 3 => (e58) | 4 => (e63) | 5 => (e61) | 6 => (e88) | 7 => (fun (x : Int) => T.sc (.int .u8 x)) | _ + 8 => fun _ => T.agg []
def cc3 : FCert := ⟨[], true, [], [(14, [[], [], [1], [0, 1, 2], []])]⟩
def cc4 : FCert := ⟨[], true, [], []⟩
def cc5 : FCert := ⟨[], true, [(5, [(0, 0), (1, 0), (5, 0)])], []⟩
def cc6 : FCert := ⟨[], true, [(17, [(2, 0), (3, 0), (6, 0), (14, 0), (15, 0), (16, 0)]), (22, [(3, 0), (6, 0), (11, 0), (14, 0), (17, 0), (18, 0)])], [(19, [[], [], [], [], [3], [3, 4], [], [0, 3, 4, 5], [], [], [], [0, 3, 4, 5, 7], []])]⟩
def cc7 : FCert := ⟨[], true, [], []⟩
def cc8 : FCert := ⟨[], true, [(3, [(0, 0), (3, 0), (4, 0)])], []⟩
def cc9 : FCert := ⟨[], true, [], []⟩
def cc10 : FCert := ⟨[], true, [], []⟩
def cc11 : FCert := ⟨[], true, [(4, [(0, 0), (1, 0), (5, 0)])], [(6, [[], [], [], [2], [], [], [], [6], [2, 3, 6, 7], []])]⟩
def cc12 : FCert := ⟨[true], true, [], []⟩
def cc13 : FCert := ⟨[true], true, [(2, [(0, 0), (1, 0), (5, 0)])], []⟩
def cc14 : FCert := ⟨[], true, [], []⟩
def cc15 : FCert := ⟨[], true, [(5, [(0, 0), (1, 0), (5, 0)])], []⟩
def cc16 : FCert := ⟨[], true, [(5, [(0, 0), (1, 0), (5, 0)])], []⟩
def cc17 : FCert := ⟨[], true, [], []⟩
def cc18 : FCert := ⟨[], true, [(5, [(1, 0), (3, 1), (4, 0)])], []⟩
def cc19 : FCert := ⟨[], true, [], [(16, [[], [], [], [1], [], [1, 3], [], [], [1, 3, 5, 7], [], [], [], [], [1, 3, 5, 7, 8], []])]⟩
def cc20 : FCert := ⟨[], true, [], []⟩
def cc21 : FCert := ⟨[], true, [], [(1, [[], [], [], [0, 2], [], [], [], [0, 2, 3, 4, 6], [], [], [], [0, 2, 3, 4, 6, 7, 8, 10], [], [0, 2, 3, 4, 6, 7, 8, 10, 11]])]⟩
def cc22 : FCert := ⟨[], true, [(4, [(1, 0), (3, 0)])], [(7, [[], [0], [], [], [], [0, 1], [], [0, 1], [], [], [], [], [], [], [], [0, 1, 5, 7], [], [0, 1, 5, 7], [], [], [0, 1, 5, 7, 17], [], [0, 1, 5, 7, 17, 20], [], [], []])]⟩
def cc23 : FCert := ⟨[], true, [(2, [(0, 0), (1, 0), (5, 0)])], []⟩
def cc24 : FCert := ⟨[], true, [], []⟩
def cc25 : FCert := ⟨[], true, [], [(3, [[], [], [1], [], [], [1, 2, 4], [], [], [], [1, 2, 4, 5, 8], [], [], [1, 2, 4, 5, 8, 9], []])]⟩
def cc26 : FCert := ⟨[], true, [], []⟩
def cc27 : FCert := ⟨[], true, [], [(3, [[], [], [], [0, 2], [], [], [], [0, 2, 3, 4, 6], [], [0, 2, 3, 4, 6, 7]])]⟩
def cc28 : FCert := ⟨[], true, [(3, [(0, 0), (3, 0), (4, 0)])], []⟩
def cc29 : FCert := ⟨[], true, [(3, [(0, 0), (3, 0), (4, 0)])], []⟩
def cc30 : FCert := ⟨[], true, [], []⟩
def cc31 : FCert := ⟨[], true, [(20, [(3, 0), (6, 0), (15, 0), (98, 0), (99, 0), (100, 0)])], [(14, [[], [], [], [0, 2], [], [], [], [], [0, 2, 3, 7], []]), (22, [[], [], [1], [], [0, 1, 2], [], [], [], [], [0, 1, 2, 4, 8], []])]⟩
def cc32 : FCert := ⟨[], true, [(4, [(0, 0), (1, 0), (5, 0)])], [(6, [[], [], [], [2], [], [], [], [6], [2, 3, 6, 7], []])]⟩
def cc33 : FCert := ⟨[], true, [(4, [(0, 0), (1, 0), (5, 0)])], [(6, [[], [], [], [2], [], [], [], [6], [2, 3, 6, 7], []])]⟩
def cc34 : FCert := ⟨[], true, [], []⟩
def cc35 : FCert := ⟨[true], true, [(2, [(0, 0), (1, 0), (5, 0)])], []⟩
def cc36 : FCert := ⟨[true], true, [(2, [(0, 0), (1, 0), (5, 0)])], []⟩
def cc37 : FCert := ⟨[], true, [(4, [(0, 0), (3, 0)])], []⟩
def cc38 : FCert := ⟨[], true, [(2, [(0, 0), (1, 0), (5, 0)])], [(4, [[], [], [], [], [2], [], [], []]), (7, [[], [], [], [], [2], [], [], []])]⟩
def cc39 : FCert := ⟨[], true, [(2, [(0, 0), (1, 0), (5, 0)])], [(7, [[], [], [], [], [2], [], [], []]), (10, [[], [], [], [], [2], [], [], []]), (13, [[], [], [], [], [2], [], [], []])]⟩
def cc40 : FCert := ⟨[], true, [], []⟩
def cc41 : FCert := ⟨[], true, [], []⟩
def cc42 : FCert := ⟨[], true, [(5, [(0, 0), (3, 0), (4, 0)])], [(7, [[], [], [], [], [2], [2, 4], [], [], [], [], [], [], [], [2, 4, 5], [], [2, 4, 5, 13], [], [], [], [2, 4, 5], [], [2, 4, 5, 19], [], [], []])]⟩
def cc43 : FCert := ⟨[], true, [], [(11, [[], [], [], [], [], [], [], [5], [2, 5, 7], []])]⟩
def cc44 : FCert := ⟨[], true, [], []⟩
def cc45 : FCert := ⟨[], true, [(4, [(0, 0), (1, 0), (5, 0)])], [(6, [[], [], [], [2], [], [], [], [6], []])]⟩
def cc46 : FCert := ⟨[], true, [(3, [(0, 0), (5, 0), (6, 0)])], []⟩
def cc47 : FCert := ⟨[], true, [(4, [(0, 0), (5, 0), (6, 0), (7, 0)])], []⟩
def cc48 : FCert := ⟨[], true, [(5, [(1, 0), (6, 0), (7, 0), (8, 0), (11, 0)])], [(8, [[], [], [], [], [], [], [], [], [], [], [], [], [], [4], [], [], [], [4], [], [4, 17], [], [], []])]⟩
def cc49 : FCert := ⟨[], true, [], []⟩
def cc50 : FCert := ⟨[], true, [], [(3, [[], [], [1], [1, 2], [1, 2, 3], [], [], [6], [6, 7], [6, 7, 8], [], [], [], [], []])]⟩
def cc51 : FCert := ⟨[], true, [(4, [(0, 0), (3, 0)])], []⟩
def cc52 : FCert := ⟨[], true, [], []⟩
def cc53 : FCert := ⟨[], true, [], []⟩
def cc54 : FCert := ⟨[], true, [], []⟩
def cc55 : FCert := ⟨[], true, [(5, [(1, 0), (3, 1), (27, 0), (28, 0), (29, 0)])], []⟩
def cc56 : FCert := ⟨[], true, [(20, [(2, 0), (4, 0), (18, 0), (105, 0), (106, 0), (107, 0)])], []⟩
def cc57 : FCert := ⟨[], true, [], []⟩
def cc58 : FCert := ⟨[], true, [], [(1, [[], [], [1], [], [], [1, 2, 4], [], [], [], [1, 2, 4, 5, 6, 8], [], [1, 2, 4, 5, 6, 8, 9]])]⟩
def cc59 : FCert := ⟨[], true, [(5, [(1, 0), (3, 0), (23, 0), (24, 0), (25, 0)])], []⟩
def cc60 : FCert := ⟨[], true, [], []⟩
def cc61 : FCert := ⟨[], true, [(3, [(3, 0), (6, 0), (7, 0), (8, 0)])], []⟩
def cc62 : FCert := ⟨[], true, [(9, [(3, 0), (6, 0), (10, 0), (40, 0), (41, 0), (42, 0)])], []⟩
def cc63 : FCert := ⟨[], true, [], [(3, [[], [], [1], [], [], [1, 2, 4], [], [1, 2, 4, 5]])]⟩
def cc64 : FCert := ⟨[], true, [], []⟩
def cc65 : FCert := ⟨[], true, [], [(1, [[], [], [1], [], [], [1, 2, 4], [], [], [], [1, 2, 4, 5, 8], [], [], [1, 2, 4, 5, 8, 9], []])]⟩
def cc66 : FCert := ⟨[], true, [], []⟩
def cc67 : FCert := ⟨[], true, [], []⟩
def cc68 : FCert := ⟨[], true, [], []⟩
def cc69 : FCert := ⟨[], true, [(4, [(0, 0), (1, 0), (2, 0), (7, 0), (8, 0), (9, 0)])], []⟩
def cc70 : FCert := ⟨[], true, [(3, [(0, 0), (1, 0), (5, 0), (6, 0)])], []⟩
def cc71 : FCert := ⟨[], true, [], [(12, [[], [], [], [], [], [4], [], [], [], [], [4, 5, 9], []]), (14, [[], [], [], [], [], [], [], [], [], [2, 6], [], []])]⟩
def cc72 : FCert := ⟨[], true, [], [(5, [[], [], [], [], [], [], [], [], [], [], [], [], [], [], [], [], [], [], [2], [2, 18], [], [0, 2, 18, 19], []])]⟩
def cc73 : FCert := ⟨[], true, [], []⟩
def cc74 : FCert := ⟨[], true, [(3, [(0, 0), (3, 0), (4, 0)]), (7, [(0, 0), (3, 0), (4, 0), (5, 0)])], []⟩
def cc75 : FCert := ⟨[], true, [(3, [(0, 0), (3, 0), (6, 0), (7, 0), (8, 0)])], [(6, [[], [], [1], [], [], [], [], [], [], [], [], [], [], [], [], [1, 2], [], [1, 2, 15], [], [1, 2], [], [], []])]⟩
def cc76 : FCert := ⟨[], true, [], []⟩
def cc77 : FCert := ⟨[], true, [], [(13, [[], [], [], [], [], [], [], [5], [], [2, 5, 7], [], []])]⟩
def cc78 : FCert := ⟨[], true, [(4, [(0, 0), (1, 0), (12, 0), (13, 0)])], [(6, [[], [], [], [2], [], [], [], [6], []])]⟩
def cc79 : FCert := ⟨[], true, [(3, [(0, 0), (5, 0), (6, 0)])], [(12, [[], [], [], [0, 2], []]), (19, [[], [], [], [], [0, 3], [], [0, 3, 4], []]), (21, [[], [], [], [2], [2, 3], [], [], [], [2, 3, 4, 6], [2, 3, 4, 6, 8], []])]⟩
def cc80 : FCert := ⟨[], true, [(3, [(0, 0), (5, 0), (6, 0)])], []⟩
def cc81 : FCert := ⟨[], true, [], []⟩
def cc82 : FCert := ⟨[], true, [], []⟩
def cc83 : FCert := ⟨[], true, [], []⟩
def cc84 : FCert := ⟨[], true, [], []⟩
def cc85 : FCert := ⟨[], true, [(2, [(0, 0), (1, 0), (7, 0), (8, 0)])], []⟩
def cc86 : FCert := ⟨[], true, [], []⟩
def cc87 : FCert := ⟨[true, false, true], true, [], []⟩
def cc88 : FCert := ⟨[], true, [], [(5, [[], [], [], [], [3], [0, 3, 4], [0, 3, 4, 5], []])]⟩
def cc89 : FCert := ⟨[], true, [(2, [(0, 0), (3, 0)])], []⟩
def cc90 : FCert := ⟨[], true, [], []⟩
def cc91 : FCert := ⟨[], true, [], []⟩
def cc92 : FCert := ⟨[], true, [], []⟩
def cc93 : FCert := ⟨[], true, [], []⟩
def cc94 : FCert := ⟨[], true, [], []⟩
def cc95 : FCert := ⟨[true], true, [], []⟩
def cc96 : FCert := ⟨[], true, [], [(2, [[], [], [1], [1, 2], [], [], [5], [5, 6], [], [], [], [], [11], [11, 12], [], [], [], [], [17], [17, 18], [], [], []])]⟩
def cc97 : FCert := ⟨[], true, [(3, [(0, 0), (3, 0), (7, 0), (8, 0)]), (7, [(0, 0), (3, 0), (7, 0), (8, 0), (17, 0)])], []⟩
def cc98 : FCert := ⟨[], true, [], []⟩
def cc101 : FCert := ⟨[false, true], true, [], []⟩
def cc102 : FCert := ⟨[], true, [(3, [(0, 0), (1, 0), (2, 0), (8, 0), (9, 0), (10, 0)])], []⟩
def cc103 : FCert := ⟨[], true, [], []⟩
def cc104 : FCert := ⟨[], true, [], []⟩
def cc105 : FCert := ⟨[true, false, true], true, [], []⟩
def cc107 : FCert := ⟨[], true, [], []⟩
def CC0 : Cert := fun f => if f = 3 then cc3 else if f = 4 then cc4 else if f = 5 then cc5 else if f = 6 then cc6 else if f = 7 then cc7 else if f = 8 then cc8 else if f = 9 then cc9 else if f = 10 then cc10 else if f = 11 then cc11 else if f = 12 then cc12 else if f = 13 then cc13 else if f = 14 then cc14 else if f = 15 then cc15 else if f = 16 then cc16 else if f = 17 then cc17 else if f = 18 then cc18 else if f = 19 then cc19 else if f = 20 then cc20 else if f = 21 then cc21 else if f = 22 then cc22 else if f = 23 then cc23 else if f = 24 then cc24 else if f = 25 then cc25 else if f = 26 then cc26 else if f = 27 then cc27 else if f = 28 then cc28 else if f = 29 then cc29 else if f = 30 then cc30 else if f = 31 then cc31 else if f = 32 then cc32 else if f = 33 then cc33 else if f = 34 then cc34 else if f = 35 then cc35 else if f = 36 then cc36 else if f = 37 then cc37 else if f = 38 then cc38 else if f = 39 then cc39 else if f = 40 then cc40 else if f = 41 then cc41 else if f = 42 then cc42 else if f = 43 then cc43 else if f = 44 then cc44 else if f = 45 then cc45 else if f = 46 then cc46 else if f = 47 then cc47 else if f = 48 then cc48 else if f = 49 then cc49 else if f = 50 then cc50 else if f = 51 then cc51 else if f = 52 then cc52 else if f = 53 then cc53 else if f = 54 then cc54 else if f = 55 then cc55 else if f = 56 then cc56 else if f = 57 then cc57 else if f = 58 then cc58 else if f = 59 then cc59 else if f = 60 then cc60 else if f = 61 then cc61 else if f = 62 then cc62 else if f = 63 then cc63 else if f = 64 then cc64 else if f = 65 then cc65 else if f = 66 then cc66 else if f = 67 then cc67 else if f = 68 then cc68 else if f = 69 then cc69 else if f = 70 then cc70 else if f = 71 then cc71 else if f = 72 then cc72 else if f = 73 then cc73 else if f = 74 then cc74 else if f = 75 then cc75 else if f = 76 then cc76 else if f = 77 then cc77 else if f = 78 then cc78 else if f = 79 then cc79 else if f = 80 then cc80 else if f = 81 then cc81 else if f = 82 then cc82 else if f = 83 then cc83 else if f = 84 then cc84 else if f = 85 then cc85 else if f = 86 then cc86 else if f = 87 then cc87 else if f = 88 then cc88 else if f = 89 then cc89 else if f = 90 then cc90 else if f = 91 then cc91 else if f = 92 then cc92 else if f = 93 then cc93 else if f = 94 then cc94 else if f = 95 then cc95 else if f = 96 then cc96 else if f = 97 then cc97 else if f = 98 then cc98 else if f = 101 then cc101 else if f = 102 then cc102 else if f = 103 then cc103 else if f = 104 then cc104 else if f = 105 then cc105 else if f = 107 then cc107 else ⟨[], false, [], []⟩
def f40.start (k : Nat) (a b : ByteArray) (c : Int) : PT (Int) Empty := .ite ((IntKind.i64.wrap (c - (a.size : Int))) < 0) (fun h1 => .ret (-1)) (fun h1 => .ite ((IntKind.i64.wrap ((IntKind.i64.wrap (c - (a.size : Int))) - (b.size : Int))) < 0) (fun h2 => .ret (-1)) (fun h2 => .ret (IntKind.i64.wrap ((IntKind.i64.wrap (c - (a.size : Int))) - (b.size : Int)))))
def f40.o : (Int) → V El × List (O El) := fun r => (.id .i64 0 r, [])
abbrev sf40 (k : Nat) : List (V G.El) → List (O G.El) → Q G.El (V G.El × List (O G.El)) := fun as' os' => lT os' <| na as' argA fun b' as' => nc b' argS fun a b' => nc b' argS fun b b' => argT b' <| na as' (argI .i64) fun c as' => lT as' <| .call _ (f40 k a b c) fun r => .ret (f40.o r)
inductive f15.L where
  | l5 (x0 : List S75) (x1 : Int) (x5 : Int)
def f15.st : f15.L → Nat × S El
  | .l5 x0 x1 x5 => (5, ⟨27, .dead, [(0, .sl 0 x0 []), (1, .id .i64 2 x1), (5, .id .i64 6 x5)], [], 0, 0⟩)
def f15.blk (k : Nat) : f15.L → PT (Int) f15.L
  | .l5 x0 x1 x5 => .ite (x5 < (x0.length : Int)) (fun h2 => .need (0 ≤ x5) fun h3 => .th h2 <| .call _ (f40 k ((at' x0 x5).f0) ((at' x0 x5).f1) x1) fun t1 => .ite (t1 < 0) (fun h4 => .ret (-1)) (fun h4 => .jump (.l5 x0 t1 (IntKind.i64.wrap (x5 + 1))))) (fun h2 => .ret x1)
def f15.D (k : Nat) : f15.L → Option (Int)
  | .l5 x0 x1 x5 => f15.l5 k x0 x1 x5
def f15.start (k : Nat) (a : List S75) (b : Int) : PT (Int) f15.L := .ite ((IntKind.i64.wrap (b - (a.length : Int))) < 0) (fun h1 => .ret (-1)) (fun h1 => .jump (.l5 a (IntKind.i64.wrap (b - (a.length : Int))) 0))
def f15.o : (Int) → V El × List (O El) := fun r => (.id .i64 0 r, [])
abbrev sf15 (k : Nat) : List (V G.El) → List (O G.El) → Q G.El (V G.El × List (O G.El)) := fun as' os' => lT os' <| na as' (argL 0) fun a as' => na as' (argI .i64) fun b as' => lT as' <| .call _ (f15 k a b) fun r => .ret (f15.o r)
def f41.start (k : Nat) (a : Int) (b c d : ByteArray) (e : Int) : PT (Int) Empty := .ite ((IntKind.i64.wrap (e - (b.size : Int))) < 0) (fun h1 => .ret (-1)) (fun h1 => .ite ((IntKind.i64.wrap ((IntKind.i64.wrap (e - (b.size : Int))) - (c.size : Int))) < 0) (fun h2 => .ret (-1)) (fun h2 => .ite ((IntKind.i64.wrap ((IntKind.i64.wrap ((IntKind.i64.wrap (e - (b.size : Int))) - (c.size : Int))) - (d.size : Int))) < 0) (fun h3 => .ret (-1)) (fun h3 => .ret (IntKind.i64.wrap ((IntKind.i64.wrap ((IntKind.i64.wrap (e - (b.size : Int))) - (c.size : Int))) - (d.size : Int))))))
def f41.o : (Int) → V El × List (O El) := fun r => (.id .i64 0 r, [])
abbrev sf41 (k : Nat) : List (V G.El) → List (O G.El) → Q G.El (V G.El × List (O G.El)) := fun as' os' => lT os' <| na as' argA fun b' as' => nc b' (argI .i64) fun a b' => nc b' argS fun b b' => nc b' argS fun c b' => nc b' argS fun d b' => argT b' <| na as' (argI .i64) fun e as' => lT as' <| .call _ (f41 k a b c d e) fun r => .ret (f41.o r)
inductive f16.L where
  | l5 (x0 : List S77) (x1 : Int) (x5 : Int)
def f16.st : f16.L → Nat × S El
  | .l5 x0 x1 x5 => (5, ⟨27, .dead, [(0, .sl 1 x0 []), (1, .id .i64 2 x1), (5, .id .i64 6 x5)], [], 0, 0⟩)
def f16.blk (k : Nat) : f16.L → PT (Int) f16.L
  | .l5 x0 x1 x5 => .ite (x5 < (x0.length : Int)) (fun h2 => .need (0 ≤ x5) fun h3 => .th h2 <| .call _ (f41 k ((at' x0 x5).f0) ((at' x0 x5).f1) ((at' x0 x5).f2) ((at' x0 x5).f3) x1) fun t1 => .ite (t1 < 0) (fun h4 => .ret (-1)) (fun h4 => .jump (.l5 x0 t1 (IntKind.i64.wrap (x5 + 1))))) (fun h2 => .ret x1)
def f16.D (k : Nat) : f16.L → Option (Int)
  | .l5 x0 x1 x5 => f16.l5 k x0 x1 x5
def f16.start (k : Nat) (a : List S77) (b : Int) : PT (Int) f16.L := .ite ((IntKind.i64.wrap (b - (a.length : Int))) < 0) (fun h1 => .ret (-1)) (fun h1 => .jump (.l5 a (IntKind.i64.wrap (b - (a.length : Int))) 0))
def f16.o : (Int) → V El × List (O El) := fun r => (.id .i64 0 r, [])
abbrev sf16 (k : Nat) : List (V G.El) → List (O G.El) → Q G.El (V G.El × List (O G.El)) := fun as' os' => lT os' <| na as' (argL 1) fun a as' => na as' (argI .i64) fun b as' => lT as' <| .call _ (f16 k a b) fun r => .ret (f16.o r)
def f4.start (k : Nat) (a b : List S75) (c : List S77) (d : Int) : PT (Int) Empty := .call _ (f15 k a d) fun t1 => .ite (t1 < 0) (fun h1 => .ret (-1)) (fun h1 => .call _ (f15 k b t1) fun t2 => .ite (t2 < 0) (fun h2 => .ret (-1)) (fun h2 => .call _ (f16 k c t2) fun t3 => .ite (t3 < 0) (fun h3 => .ret (-1)) (fun h3 => .ret t3)))
def f4.o : (Int) → V El × List (O El) := fun r => (.id .i64 0 r, [])
abbrev sf4 (k : Nat) : List (V G.El) → List (O G.El) → Q G.El (V G.El × List (O G.El)) := fun as' os' => lT os' <| na as' argA fun b' as' => nc b' (argL 0) fun a b' => nc b' (argL 0) fun b b' => nc b' (argL 1) fun c b' => argT b' <| na as' (argI .i64) fun d as' => lT as' <| .call _ (f4 k a b c d) fun r => .ret (f4.o r)
def f17.start (k : Nat) (a b : Int) (c : ByteArray) (d : Int) : PT (Int) Empty := .ite ((IntKind.i64.wrap (d - (c.size : Int))) < 0) (fun h1 => .ret (-1)) (fun h1 => .ret (IntKind.i64.wrap (d - (c.size : Int))))
def f17.o : (Int) → V El × List (O El) := fun r => (.id .i64 0 r, [])
abbrev sf17 (k : Nat) : List (V G.El) → List (O G.El) → Q G.El (V G.El × List (O G.El)) := fun as' os' => lT os' <| na as' argA fun b' as' => nc b' (argI .i64) fun a b' => nc b' (argI .i64) fun b b' => nc b' argS fun c b' => argT b' <| na as' (argI .i64) fun d as' => lT as' <| .call _ (f17 k a b c d) fun r => .ret (f17.o r)
inductive f5.L where
  | l5 (x0 : List S47) (x1 : Int) (x5 : Int)
def f5.st : f5.L → Nat × S El
  | .l5 x0 x1 x5 => (5, ⟨27, .dead, [(0, .sl 2 x0 []), (1, .id .i64 2 x1), (5, .id .i64 6 x5)], [], 0, 0⟩)
def f5.blk (k : Nat) : f5.L → PT (Int) f5.L
  | .l5 x0 x1 x5 => .ite (x5 < (x0.length : Int)) (fun h2 => .need (0 ≤ x5) fun h3 => .th h2 <| .call _ (f17 k ((at' x0 x5).f0) ((at' x0 x5).f1) ((at' x0 x5).f2) x1) fun t1 => .ite (t1 < 0) (fun h4 => .ret (-1)) (fun h4 => .jump (.l5 x0 t1 (IntKind.i64.wrap (x5 + 1))))) (fun h2 => .ret x1)
def f5.D (k : Nat) : f5.L → Option (Int)
  | .l5 x0 x1 x5 => f5.l5 k x0 x1 x5
def f5.start (k : Nat) (a : List S47) (b : Int) : PT (Int) f5.L := .ite ((IntKind.i64.wrap (b - (a.length : Int))) < 0) (fun h1 => .ret (-1)) (fun h1 => .jump (.l5 a (IntKind.i64.wrap (b - (a.length : Int))) 0))
def f5.o : (Int) → V El × List (O El) := fun r => (.id .i64 0 r, [])
abbrev sf5 (k : Nat) : List (V G.El) → List (O G.El) → Q G.El (V G.El × List (O G.El)) := fun as' os' => lT os' <| na as' (argL 2) fun a as' => na as' (argI .i64) fun b as' => lT as' <| .call _ (f5 k a b) fun r => .ret (f5.o r)
def f53.start (k : Nat) (a b : ByteArray) : PT (ByteArray × ByteArray) Empty := .ret (a, b)
def f53.o : (ByteArray × ByteArray) → V El × List (O El) := fun r => (.agg [.s r.1, .s r.2], [])
abbrev sf53 (k : Nat) : List (V G.El) → List (O G.El) → Q G.El (V G.El × List (O G.El)) := fun as' os' => lT os' <| na as' argA fun b' as' => nc b' argS fun a b' => nc b' argS fun b b' => argT b' <| lT as' <| .call _ (f53 k a b) fun r => .ret (f53.o r)
inductive f28.L where
  | l3 (q0 : List S58) (x0 : List S75) (x4 : Int)
def f28.st : f28.L → Nat × S El
  | .l3 q0 x0 x4 => (3, ⟨23, .dead, [(0, .sl 0 x0 []), (3, .win 0 true (.l 0) (.d 0 q0.length)), (4, .id .i64 5 x4)], [(0, .row true true true 0 3 q0 none)], 1, 0⟩)
def f28.blk (k : Nat) : f28.L → PT ((List S58)) f28.L
  | .l3 q0 x0 x4 => .ite (x4 < (x0.length : Int)) (fun h5 => .need (0 ≤ x4) fun h6 => .th h5 <| .call _ (f53 k ((at' x0 x4).f0) ((at' x0 x4).f1)) fun t1 => .th h6 <| .need (x4 < (q0.length : Int)) fun h7 => .triv (x4.toNat < q0.length) tv <| .tr q0.length <| .jump (.l3 (q0.set x4.toNat (⟨t1.1, t1.2⟩ : S58)) x0 (IntKind.i64.wrap (x4 + 1)))) (fun h5 => .tr q0.length <| .ret q0)
def f28.D (k : Nat) : f28.L → Option ((List S58))
  | .l3 q0 x0 x4 => f28.l3 k q0 x0 x4
def f28.start (k : Nat) (a : List S75) : PT ((List S58)) f28.L := .need (0 ≤ (a.length : Int)) fun h1 => .need ((a.length : Int) ≤ (a.length : Int)) fun h2 => .need ((a.length : Int) * 32 ≤ 70368744177664) fun h3 => .need ((a.length : Int) ≤ 70368744177664) fun h4 => .triv ((a.length : Int).toNat = (List.replicate ((a.length : Int).toNat) (⟨(⟨#[]⟩ : ByteArray), (⟨#[]⟩ : ByteArray)⟩ : S58)).length) tv <| .jump (.l3 (List.replicate ((a.length : Int).toNat) (⟨(⟨#[]⟩ : ByteArray), (⟨#[]⟩ : ByteArray)⟩ : S58)) a 0)
def f28.o : ((List S58)) → V El × List (O El) := fun r => (.win 0 true (.l 0) (.d 0 r.length), [.row true true true 0 3 r none])
abbrev sf28 (k : Nat) : List (V G.El) → List (O G.El) → Q G.El (V G.El × List (O G.El)) := fun as' os' => lT os' <| na as' (argL 0) fun a as' => lT as' <| .call _ (f28 k a) fun r => .ret (f28.o r)
def f54.start (k : Nat) (a : Int) (b c d : ByteArray) : PT (Int × ByteArray × ByteArray × ByteArray) Empty := .ret (a, b, c, d)
def f54.o : (Int × ByteArray × ByteArray × ByteArray) → V El × List (O El) := fun r => (.agg [.id .i64 0 r.1, .s r.2.1, .s r.2.2.1, .s r.2.2.2], [])
abbrev sf54 (k : Nat) : List (V G.El) → List (O G.El) → Q G.El (V G.El × List (O G.El)) := fun as' os' => lT os' <| na as' argA fun b' as' => nc b' (argI .i64) fun a b' => nc b' argS fun b b' => nc b' argS fun c b' => nc b' argS fun d b' => argT b' <| lT as' <| .call _ (f54 k a b c d) fun r => .ret (f54.o r)
inductive f29.L where
  | l3 (q0 : List S63) (x0 : List S77) (x4 : Int)
def f29.st : f29.L → Nat × S El
  | .l3 q0 x0 x4 => (3, ⟨23, .dead, [(0, .sl 1 x0 []), (3, .win 0 true (.l 0) (.d 0 q0.length)), (4, .id .i64 5 x4)], [(0, .row true true true 0 4 q0 none)], 1, 0⟩)
def f29.blk (k : Nat) : f29.L → PT ((List S63)) f29.L
  | .l3 q0 x0 x4 => .ite (x4 < (x0.length : Int)) (fun h5 => .need (0 ≤ x4) fun h6 => .th h5 <| .call _ (f54 k ((at' x0 x4).f0) ((at' x0 x4).f1) ((at' x0 x4).f2) ((at' x0 x4).f3)) fun t1 => .th h6 <| .need (x4 < (q0.length : Int)) fun h7 => .triv (x4.toNat < q0.length) tv <| .tr q0.length <| .jump (.l3 (q0.set x4.toNat (⟨t1.1, t1.2.1, t1.2.2.1, t1.2.2.2⟩ : S63)) x0 (IntKind.i64.wrap (x4 + 1)))) (fun h5 => .tr q0.length <| .ret q0)
def f29.D (k : Nat) : f29.L → Option ((List S63))
  | .l3 q0 x0 x4 => f29.l3 k q0 x0 x4
def f29.start (k : Nat) (a : List S77) : PT ((List S63)) f29.L := .need (0 ≤ (a.length : Int)) fun h1 => .need ((a.length : Int) ≤ (a.length : Int)) fun h2 => .need ((a.length : Int) * 56 ≤ 70368744177664) fun h3 => .need ((a.length : Int) ≤ 70368744177664) fun h4 => .triv ((a.length : Int).toNat = (List.replicate ((a.length : Int).toNat) (⟨0, (⟨#[]⟩ : ByteArray), (⟨#[]⟩ : ByteArray), (⟨#[]⟩ : ByteArray)⟩ : S63)).length) tv <| .jump (.l3 (List.replicate ((a.length : Int).toNat) (⟨0, (⟨#[]⟩ : ByteArray), (⟨#[]⟩ : ByteArray), (⟨#[]⟩ : ByteArray)⟩ : S63)) a 0)
def f29.o : ((List S63)) → V El × List (O El) := fun r => (.win 0 true (.l 0) (.d 0 r.length), [.row true true true 0 4 r none])
abbrev sf29 (k : Nat) : List (V G.El) → List (O G.El) → Q G.El (V G.El × List (O G.El)) := fun as' os' => lT os' <| na as' (argL 1) fun a as' => lT as' <| .call _ (f29 k a) fun r => .ret (f29.o r)
def f7.start (k : Nat) (a b : List S75) (c : List S77) : PT ((List S58) × (List S58) × (List S63)) Empty := .call _ (f28 k a) fun t1 => .call _ (f28 k b) fun t2 => .call _ (f29 k c) fun t3 => .tr t1.length <| .tr t2.length <| .tr t3.length <| .ret (t1, t2, t3)
def f7.o : ((List S58) × (List S58) × (List S63)) → V El × List (O El) := fun r => (.agg [.win 0 true (.l 0) (.d 0 r.1.length), .win 1 true (.l 0) (.d 0 r.2.1.length), .win 2 true (.l 0) (.d 0 r.2.2.length)], [.row true true true 0 3 r.1 none, .row true true true 0 3 r.2.1 none, .row true true true 0 4 r.2.2 none])
abbrev sf7 (k : Nat) : List (V G.El) → List (O G.El) → Q G.El (V G.El × List (O G.El)) := fun as' os' => lT os' <| na as' argA fun b' as' => nc b' (argL 0) fun a b' => nc b' (argL 0) fun b b' => nc b' (argL 1) fun c b' => argT b' <| lT as' <| .call _ (f7 k a b c) fun r => .ret (f7.o r)
def f30.start (k : Nat) (a b : Int) (c : ByteArray) : PT (Int × Int × ByteArray) Empty := .ret (a, b, c)
def f30.o : (Int × Int × ByteArray) → V El × List (O El) := fun r => (.agg [.id .i64 0 r.1, .id .i64 0 r.2.1, .s r.2.2], [])
abbrev sf30 (k : Nat) : List (V G.El) → List (O G.El) → Q G.El (V G.El × List (O G.El)) := fun as' os' => lT os' <| na as' argA fun b' as' => nc b' (argI .i64) fun a b' => nc b' (argI .i64) fun b b' => nc b' argS fun c b' => argT b' <| lT as' <| .call _ (f30 k a b c) fun r => .ret (f30.o r)
inductive f8.L where
  | l3 (q0 : List S61) (x0 : List S47) (x4 : Int)
def f8.st : f8.L → Nat × S El
  | .l3 q0 x0 x4 => (3, ⟨23, .dead, [(0, .sl 2 x0 []), (3, .win 0 true (.l 0) (.d 0 q0.length)), (4, .id .i64 5 x4)], [(0, .row true true true 0 5 q0 none)], 1, 0⟩)
def f8.blk (k : Nat) : f8.L → PT ((List S61)) f8.L
  | .l3 q0 x0 x4 => .ite (x4 < (x0.length : Int)) (fun h5 => .need (0 ≤ x4) fun h6 => .th h5 <| .call _ (f30 k ((at' x0 x4).f0) ((at' x0 x4).f1) ((at' x0 x4).f2)) fun t1 => .th h6 <| .need (x4 < (q0.length : Int)) fun h7 => .triv (x4.toNat < q0.length) tv <| .tr q0.length <| .jump (.l3 (q0.set x4.toNat (⟨t1.1, t1.2.1, t1.2.2⟩ : S61)) x0 (IntKind.i64.wrap (x4 + 1)))) (fun h5 => .tr q0.length <| .ret q0)
def f8.D (k : Nat) : f8.L → Option ((List S61))
  | .l3 q0 x0 x4 => f8.l3 k q0 x0 x4
def f8.start (k : Nat) (a : List S47) : PT ((List S61)) f8.L := .need (0 ≤ (a.length : Int)) fun h1 => .need ((a.length : Int) ≤ (a.length : Int)) fun h2 => .need ((a.length : Int) * 32 ≤ 70368744177664) fun h3 => .need ((a.length : Int) ≤ 70368744177664) fun h4 => .triv ((a.length : Int).toNat = (List.replicate ((a.length : Int).toNat) (⟨0, 0, (⟨#[]⟩ : ByteArray)⟩ : S61)).length) tv <| .jump (.l3 (List.replicate ((a.length : Int).toNat) (⟨0, 0, (⟨#[]⟩ : ByteArray)⟩ : S61)) a 0)
def f8.o : ((List S61)) → V El × List (O El) := fun r => (.win 0 true (.l 0) (.d 0 r.length), [.row true true true 0 5 r none])
abbrev sf8 (k : Nat) : List (V G.El) → List (O G.El) → Q G.El (V G.El × List (O G.El)) := fun as' os' => lT os' <| na as' (argL 2) fun a as' => lT as' <| .call _ (f8 k a) fun r => .ret (f8.o r)
def f68.start (k : Nat) (a : ByteArray) : PT (Bool) Empty := .ite (1 ≤ (a.size : Int)) (fun h1 => .th h1 <| .th h1 <| .th h1 <| .ret (decide ((a.size : Int) ≤ 100))) (fun h1 => .th h1 <| .th h1 <| .th h1 <| .ret false)
def f68.o : (Bool) → V El × List (O El) := fun r => (.bb false r, [])
abbrev sf68 (k : Nat) : List (V G.El) → List (O G.El) → Q G.El (V G.El × List (O G.El)) := fun as' os' => lT os' <| na as' argS fun a as' => lT as' <| .call _ (f68 k a) fun r => .ret (f68.o r)
inductive f42.L where
  | l5 (x0 : List S58) (x3 : Int) (x4 : Int)
def f42.st : f42.L → Nat × S El
  | .l5 x0 x3 x4 => (5, ⟨49, .dead, [(0, .sl 3 x0 []), (3, .id .i64 4 x3), (4, .id .i64 5 x4)], [], 0, 0⟩)
def f42.hint : f42.L → H
  | .l5 .. => (.both (.skip (.both (.l (.l (.both (.l (.l (.l (.l (.l (.l (.l (.l (.l (.l (.l (.l (.l (.l .all)))))))))))))) (.r (.r (.r (.r (.r (.r (.r (.r (.r (.r (.r (.l (.r (.l .all))))))))))))))))) (.r (.r (.r (.r .all)))))) .all)
def f42.blk (k : Nat) : f42.L → PT (Bool) f42.L
  | .l5 x0 x3 x4 => .ite (x4 < (x0.length : Int)) (fun h2 => .need (0 ≤ x4) fun h3 => .th h2 <| .call _ (f68 k ((at' x0 x4).f0)) fun t1 => .ite (t1 = true) (fun h4 => .th h4 <| .th h4 <| .ite (0 < x4) (fun h5 => .th h5 <| .th h5 <| .th h3 <| .th h2 <| .th h5 <| .th h5 <| .th h5 <| .th h5 <| .th h5 <| .th h5 <| .need (0 ≤ (IntKind.i64.wrap (x4 - 1))) fun h6 => .need ((IntKind.i64.wrap (x4 - 1)) < (x0.length : Int)) fun h7 => .th h5 <| .th h5 <| .th h5 <| .th h4 <| .th h5 <| .th h4 <| .ite ((strLt ((at' x0 x4).f0) ((at' x0 (IntKind.i64.wrap (x4 - 1))).f0) || strEq ((at' x0 x4).f0) ((at' x0 (IntKind.i64.wrap (x4 - 1))).f0)) = true) (fun h8 => .ret false) (fun h8 => .th h3 <| .th h2 <| .jump (.l5 x0 (IntKind.i64.wrap (x3 + ((((at' x0 x4).f1).size : Nat) : Int))) (IntKind.i64.wrap (x4 + 1))))) (fun h5 => .th h5 <| .th h5 <| .th h5 <| .th h5 <| .th h5 <| .th h5 <| .th h5 <| .th h5 <| .th h5 <| .th h5 <| .th h5 <| .th h4 <| .th h5 <| .th h4 <| .th h3 <| .th h2 <| .jump (.l5 x0 (IntKind.i64.wrap (x3 + ((((at' x0 x4).f1).size : Nat) : Int))) (IntKind.i64.wrap (x4 + 1))))) (fun h4 => .th h4 <| .th h4 <| .th h4 <| .th h4 <| .ret false)) (fun h2 => .ret (decide (x3 ≤ 200000)))
def f42.D (k : Nat) : f42.L → Option (Bool)
  | .l5 x0 x3 x4 => f42.l5 k x0 x3 x4
def f42.start (k : Nat) (a : List S58) : PT (Bool) f42.L := .ite (60 < (a.length : Int)) (fun h1 => .ret false) (fun h1 => .jump (.l5 a 0 0))
def f42.o : (Bool) → V El × List (O El) := fun r => (.bb false r, [])
abbrev sf42 (k : Nat) : List (V G.El) → List (O G.El) → Q G.El (V G.El × List (O G.El)) := fun as' os' => lT os' <| na as' (argL 3) fun a as' => lT as' <| .call _ (f42 k a) fun r => .ret (f42.o r)
inductive f23.L where
  | l2 (x0 : List S58) (x1 : ByteArray) (x5 : Int)
def f23.st : f23.L → Nat × S El
  | .l2 x0 x1 x5 => (2, ⟨20, .dead, [(0, .sl 3 x0 []), (1, .s x1), (5, .id .i64 6 x5)], [], 0, 0⟩)
def f23.blk (k : Nat) : f23.L → PT (Int) f23.L
  | .l2 x0 x1 x5 => .ite (x5 < (x0.length : Int)) (fun h1 => .need (0 ≤ x5) fun h2 => .th h1 <| .ite ((strEq ((at' x0 x5).f0) x1) = true) (fun h3 => .ret x5) (fun h3 => .jump (.l2 x0 x1 (IntKind.i64.wrap (x5 + 1))))) (fun h1 => .ret (-1))
def f23.D (k : Nat) : f23.L → Option (Int)
  | .l2 x0 x1 x5 => f23.l2 k x0 x1 x5
def f23.start (k : Nat) (a : List S58) (b : ByteArray) : PT (Int) f23.L := .jump (.l2 a b 0)
def f23.o : (Int) → V El × List (O El) := fun r => (.id .i64 0 r, [])
abbrev sf23 (k : Nat) : List (V G.El) → List (O G.El) → Q G.El (V G.El × List (O G.El)) := fun as' os' => lT os' <| na as' (argL 3) fun a as' => na as' argS fun b as' => lT as' <| .call _ (f23 k a b) fun r => .ret (f23.o r)
inductive f69.L where
  | l4 (q0 : List S58) (x0 : List S58) (x1 : ByteArray) (x2 : ByteArray) (x8 : Bool) (x9 : Int)
def f69.st : f69.L → Nat × S El
  | .l4 q0 x0 x1 x2 x8 x9 => (4, ⟨57, .dead, [(0, .sl 3 x0 []), (1, .s x1), (2, .s x2), (7, .win 0 true (.l 0) (.d 0 q0.length)), (8, .bb false x8), (9, .id .i64 10 x9)], [(0, .row true true true 0 3 q0 none)], 1, 0⟩)
def f69.hint : f69.L → H
  | .l4 .. => (.both (.both (.l (.l (.l (.l (.l (.l (.l .all))))))) (.r (.r (.r (.r (.r (.r (.r .all)))))))) .all)
def f69.blk (k : Nat) : f69.L → PT ((List S58)) f69.L
  | .l4 q0 x0 x1 x2 x8 x9 => .ite (x9 < (x0.length : Int)) (fun h1 => .ite (x8 = true) (fun h2 => .th h2 <| .th h2 <| .th h2 <| .th h2 <| .th h2 <| .th h2 <| .th h2 <| .need (0 ≤ x9) fun h3 => .th h1 <| .ite ((strEq ((at' x0 x9).f0) x1) = true) (fun h4 => .tr q0.length <| .jump (.l4 q0 x0 x1 x2 x8 (IntKind.i64.wrap (x9 + 1)))) (fun h4 => .th h3 <| .th h1 <| .triv (1 = ([(⟨(at' x0 x9).f0, (at' x0 x9).f1⟩ : S58)] : List S58).length) tv <| .tr q0.length <| .need ((q0.length + 1) * 32 ≤ 70368744177664) fun h5 => .need ((q0.length + 1) ≤ 70368744177664) fun h6 => .triv ((q0.length + 1) = (q0 ++ ([(⟨(at' x0 x9).f0, (at' x0 x9).f1⟩ : S58)] : List S58)).length) tv <| .jump (.l4 (q0 ++ ([(⟨(at' x0 x9).f0, (at' x0 x9).f1⟩ : S58)] : List S58)) x0 x1 x2 x8 (IntKind.i64.wrap (x9 + 1))))) (fun h2 => .th h2 <| .th h2 <| .need (0 ≤ x9) fun h7 => .th h1 <| .th h2 <| .th h2 <| .th h2 <| .th h2 <| .th h2 <| .ite ((strLt ((at' x0 x9).f0) x1) = true) (fun h8 => .th h7 <| .th h1 <| .ite ((strEq ((at' x0 x9).f0) x1) = true) (fun h9 => .tr q0.length <| .jump (.l4 q0 x0 x1 x2 x8 (IntKind.i64.wrap (x9 + 1)))) (fun h9 => .th h7 <| .th h1 <| .triv (1 = ([(⟨(at' x0 x9).f0, (at' x0 x9).f1⟩ : S58)] : List S58).length) tv <| .tr q0.length <| .need ((q0.length + 1) * 32 ≤ 70368744177664) fun h10 => .need ((q0.length + 1) ≤ 70368744177664) fun h11 => .triv ((q0.length + 1) = (q0 ++ ([(⟨(at' x0 x9).f0, (at' x0 x9).f1⟩ : S58)] : List S58)).length) tv <| .jump (.l4 (q0 ++ ([(⟨(at' x0 x9).f0, (at' x0 x9).f1⟩ : S58)] : List S58)) x0 x1 x2 x8 (IntKind.i64.wrap (x9 + 1))))) (fun h8 => .triv (1 = ([(⟨x1, x2⟩ : S58)] : List S58).length) tv <| .tr q0.length <| .need ((q0.length + 1) * 32 ≤ 70368744177664) fun h12 => .need ((q0.length + 1) ≤ 70368744177664) fun h13 => .th h7 <| .th h1 <| .ite ((strEq ((at' x0 x9).f0) x1) = true) (fun h14 => .triv ((q0.length + 1) = (q0 ++ ([(⟨x1, x2⟩ : S58)] : List S58)).length) tv <| .jump (.l4 (q0 ++ ([(⟨x1, x2⟩ : S58)] : List S58)) x0 x1 x2 true (IntKind.i64.wrap (x9 + 1)))) (fun h14 => .th h7 <| .th h1 <| .triv (1 = ([(⟨(at' x0 x9).f0, (at' x0 x9).f1⟩ : S58)] : List S58).length) tv <| .triv ((q0.length + 1) = (q0 ++ ([(⟨x1, x2⟩ : S58)] : List S58)).length) tv <| .need (((q0.length + 1) + 1) * 32 ≤ 70368744177664) fun h15 => .need (((q0.length + 1) + 1) ≤ 70368744177664) fun h16 => .triv (((q0.length + 1) + 1) = ((q0 ++ ([(⟨x1, x2⟩ : S58)] : List S58)) ++ ([(⟨(at' x0 x9).f0, (at' x0 x9).f1⟩ : S58)] : List S58)).length) tv <| .jump (.l4 ((q0 ++ ([(⟨x1, x2⟩ : S58)] : List S58)) ++ ([(⟨(at' x0 x9).f0, (at' x0 x9).f1⟩ : S58)] : List S58)) x0 x1 x2 true (IntKind.i64.wrap (x9 + 1))))))) (fun h1 => .ite (x8 = true) (fun h17 => .tr q0.length <| .ret q0) (fun h17 => .triv (1 = ([(⟨x1, x2⟩ : S58)] : List S58).length) tv <| .tr q0.length <| .need ((q0.length + 1) * 32 ≤ 70368744177664) fun h18 => .need ((q0.length + 1) ≤ 70368744177664) fun h19 => .triv ((q0.length + 1) = (q0 ++ ([(⟨x1, x2⟩ : S58)] : List S58)).length) tv <| .ret (q0 ++ ([(⟨x1, x2⟩ : S58)] : List S58))))
def f69.D (k : Nat) : f69.L → Option ((List S58))
  | .l4 q0 x0 x1 x2 x8 x9 => f69.l4 k q0 x0 x1 x2 x8 x9
def f69.start (k : Nat) (a : List S58) (b c : ByteArray) : PT ((List S58)) f69.L := .triv (0 = ([] : List S58).length) tv <| .jump (.l4 ([] : List S58) a b c false 0)
def f69.o : ((List S58)) → V El × List (O El) := fun r => (.win 0 true (.l 0) (.d 0 r.length), [.row true true true 0 3 r none])
abbrev sf69 (k : Nat) : List (V G.El) → List (O G.El) → Q G.El (V G.El × List (O G.El)) := fun as' os' => lT os' <| na as' (argL 3) fun a as' => na as' argS fun b as' => na as' argS fun c as' => lT as' <| .call _ (f69 k a b c) fun r => .ret (f69.o r)
inductive f70.L where
  | l3 (q0 : List S58) (x0 : List S58) (x1 : ByteArray) (x6 : Int)
def f70.st : f70.L → Nat × S El
  | .l3 q0 x0 x1 x6 => (3, ⟨29, .dead, [(0, .sl 3 x0 []), (1, .s x1), (5, .win 0 true (.l 0) (.d 0 q0.length)), (6, .id .i64 7 x6)], [(0, .row true true true 0 3 q0 none)], 1, 0⟩)
def f70.blk (k : Nat) : f70.L → PT ((List S58)) f70.L
  | .l3 q0 x0 x1 x6 => .ite (x6 < (x0.length : Int)) (fun h1 => .need (0 ≤ x6) fun h2 => .th h1 <| .ite ((strEq ((at' x0 x6).f0) x1) = true) (fun h3 => .tr q0.length <| .jump (.l3 q0 x0 x1 (IntKind.i64.wrap (x6 + 1)))) (fun h3 => .th h2 <| .th h1 <| .triv (1 = ([(⟨(at' x0 x6).f0, (at' x0 x6).f1⟩ : S58)] : List S58).length) tv <| .tr q0.length <| .need ((q0.length + 1) * 32 ≤ 70368744177664) fun h4 => .need ((q0.length + 1) ≤ 70368744177664) fun h5 => .triv ((q0.length + 1) = (q0 ++ ([(⟨(at' x0 x6).f0, (at' x0 x6).f1⟩ : S58)] : List S58)).length) tv <| .jump (.l3 (q0 ++ ([(⟨(at' x0 x6).f0, (at' x0 x6).f1⟩ : S58)] : List S58)) x0 x1 (IntKind.i64.wrap (x6 + 1))))) (fun h1 => .tr q0.length <| .ret q0)
def f70.D (k : Nat) : f70.L → Option ((List S58))
  | .l3 q0 x0 x1 x6 => f70.l3 k q0 x0 x1 x6
def f70.start (k : Nat) (a : List S58) (b : ByteArray) : PT ((List S58)) f70.L := .triv (0 = ([] : List S58).length) tv <| .jump (.l3 ([] : List S58) a b 0)
def f70.o : ((List S58)) → V El × List (O El) := fun r => (.win 0 true (.l 0) (.d 0 r.length), [.row true true true 0 3 r none])
abbrev sf70 (k : Nat) : List (V G.El) → List (O G.El) → Q G.El (V G.El × List (O G.El)) := fun as' os' => lT os' <| na as' (argL 3) fun a as' => na as' argS fun b as' => lT as' <| .call _ (f70 k a b) fun r => .ret (f70.o r)
def f43.start (k : Nat) (a : List S58) (b : Int) (c d e : ByteArray) : PT (Bool × (List S58)) Empty := .call _ (f23 k a c) fun t1 => .ite (b = 1) (fun h1 => .ite (0 ≤ t1) (fun h2 => .th h2 <| .need (t1 < (a.length : Int)) fun h3 => .need (((at' a t1).f1).size + e.size ≤ 9223372036854775807) fun h4 => .call _ (f69 k a c ((at' a t1).f1 ++ e)) fun t2 => .tr t2.length <| .ret (true, t2)) (fun h2 => .call _ (f69 k a c e) fun t3 => .tr t3.length <| .ret (true, t3))) (fun h1 => .ite (t1 < 0) (fun h5 => .triv (0 = ([] : List S58).length) tv <| .need (a.length * 32 ≤ 70368744177664) fun h6 => .need (a.length ≤ 70368744177664) fun h7 => .tr a.length <| .ret (false, a)) (fun h5 => .call _ (f70 k a c) fun t4 => .ite (b = 2) (fun h8 => .need (0 ≤ t1) fun h9 => .need (t1 < (a.length : Int)) fun h10 => .tr t4.length <| .call _ (f69 k t4 d ((at' a t1).f1)) fun t5 => .tr t5.length <| .ret (true, t5)) (fun h8 => .tr t4.length <| .ret (true, t4))))
def f43.o : (Bool × (List S58)) → V El × List (O El) := fun r => (.tup [.win 0 true (.l 0) (.d 0 r.2.length), .bb false r.1], [.row true true true 0 3 r.2 none])
abbrev sf43 (k : Nat) : List (V G.El) → List (O G.El) → Q G.El (V G.El × List (O G.El)) := fun as' os' => lT os' <| na as' (argL 3) fun a as' => na as' argA fun b' as' => nc b' (argI .i64) fun b b' => nc b' argS fun c b' => nc b' argS fun d b' => nc b' argS fun e b' => argT b' <| lT as' <| .call _ (f43 k a b c d e) fun r => .ret (f43.o r)
def f20.start (k : Nat) (a b c : Int) : PT (Bool) Empty := .ite (b ≤ a) (fun h1 => .th h1 <| .th h1 <| .th h1 <| .ret (decide (a ≤ c))) (fun h1 => .th h1 <| .th h1 <| .th h1 <| .ret false)
def f20.o : (Bool) → V El × List (O El) := fun r => (.bb false r, [])
abbrev sf20 (k : Nat) : List (V G.El) → List (O G.El) → Q G.El (V G.El × List (O G.El)) := fun as' os' => lT os' <| na as' (argI .i64) fun a as' => na as' (argI .i64) fun b as' => na as' (argI .i64) fun c as' => lT as' <| .call _ (f20 k a b c) fun r => .ret (f20.o r)
def f44.start (k : Nat) (a : Int) (b c d : ByteArray) : PT (Bool) Empty := .call _ (f20 k a 1 3) fun t1 => .ite (t1 = true) (fun h1 => .th h1 <| .th h1 <| .call _ (f68 k b) fun t2 => .th h1 <| .th h1 <| .ite (t2 = true) (fun h2 => .ite (a = 2) (fun h3 => .call _ (f68 k c) fun t3 => .ite (t3 = true) (fun h4 => .th h4 <| .th h4 <| .th h4 <| .ret (strEq d (⟨#[]⟩ : ByteArray))) (fun h4 => .th h4 <| .th h4 <| .th h4 <| .ret false)) (fun h3 => .ite ((strEq c (⟨#[]⟩ : ByteArray)) = true) (fun h5 => .th h5 <| .th h5 <| .th h5 <| .ite (a = 1) (fun h6 => .th h6 <| .th h6 <| .th h5 <| .th h6 <| .th h5 <| .ret true) (fun h6 => .th h6 <| .th h6 <| .th h5 <| .th h6 <| .th h5 <| .ret (strEq d (⟨#[]⟩ : ByteArray)))) (fun h5 => .th h5 <| .th h5 <| .th h5 <| .th h5 <| .th h5 <| .ret false))) (fun h2 => .ret false)) (fun h1 => .th h1 <| .th h1 <| .th h1 <| .th h1 <| .ret false)
def f44.o : (Bool) → V El × List (O El) := fun r => (.bb false r, [])
abbrev sf44 (k : Nat) : List (V G.El) → List (O G.El) → Q G.El (V G.El × List (O G.El)) := fun as' os' => lT os' <| na as' argA fun b' as' => nc b' (argI .i64) fun a b' => nc b' argS fun b b' => nc b' argS fun c b' => nc b' argS fun d b' => argT b' <| lT as' <| .call _ (f44 k a b c d) fun r => .ret (f44.o r)
inductive f45.L where
  | l4 (x0 : List S58) (x1 : List S58) (x5 : Int)
def f45.st : f45.L → Nat × S El
  | .l4 x0 x1 x5 => (4, ⟨26, .dead, [(0, .sl 3 x0 []), (1, .sl 3 x1 []), (5, .id .i64 6 x5)], [], 0, 0⟩)
def f45.blk (k : Nat) : f45.L → PT (Bool) f45.L
  | .l4 x0 x1 x5 => .ite (x5 < (x0.length : Int)) (fun h2 => .need (0 ≤ x5) fun h3 => .th h2 <| .th h3 <| .need (x5 < (x1.length : Int)) fun h4 => .ite ((strEq ((at' x0 x5).f0) ((at' x1 x5).f0) && strEq ((at' x0 x5).f1) ((at' x1 x5).f1)) = true) (fun h5 => .jump (.l4 x0 x1 (IntKind.i64.wrap (x5 + 1)))) (fun h5 => .ret false)) (fun h2 => .ret true)
def f45.D (k : Nat) : f45.L → Option (Bool)
  | .l4 x0 x1 x5 => f45.l4 k x0 x1 x5
def f45.start (k : Nat) (a b : List S58) : PT (Bool) f45.L := .ite ((a.length : Int) = (b.length : Int)) (fun h1 => .jump (.l4 a b 0)) (fun h1 => .ret false)
def f45.o : (Bool) → V El × List (O El) := fun r => (.bb false r, [])
abbrev sf45 (k : Nat) : List (V G.El) → List (O G.El) → Q G.El (V G.El × List (O G.El)) := fun as' os' => lT os' <| na as' (argL 3) fun a as' => na as' (argL 3) fun b as' => lT as' <| .call _ (f45 k a b) fun r => .ret (f45.o r)
inductive f18.L where
  | l5 (x3 : List S58) (x4 : Int) (b0_0 : List S58) (b0_1 : List S58) (b0_2 : List S63)
def f18.st : f18.L → Nat × S El
  | .l5 x3 x4 b0_0 b0_1 b0_2 => (5, ⟨63, .dead, [(1, .ptr 0 (.l 0) 0), (3, .sl 3 x3 []), (4, .id .i64 5 x4)], [(0, .box true true 0 3 true [.sl 3 b0_0 [], .sl 3 b0_1 [], .sl 4 b0_2 []])], 1, 0⟩)
def f18.hint : f18.L → H
  | .l5 .. => (.both (.skip (.both (.l (.l (.l (.l (.l (.skip (.l (.l (.both (.l (.skip (.l (.l .all)))) (.r (.r (.r .all)))))))))))) (.r (.r (.r (.r (.r (.r (.r .all))))))))) .all)
def f18.blk (k : Nat) : f18.L → PT (Bool) f18.L
  | .l5 x3 x4 b0_0 b0_1 b0_2 => .ite (x4 < (b0_2.length : Int)) (fun h4 => .need (0 ≤ x4) fun h5 => .th h4 <| .call _ (f43 k x3 ((at' b0_2 x4).f0) ((at' b0_2 x4).f1) ((at' b0_2 x4).f2) ((at' b0_2 x4).f3)) fun t3 => .ite (t3.1 = true) (fun h6 => .th h6 <| .th h6 <| .th h6 <| .th h5 <| .th h4 <| .th h6 <| .th h6 <| .call _ (f44 k ((at' b0_2 x4).f0) ((at' b0_2 x4).f1) ((at' b0_2 x4).f2) ((at' b0_2 x4).f3)) fun t4 => .th h6 <| .th h6 <| .ite (t4 = true) (fun h7 => .th h7 <| .tr t3.2.length <| .call _ (f42 k t3.2) fun t5 => .th h7 <| .th h7 <| .ite (t5 = true) (fun h8 => .tr t3.2.length <| .jump (.l5 t3.2 (IntKind.i64.wrap (x4 + 1)) b0_0 b0_1 b0_2)) (fun h8 => .ret false)) (fun h7 => .th h7 <| .th h7 <| .th h7 <| .ret false)) (fun h6 => .th h6 <| .th h6 <| .th h6 <| .th h6 <| .th h6 <| .th h6 <| .th h6 <| .ret false)) (fun h4 => .call _ (f45 k x3 b0_0) fun t6 => .ret t6)
def f18.D (k : Nat) : f18.L → Option (Bool)
  | .l5 x3 x4 b0_0 b0_1 b0_2 => f18.l5 k x3 x4 b0_0 b0_1 b0_2
def f18.start (k : Nat) (a b : List S58) (c : List S63) : PT (Bool) f18.L := .call _ (f42 k a) fun t1 => .ite (t1 = true) (fun h1 => .th h1 <| .th h1 <| .call _ (f42 k b) fun t2 => .th h1 <| .th h1 <| .ite (t2 = true) (fun h2 => .th h2 <| .th h2 <| .th h2 <| .th h2 <| .ite (200 < (c.length : Int)) (fun h3 => .ret false) (fun h3 => .jump (.l5 b 0 a b c))) (fun h2 => .th h2 <| .th h2 <| .th h2 <| .th h2 <| .ret false)) (fun h1 => .th h1 <| .th h1 <| .th h1 <| .th h1 <| .ret false)
def f18.o : (Bool) → V El × List (O El) := fun r => (.bb false r, [])
abbrev sf18 (k : Nat) : List (V G.El) → List (O G.El) → Q G.El (V G.El × List (O G.El)) := fun as' os' => lT os' <| na as' argA fun b' as' => nc b' (argL 3) fun a b' => nc b' (argL 3) fun b b' => nc b' (argL 4) fun c b' => argT b' <| lT as' <| .call _ (f18 k a b c) fun r => .ret (f18.o r)
def f91.start (k : Nat) (a : ByteArray) : PT (Int) Empty := .need (0 < (a.size : Int)) fun h1 => .need (1 < (a.size : Int)) fun h2 => .need (2 < (a.size : Int)) fun h3 => .need (3 < (a.size : Int)) fun h4 => .ret (orI .u32 (orI .u32 (orI .u32 (IntKind.u32.wrap (byteAt a 0)) (shlI .u32 (IntKind.u32.wrap (byteAt a 1)) 8)) (shlI .u32 (IntKind.u32.wrap (byteAt a 2)) 16)) (shlI .u32 (IntKind.u32.wrap (byteAt a 3)) 24))
def f91.o : (Int) → V El × List (O El) := fun r => (.id .u32 0 r, [])
abbrev sf91 (k : Nat) : List (V G.El) → List (O G.El) → Q G.El (V G.El × List (O G.El)) := fun as' os' => lT os' <| na as' argS fun a as' => lT as' <| .call _ (f91 k a) fun r => .ret (f91.o r)
inductive f74.L where
  | l3 (x0 : ByteArray) (x3 : Int) (x4 : Int)
  | l7 (x0 : ByteArray) (x3 : Int) (x4 : Int) (x5 : Int)
def f74.st : f74.L → Nat × S El
  | .l3 x0 x3 x4 => (3, ⟨33, .dead, [(0, .s x0), (3, .id .u32 4 x3), (4, .id .i64 5 x4)], [], 0, 0⟩)
  | .l7 x0 x3 x4 x5 => (7, ⟨33, .dead, [(0, .s x0), (3, .id .u32 4 x3), (4, .id .i64 5 x4), (5, .id .i64 6 x5)], [], 0, 0⟩)
def f74.blk (k : Nat) : f74.L → PT (Int) f74.L
  | .l3 x0 x3 x4 => .ite (x4 < (x0.size : Int)) (fun h1 => .need (0 ≤ x4) fun h2 => .th h1 <| .jump (.l7 x0 (xorI .u32 x3 (IntKind.u32.wrap (byteAt x0 x4))) x4 0)) (fun h1 => .ret (xorI .u32 (notI .u32) x3))
  | .l7 x0 x3 x4 x5 => .ite (x5 < 8) (fun h3 => .ite ((andI .u32 x3 1) = 1) (fun h4 => .jump (.l7 x0 (xorI .u32 (shrI .u32 x3 1) 3988292384) x4 (IntKind.i64.wrap (x5 + 1)))) (fun h4 => .jump (.l7 x0 (shrI .u32 x3 1) x4 (IntKind.i64.wrap (x5 + 1))))) (fun h3 => .jump (.l3 x0 x3 (IntKind.i64.wrap (x4 + 1))))
def f74.D (k : Nat) : f74.L → Option (Int)
  | .l3 x0 x3 x4 => f74.l3 k x0 x3 x4
  | .l7 x0 x3 x4 x5 => f74.l7 k x0 x3 x4 x5
def f74.start (k : Nat) (a : ByteArray) : PT (Int) f74.L := .jump (.l3 a 4294967295 0)
def f74.o : (Int) → V El × List (O El) := fun r => (.id .u32 0 r, [])
abbrev sf74 (k : Nat) : List (V G.El) → List (O G.El) → Q G.El (V G.El × List (O G.El)) := fun as' os' => lT os' <| na as' argS fun a as' => lT as' <| .call _ (f74 k a) fun r => .ret (f74.o r)
def f71.start (k : Nat) (a : ByteArray) : PT (Int × ByteArray × Int × Int) Empty := .need (0 < (a.size : Int)) fun h1 => .call _ (f20 k (IntKind.i64.wrap (byteAt a 0)) 1 100) fun t1 => .ite (t1 = true) (fun h2 => .ite ((a.size : Int) < 5) (fun h3 => .ret (0, (⟨#[]⟩ : ByteArray), 0, 1)) (fun h3 => .need' (5 ≤ (a.size : Int)) (5 ≤ a.size) tv fun h4 => .call _ (f91 k (a.extract 1 5)) fun t2 => .ite (20000 < t2) (fun h5 => .ret (0, (⟨#[]⟩ : ByteArray), 0, 3)) (fun h5 => .ite ((a.size : Int) < (IntKind.i64.wrap (9 + (IntKind.i64.wrap t2)))) (fun h6 => .ret (0, (⟨#[]⟩ : ByteArray), 0, 1)) (fun h6 => .need (0 ≤ (IntKind.i64.wrap (9 + (IntKind.i64.wrap t2)))) fun h7 => .need ((IntKind.i64.wrap (9 + (IntKind.i64.wrap t2))) ≤ (a.size : Int)) fun h8 => .need (0 ≤ (IntKind.i64.wrap ((IntKind.i64.wrap (9 + (IntKind.i64.wrap t2))) - 4))) fun h9 => .need' ((IntKind.i64.wrap ((IntKind.i64.wrap (9 + (IntKind.i64.wrap t2))) - 4)) ≤ max (IntKind.i64.wrap (9 + (IntKind.i64.wrap t2))) 0) ((IntKind.i64.wrap ((IntKind.i64.wrap (9 + (IntKind.i64.wrap t2))) - 4)) ≤ (((IntKind.i64.wrap (9 + (IntKind.i64.wrap t2))).toNat : Nat) : Int)) tv fun h10 => .call _ (f91 k (a.extract ((IntKind.i64.wrap ((IntKind.i64.wrap (9 + (IntKind.i64.wrap t2))) - 4)).toNat) ((IntKind.i64.wrap (9 + (IntKind.i64.wrap t2))).toNat))) fun t3 => .th h9 <| .need ((IntKind.i64.wrap ((IntKind.i64.wrap (9 + (IntKind.i64.wrap t2))) - 4)) ≤ (a.size : Int)) fun h11 => .call _ (f74 k (a.extract 0 ((IntKind.i64.wrap ((IntKind.i64.wrap (9 + (IntKind.i64.wrap t2))) - 4)).toNat))) fun t4 => .ite (t3 = t4) (fun h12 => .th h1 <| .th h9 <| .th h11 <| .need' (5 ≤ max (IntKind.i64.wrap ((IntKind.i64.wrap (9 + (IntKind.i64.wrap t2))) - 4)) 0) (5 ≤ (IntKind.i64.wrap ((IntKind.i64.wrap (9 + (IntKind.i64.wrap t2))) - 4)).toNat) tv fun h13 => .ret ((IntKind.i64.wrap (byteAt a 0)), (a.extract 5 ((IntKind.i64.wrap ((IntKind.i64.wrap (9 + (IntKind.i64.wrap t2))) - 4)).toNat)), (IntKind.i64.wrap (9 + (IntKind.i64.wrap t2))), 0)) (fun h12 => .ret (0, (⟨#[]⟩ : ByteArray), 0, 4)))))) (fun h2 => .ret (0, (⟨#[]⟩ : ByteArray), 0, 2))
def f71.o : (Int × ByteArray × Int × Int) → V El × List (O El) := fun r => (.tup [.agg [.id .i64 0 r.1, .s r.2.1], .id .i64 0 r.2.2.1, .id .i64 0 r.2.2.2], [])
abbrev sf71 (k : Nat) : List (V G.El) → List (O G.El) → Q G.El (V G.El × List (O G.El)) := fun as' os' => lT os' <| na as' argS fun a as' => lT as' <| .call _ (f71 k a) fun r => .ret (f71.o r)
inductive f46.L where
  | l3 (q0 : List S88) (x0 : ByteArray) (x6 : Int)
def f46.st : f46.L → Nat × S El
  | .l3 q0 x0 x6 => (3, ⟨42, .dead, [(0, .s x0), (5, .win 0 true (.l 0) (.d 0 q0.length)), (6, .id .i64 7 x6)], [(0, .row true true true 0 6 q0 none)], 1, 0⟩)
def f46.blk (k : Nat) : f46.L → PT (Int × Int × (List S88)) f46.L
  | .l3 q0 x0 x6 => .ite (x6 < (x0.size : Int)) (fun h1 => .ite ((q0.length : Int) = 2000) (fun h2 => .tr q0.length <| .ret (x6, 5, q0)) (fun h2 => .need (0 ≤ x6) fun h3 => .need (x6 ≤ (x0.size : Int)) fun h4 => .call _ (f71 k (x0.extract x6.toNat x0.size)) fun t1 => .ite (t1.2.2.2 = 0) (fun h5 => .triv (1 = ([(⟨t1.1, t1.2.1⟩ : S88)] : List S88).length) tv <| .tr q0.length <| .need ((q0.length + 1) * 24 ≤ 70368744177664) fun h6 => .need ((q0.length + 1) ≤ 70368744177664) fun h7 => .triv ((q0.length + 1) = (q0 ++ ([(⟨t1.1, t1.2.1⟩ : S88)] : List S88)).length) tv <| .jump (.l3 (q0 ++ ([(⟨t1.1, t1.2.1⟩ : S88)] : List S88)) x0 (IntKind.i64.wrap (x6 + t1.2.2.1)))) (fun h5 => .tr q0.length <| .ret (x6, t1.2.2.2, q0)))) (fun h1 => .tr q0.length <| .ret (x6, 0, q0))
def f46.D (k : Nat) : f46.L → Option (Int × Int × (List S88))
  | .l3 q0 x0 x6 => f46.l3 k q0 x0 x6
def f46.start (k : Nat) (a : ByteArray) : PT (Int × Int × (List S88)) f46.L := .triv (0 = ([] : List S88).length) tv <| .jump (.l3 ([] : List S88) a 0)
def f46.o : (Int × Int × (List S88)) → V El × List (O El) := fun r => (.tup [.win 0 true (.l 0) (.d 0 r.2.2.length), .id .i64 0 r.1, .id .i64 0 r.2.1], [.row true true true 0 6 r.2.2 none])
abbrev sf46 (k : Nat) : List (V G.El) → List (O G.El) → Q G.El (V G.El × List (O G.El)) := fun as' os' => lT os' <| na as' argS fun a as' => lT as' <| .call _ (f46 k a) fun r => .ret (f46.o r)
inductive f47.L where
  | l4 (x0 : ByteArray) (x5 : Int) (x6 : Int) (x7 : Int)
def f47.st : f47.L → Nat × S El
  | .l4 x0 x5 x6 x7 => (4, ⟨48, .dead, [(0, .s x0), (5, .id .i64 6 x5), (6, .id .i64 7 x6), (7, .id .i64 8 x7)], [], 0, 0⟩)
def f47.hint : f47.L → H
  | .l4 .. => (.both (.l (.l (.both (.both (.both (.l (.l (.both (.l (.l .all)) (.r (.r .all))))) (.r (.r .all))) .all) .all))) (.r (.r .all)))
def f47.blk (k : Nat) : f47.L → PT (Int × ByteArray × Bool) f47.L
  | .l4 x0 x5 x6 x7 => .ite (x7 < (x0.size : Int)) (fun h1 => .th h1 <| .th h1 <| .ite (x7 < 6) (fun h2 => .need (0 ≤ x7) fun h3 => .th h1 <| .ite ((IntKind.i64.wrap (byteAt x0 x7)) < 128) (fun h4 => .ite ((IntKind.i64.wrap (byteAt x0 x7)) = 0) (fun h5 => .th h5 <| .th h5 <| .ite (0 < x7) (fun h6 => .th h6 <| .th h6 <| .ret (0, (⟨#[]⟩ : ByteArray), false)) (fun h6 => .th h6 <| .th h6 <| .ite (1000000000000 < (IntKind.i64.wrap (x5 + (IntKind.i64.wrap (((IntKind.i64.wrap (byteAt x0 x7)).tmod 128) * x6))))) (fun h7 => .ret (0, (⟨#[]⟩ : ByteArray), false)) (fun h7 => .need (0 ≤ (IntKind.i64.wrap (x7 + 1))) fun h8 => .need ((IntKind.i64.wrap (x7 + 1)) ≤ (x0.size : Int)) fun h9 => .ret ((IntKind.i64.wrap (x5 + (IntKind.i64.wrap (((IntKind.i64.wrap (byteAt x0 x7)).tmod 128) * x6)))), (x0.extract ((IntKind.i64.wrap (x7 + 1)).toNat) x0.size), true)))) (fun h5 => .th h5 <| .th h5 <| .ite (1000000000000 < (IntKind.i64.wrap (x5 + (IntKind.i64.wrap (((IntKind.i64.wrap (byteAt x0 x7)).tmod 128) * x6))))) (fun h10 => .ret (0, (⟨#[]⟩ : ByteArray), false)) (fun h10 => .need (0 ≤ (IntKind.i64.wrap (x7 + 1))) fun h11 => .need ((IntKind.i64.wrap (x7 + 1)) ≤ (x0.size : Int)) fun h12 => .ret ((IntKind.i64.wrap (x5 + (IntKind.i64.wrap (((IntKind.i64.wrap (byteAt x0 x7)).tmod 128) * x6)))), (x0.extract ((IntKind.i64.wrap (x7 + 1)).toNat) x0.size), true)))) (fun h4 => .jump (.l4 x0 (IntKind.i64.wrap (x5 + (IntKind.i64.wrap (((IntKind.i64.wrap (byteAt x0 x7)).tmod 128) * x6)))) (IntKind.i64.wrap (x6 * 128)) (IntKind.i64.wrap (x7 + 1))))) (fun h2 => .ret (0, (⟨#[]⟩ : ByteArray), false))) (fun h1 => .th h1 <| .th h1 <| .ret (0, (⟨#[]⟩ : ByteArray), false))
def f47.D (k : Nat) : f47.L → Option (Int × ByteArray × Bool)
  | .l4 x0 x5 x6 x7 => f47.l4 k x0 x5 x6 x7
def f47.start (k : Nat) (a : ByteArray) : PT (Int × ByteArray × Bool) f47.L := .jump (.l4 a 0 1 0)
def f47.o : (Int × ByteArray × Bool) → V El × List (O El) := fun r => (.tup [.id .i64 0 r.1, .s r.2.1, .bb false r.2.2], [])
abbrev sf47 (k : Nat) : List (V G.El) → List (O G.El) → Q G.El (V G.El × List (O G.El)) := fun as' os' => lT os' <| na as' argS fun a as' => lT as' <| .call _ (f47 k a) fun r => .ret (f47.o r)
def f92.start (k : Nat) (a : ByteArray) : PT (ByteArray × ByteArray × Bool) Empty := .call _ (f47 k a) fun t1 => .ite (t1.2.2 = true) (fun h1 => .th h1 <| .th h1 <| .ite (20000 < t1.1) (fun h2 => .th h2 <| .th h2 <| .th h2 <| .th h2 <| .ret ((⟨#[]⟩ : ByteArray), (⟨#[]⟩ : ByteArray), false)) (fun h2 => .th h2 <| .th h2 <| .th h2 <| .th h2 <| .ite ((t1.2.1.size : Int) < t1.1) (fun h3 => .ret ((⟨#[]⟩ : ByteArray), (⟨#[]⟩ : ByteArray), false)) (fun h3 => .need (0 ≤ t1.1) fun h4 => .need (t1.1 ≤ (t1.2.1.size : Int)) fun h5 => .th h4 <| .th h5 <| .ret ((t1.2.1.extract 0 t1.1.toNat), (t1.2.1.extract t1.1.toNat t1.2.1.size), true)))) (fun h1 => .th h1 <| .th h1 <| .ret ((⟨#[]⟩ : ByteArray), (⟨#[]⟩ : ByteArray), false))
def f92.o : (ByteArray × ByteArray × Bool) → V El × List (O El) := fun r => (.tup [.s r.1, .s r.2.1, .bb false r.2.2], [])
abbrev sf92 (k : Nat) : List (V G.El) → List (O G.El) → Q G.El (V G.El × List (O G.El)) := fun as' os' => lT os' <| na as' argS fun a as' => lT as' <| .call _ (f92 k a) fun r => .ret (f92.o r)
def f49.start (k : Nat) (a b : Int) (c : ByteArray) : PT (Bool) Empty := .call _ (f20 k a 1 1000000000000) fun t1 => .ite (t1 = true) (fun h1 => .th h1 <| .th h1 <| .call _ (f20 k b 0 9) fun t2 => .th h1 <| .ite (t2 = true) (fun h2 => .th h2 <| .th h2 <| .th h2 <| .th h2 <| .ret (decide ((c.size : Int) ≤ 4000))) (fun h2 => .th h2 <| .th h2 <| .th h2 <| .th h2 <| .ret false)) (fun h1 => .th h1 <| .th h1 <| .th h1 <| .ret false)
def f49.o : (Bool) → V El × List (O El) := fun r => (.bb false r, [])
abbrev sf49 (k : Nat) : List (V G.El) → List (O G.El) → Q G.El (V G.El × List (O G.El)) := fun as' os' => lT os' <| na as' argA fun b' as' => nc b' (argI .i64) fun a b' => nc b' (argI .i64) fun b b' => nc b' argS fun c b' => argT b' <| lT as' <| .call _ (f49 k a b c) fun r => .ret (f49.o r)
def f72.start (k : Nat) (a : Int) (b : ByteArray) : PT (Int × Int × ByteArray × Bool) Empty := .call _ (f47 k b) fun t1 => .call _ (f47 k t1.2.1) fun t2 => .call _ (f92 k t2.2.1) fun t3 => .ite (a = 2) (fun h1 => .th h1 <| .ite (t1.2.2 = true) (fun h2 => .th h2 <| .ite (t2.2.2 = true) (fun h3 => .th h3 <| .ite (t3.2.2 = true) (fun h4 => .th h4 <| .th h4 <| .ite ((strEq t3.2.1 (⟨#[]⟩ : ByteArray)) = true) (fun h5 => .th h5 <| .call _ (f49 k t1.1 t2.1 t3.1) fun t4 => .th h5 <| .ret (t1.1, t2.1, t3.1, t4)) (fun h5 => .th h5 <| .th h5 <| .ret (t1.1, t2.1, t3.1, false))) (fun h4 => .th h4 <| .th h4 <| .ret (t1.1, t2.1, t3.1, false))) (fun h3 => .th h3 <| .ret (t1.1, t2.1, t3.1, false))) (fun h2 => .th h2 <| .ret (t1.1, t2.1, t3.1, false))) (fun h1 => .th h1 <| .ret (t1.1, t2.1, t3.1, false))
def f72.o : (Int × Int × ByteArray × Bool) → V El × List (O El) := fun r => (.tup [.agg [.id .i64 0 r.1, .id .i64 0 r.2.1, .s r.2.2.1], .bb false r.2.2.2], [])
abbrev sf72 (k : Nat) : List (V G.El) → List (O G.El) → Q G.El (V G.El × List (O G.El)) := fun as' os' => lT os' <| na as' argA fun b' as' => nc b' (argI .i64) fun a b' => nc b' argS fun b b' => argT b' <| lT as' <| .call _ (f72 k a b) fun r => .ret (f72.o r)
inductive f51.L where
  | l4 (q0 : List Int) (x0 : Int)
def f51.st : f51.L → Nat × S El
  | .l4 q0 x0 => (4, ⟨25, .dead, [(0, .id .i64 1 x0), (3, .win 0 true (.l 0) (.d 0 q0.length))], [(0, .row true true true 0 7 q0 none)], 1, 0⟩)
def f51.blk (k : Nat) : f51.L → PT (ByteArray) f51.L
  | .l4 q0 x0 => .ite (128 ≤ x0) (fun h2 => .triv (1 = ([(IntKind.u8.wrap (IntKind.i64.wrap ((x0.tmod 128) + 128)))] : List Int).length) tv <| .tr q0.length <| .need ((q0.length + 1) * 1 ≤ 70368744177664) fun h3 => .need ((q0.length + 1) ≤ 70368744177664) fun h4 => .triv ((q0.length + 1) = (q0 ++ ([(IntKind.u8.wrap (IntKind.i64.wrap ((x0.tmod 128) + 128)))] : List Int)).length) tv <| .jump (.l4 (q0 ++ ([(IntKind.u8.wrap (IntKind.i64.wrap ((x0.tmod 128) + 128)))] : List Int)) (IntKind.i64.wrap (x0.tdiv 128)))) (fun h2 => .triv (1 = ([(IntKind.u8.wrap x0)] : List Int).length) tv <| .tr q0.length <| .need ((q0.length + 1) * 1 ≤ 70368744177664) fun h5 => .need ((q0.length + 1) ≤ 70368744177664) fun h6 => .triv ((q0.length + 1) = (q0 ++ ([(IntKind.u8.wrap x0)] : List Int)).length) tv <| .ret (strOf (q0 ++ ([(IntKind.u8.wrap x0)] : List Int))))
def f51.D (k : Nat) : f51.L → Option (ByteArray)
  | .l4 q0 x0 => f51.l4 k q0 x0
def f51.start (k : Nat) (a : Int) : PT (ByteArray) f51.L := .call _ (f20 k a 0 1000000000000) fun t1 => .ite (t1 = true) (fun h1 => .triv (0 = ([] : List Int).length) tv <| .jump (.l4 ([] : List Int) a)) (fun h1 => .ret (⟨#[]⟩ : ByteArray))
def f51.o : (ByteArray) → V El × List (O El) := fun r => (.s r, [])
abbrev sf51 (k : Nat) : List (V G.El) → List (O G.El) → Q G.El (V G.El × List (O G.El)) := fun as' os' => lT os' <| na as' (argI .i64) fun a as' => lT as' <| .call _ (f51 k a) fun r => .ret (f51.o r)
def f52.start (k : Nat) (a : ByteArray) : PT (ByteArray) Empty := .ite (20000 < (a.size : Int)) (fun h1 => .ret (⟨#[]⟩ : ByteArray)) (fun h1 => .call _ (f51 k (a.size : Int)) fun t1 => .need (t1.size + a.size ≤ 9223372036854775807) fun h2 => .ret (t1 ++ a))
def f52.o : (ByteArray) → V El × List (O El) := fun r => (.s r, [])
abbrev sf52 (k : Nat) : List (V G.El) → List (O G.El) → Q G.El (V G.El × List (O G.El)) := fun as' os' => lT os' <| na as' argS fun a as' => lT as' <| .call _ (f52 k a) fun r => .ret (f52.o r)
def f73.start (k : Nat) (a : Int) : PT (ByteArray) Empty := .triv (4 = ([(IntKind.u8.wrap a), (IntKind.u8.wrap (shrI .u32 a 8)), (IntKind.u8.wrap (shrI .u32 a 16)), (IntKind.u8.wrap (shrI .u32 a 24))] : List Int).length) tv <| .ret (strOf ([(IntKind.u8.wrap a), (IntKind.u8.wrap (shrI .u32 a 8)), (IntKind.u8.wrap (shrI .u32 a 16)), (IntKind.u8.wrap (shrI .u32 a 24))] : List Int))
def f73.o : (ByteArray) → V El × List (O El) := fun r => (.s r, [])
abbrev sf73 (k : Nat) : List (V G.El) → List (O G.El) → Q G.El (V G.El × List (O G.El)) := fun as' os' => lT os' <| na as' (argI .u32) fun a as' => lT as' <| .call _ (f73 k a) fun r => .ret (f73.o r)
def f50.start (k : Nat) (a : Int) (b : ByteArray) : PT (ByteArray) Empty := .call _ (f20 k a 1 100) fun t1 => .ite (t1 = true) (fun h1 => .th h1 <| .th h1 <| .th h1 <| .th h1 <| .ite (20000 < (b.size : Int)) (fun h2 => .ret (⟨#[]⟩ : ByteArray)) (fun h2 => .triv (1 = ([(IntKind.u8.wrap a)] : List Int).length) tv <| .call _ (f73 k (IntKind.u32.wrap (b.size : Int))) fun t2 => .need' (1 + t2.size ≤ 9223372036854775807) ((strOf ([(IntKind.u8.wrap a)] : List Int)).size + t2.size ≤ 9223372036854775807) tv fun h3 => .need' (1 + t2.size + b.size ≤ 9223372036854775807) (((strOf ([(IntKind.u8.wrap a)] : List Int)) ++ t2).size + b.size ≤ 9223372036854775807) tv fun h4 => .call _ (f74 k (((strOf ([(IntKind.u8.wrap a)] : List Int)) ++ t2) ++ b)) fun t3 => .call _ (f73 k t3) fun t4 => .need' (1 + t2.size + b.size + t4.size ≤ 9223372036854775807) ((((strOf ([(IntKind.u8.wrap a)] : List Int)) ++ t2) ++ b).size + t4.size ≤ 9223372036854775807) tv fun h5 => .ret ((((strOf ([(IntKind.u8.wrap a)] : List Int)) ++ t2) ++ b) ++ t4))) (fun h1 => .th h1 <| .th h1 <| .th h1 <| .th h1 <| .ret (⟨#[]⟩ : ByteArray))
def f50.o : (ByteArray) → V El × List (O El) := fun r => (.s r, [])
abbrev sf50 (k : Nat) : List (V G.El) → List (O G.El) → Q G.El (V G.El × List (O G.El)) := fun as' os' => lT os' <| na as' argA fun b' as' => nc b' (argI .i64) fun a b' => nc b' argS fun b b' => argT b' <| lT as' <| .call _ (f50 k a b) fun r => .ret (f50.o r)
def f25.start (k : Nat) (a b : Int) (c : ByteArray) : PT (ByteArray) Empty := .call _ (f49 k a b c) fun t1 => .ite (t1 = true) (fun h1 => .call _ (f51 k a) fun t2 => .call _ (f51 k b) fun t3 => .need (t2.size + t3.size ≤ 9223372036854775807) fun h2 => .call _ (f52 k c) fun t4 => .need' (t2.size + t3.size + t4.size ≤ 9223372036854775807) ((t2 ++ t3).size + t4.size ≤ 9223372036854775807) tv fun h3 => .call _ (f50 k 2 ((t2 ++ t3) ++ t4)) fun t5 => .ret t5) (fun h1 => .ret (⟨#[]⟩ : ByteArray))
def f25.o : (ByteArray) → V El × List (O El) := fun r => (.s r, [])
abbrev sf25 (k : Nat) : List (V G.El) → List (O G.El) → Q G.El (V G.El × List (O G.El)) := fun as' os' => lT os' <| na as' argA fun b' as' => nc b' (argI .i64) fun a b' => nc b' (argI .i64) fun b b' => nc b' argS fun c b' => argT b' <| lT as' <| .call _ (f25 k a b c) fun r => .ret (f25.o r)
inductive f48.L where
  | l5 (q0 : List S61) (q1 : List S88) (x1 : Int) (x7 : Int) (x11 : Int)
def f48.st : f48.L → Nat × S El
  | .l5 q0 q1 x1 x7 x11 => (5, ⟨75, .dead, [(1, .id .i64 2 x1), (6, .win 0 true (.l 0) (.d 0 q0.length)), (7, .id .i64 8 x7), (8, .win 1 true (.l 0) (.d 0 q1.length)), (11, .id .i64 12 x11)], [(0, .row true true true 0 5 q0 none), (1, .row true true true 0 6 q1 none)], 2, 0⟩)
def f48.hint : f48.L → H
  | .l5 .. => (.both (.l (.l (.both (.skip (.both (.l (.l (.l (.l (.both (.l (.l (.l (.l .all)))) (.r (.r (.both (.l (.l (.l (.l (.l (.l (.l (.l (.r (.l (.r .all))))))))))) (.r (.r (.r (.r (.r (.r (.r (.r (.r (.r (.r .all))))))))))))))))))) (.r (.r (.r (.r .all)))))) .all))) (.r (.r .all)))
def f48.blk (k : Nat) : f48.L → PT (Int × (List S61)) f48.L
  | .l5 q0 q1 x1 x7 x11 => .ite (x11 < (q1.length : Int)) (fun h1 => .th h1 <| .th h1 <| .ite (x11 < 500) (fun h2 => .need (0 ≤ x11) fun h3 => .th h1 <| .triv (x11.toNat < q1.length) tv <| .call _ (f72 k ((at' q1 x11).f0) ((at' q1 x11).f1)) fun t2 => .ite (t2.2.2.2 = true) (fun h4 => .th h4 <| .th h4 <| .th h4 <| .th h4 <| .ite (x1 < t2.1) (fun h5 => .th h5 <| .th h5 <| .th h5 <| .th h5 <| .tr q0.length <| .ret (x7, q0)) (fun h5 => .th h5 <| .th h5 <| .ite (0 < x11) (fun h6 => .th h6 <| .th h6 <| .th h6 <| .th h6 <| .th h6 <| .need (0 ≤ (IntKind.i64.wrap (x11 - 1))) fun h7 => .need ((IntKind.i64.wrap (x11 - 1)) < (q0.length : Int)) fun h8 => .th h6 <| .th h6 <| .triv ((IntKind.i64.wrap (x11 - 1)).toNat < q0.length) tv <| .th h6 <| .th h5 <| .th h6 <| .th h5 <| .ite (t2.1 < (at' q0 (IntKind.i64.wrap (x11 - 1))).f0) (fun h9 => .tr q0.length <| .ret (x7, q0)) (fun h9 => .triv (1 = ([(⟨t2.1, t2.2.1, t2.2.2.1⟩ : S61)] : List S61).length) tv <| .tr q0.length <| .need ((q0.length + 1) * 32 ≤ 70368744177664) fun h10 => .need ((q0.length + 1) ≤ 70368744177664) fun h11 => .call _ (f25 k t2.1 t2.2.1 t2.2.2.1) fun t3 => .triv ((q0.length + 1) = (q0 ++ ([(⟨t2.1, t2.2.1, t2.2.2.1⟩ : S61)] : List S61)).length) tv <| .tr q1.length <| .jump (.l5 (q0 ++ ([(⟨t2.1, t2.2.1, t2.2.2.1⟩ : S61)] : List S61)) q1 x1 (IntKind.i64.wrap (x7 + (t3.size : Int))) (IntKind.i64.wrap (x11 + 1))))) (fun h6 => .th h6 <| .th h6 <| .th h6 <| .th h6 <| .th h6 <| .th h6 <| .th h6 <| .th h6 <| .th h5 <| .th h6 <| .th h5 <| .triv (1 = ([(⟨t2.1, t2.2.1, t2.2.2.1⟩ : S61)] : List S61).length) tv <| .tr q0.length <| .need ((q0.length + 1) * 32 ≤ 70368744177664) fun h12 => .need ((q0.length + 1) ≤ 70368744177664) fun h13 => .call _ (f25 k t2.1 t2.2.1 t2.2.2.1) fun t4 => .triv ((q0.length + 1) = (q0 ++ ([(⟨t2.1, t2.2.1, t2.2.2.1⟩ : S61)] : List S61)).length) tv <| .tr q1.length <| .jump (.l5 (q0 ++ ([(⟨t2.1, t2.2.1, t2.2.2.1⟩ : S61)] : List S61)) q1 x1 (IntKind.i64.wrap (x7 + (t4.size : Int))) (IntKind.i64.wrap (x11 + 1)))))) (fun h4 => .th h4 <| .th h4 <| .th h4 <| .th h4 <| .tr q0.length <| .ret (x7, q0))) (fun h2 => .tr q0.length <| .ret (x7, q0))) (fun h1 => .th h1 <| .th h1 <| .tr q0.length <| .ret (x7, q0))
def f48.D (k : Nat) : f48.L → Option (Int × (List S61))
  | .l5 q0 q1 x1 x7 x11 => f48.l5 k q0 q1 x1 x7 x11
def f48.start (k : Nat) (a : ByteArray) (b : Int) : PT (Int × (List S61)) f48.L := .call _ (f46 k a) fun t1 => .triv (0 = ([] : List S61).length) tv <| .tr t1.2.2.length <| .jump (.l5 ([] : List S61) t1.2.2 b 0 0)
def f48.o : (Int × (List S61)) → V El × List (O El) := fun r => (.tup [.win 0 true (.l 0) (.d 0 r.2.length), .id .i64 0 r.1], [.row true true true 0 5 r.2 none])
abbrev sf48 (k : Nat) : List (V G.El) → List (O G.El) → Q G.El (V G.El × List (O G.El)) := fun as' os' => lT os' <| na as' argS fun a as' => na as' (argI .i64) fun b as' => lT as' <| .call _ (f48 k a b) fun r => .ret (f48.o r)
def f19.start (k : Nat) (a b : List S58) (c : List S63) : PT (Int × Int × Int × Bool × (List S61)) Empty := .call _ (f23 k a (⟨#[118, 111, 116, 101]⟩ : ByteArray)) fun t1 => .ite (0 ≤ t1) (fun h1 => .th h1 <| .need (t1 < (a.length : Int)) fun h2 => .call _ (f46 k ((at' a t1).f1)) fun t2 => .ite (t2.2.1 = 0) (fun h3 => .th h3 <| .th h3 <| .th h3 <| .ite ((t2.2.2.length : Int) = 1) (fun h4 => .need (0 < t2.2.2.length) fun h5 => .th h5 <| .call _ (f47 k ((at' t2.2.2 0).f1)) fun t3 => .call _ (f47 k t3.2.1) fun t4 => .th h5 <| .th h5 <| .ite ((at' t2.2.2 0).f0 = 1) (fun h6 => .th h6 <| .th h6 <| .ite (t3.2.2 = true) (fun h7 => .th h7 <| .th h7 <| .ite (t4.2.2 = true) (fun h8 => .th h8 <| .th h8 <| .ite ((strEq t4.2.1 (⟨#[]⟩ : ByteArray)) = true) (fun h9 => .call _ (f23 k a (⟨#[108, 111, 103]⟩ : ByteArray)) fun t5 => .ite (0 ≤ t5) (fun h10 => .th h10 <| .need (t5 < (a.length : Int)) fun h11 => .call _ (f48 k ((at' a t5).f1) t3.1) fun t6 => .tr t6.2.length <| .ret (t3.1, t4.1, t6.1, true, t6.2)) (fun h10 => .triv (0 = ([] : List S61).length) tv <| .ret (t3.1, t4.1, 0, true, ([] : List S61)))) (fun h9 => .triv (0 = ([] : List S61).length) tv <| .ret (0, 0, 0, false, ([] : List S61)))) (fun h8 => .th h8 <| .th h8 <| .triv (0 = ([] : List S61).length) tv <| .ret (0, 0, 0, false, ([] : List S61)))) (fun h7 => .th h7 <| .th h7 <| .triv (0 = ([] : List S61).length) tv <| .ret (0, 0, 0, false, ([] : List S61)))) (fun h6 => .th h6 <| .th h6 <| .triv (0 = ([] : List S61).length) tv <| .ret (0, 0, 0, false, ([] : List S61)))) (fun h4 => .triv (0 = ([] : List S61).length) tv <| .ret (0, 0, 0, false, ([] : List S61)))) (fun h3 => .th h3 <| .th h3 <| .th h3 <| .triv (0 = ([] : List S61).length) tv <| .ret (0, 0, 0, false, ([] : List S61)))) (fun h1 => .call _ (f23 k a (⟨#[108, 111, 103]⟩ : ByteArray)) fun t7 => .ite (0 ≤ t7) (fun h12 => .th h12 <| .need (t7 < (a.length : Int)) fun h13 => .call _ (f48 k ((at' a t7).f1) 0) fun t8 => .tr t8.2.length <| .ret (0, 0, t8.1, true, t8.2)) (fun h12 => .triv (0 = ([] : List S61).length) tv <| .ret (0, 0, 0, true, ([] : List S61))))
def f19.o : (Int × Int × Int × Bool × (List S61)) → V El × List (O El) := fun r => (.tup [.agg [.id .i64 0 r.1, .id .i64 0 r.2.1, .win 0 true (.l 0) (.d 0 r.2.2.2.2.length)], .id .i64 0 r.2.2.1, .bb false r.2.2.2.1], [.row true true true 0 5 r.2.2.2.2 none])
abbrev sf19 (k : Nat) : List (V G.El) → List (O G.El) → Q G.El (V G.El × List (O G.El)) := fun as' os' => lT os' <| na as' argA fun b' as' => nc b' (argL 3) fun a b' => nc b' (argL 3) fun b b' => nc b' (argL 4) fun c b' => argT b' <| lT as' <| .call _ (f19 k a b c) fun r => .ret (f19.o r)
def f21.start (k : Nat) (a b : List S58) (c : List S63) : PT ((List S58) × (List S58) × (List S63)) Empty := .triv (0 = ([] : List S58).length) tv <| .need (a.length * 32 ≤ 70368744177664) fun h1 => .need (a.length ≤ 70368744177664) fun h2 => .triv (0 = ([] : List S58).length) tv <| .need (b.length * 32 ≤ 70368744177664) fun h3 => .need (b.length ≤ 70368744177664) fun h4 => .triv (0 = ([] : List S63).length) tv <| .need (c.length * 56 ≤ 70368744177664) fun h5 => .need (c.length ≤ 70368744177664) fun h6 => .tr a.length <| .tr b.length <| .tr c.length <| .ret (a, b, c)
def f21.o : ((List S58) × (List S58) × (List S63)) → V El × List (O El) := fun r => (.agg [.win 0 true (.l 0) (.d 0 r.1.length), .win 1 true (.l 0) (.d 0 r.2.1.length), .win 2 true (.l 0) (.d 0 r.2.2.length)], [.row true true true 0 3 r.1 none, .row true true true 0 3 r.2.1 none, .row true true true 0 4 r.2.2 none])
abbrev sf21 (k : Nat) : List (V G.El) → List (O G.El) → Q G.El (V G.El × List (O G.El)) := fun as' os' => lT os' <| na as' argA fun b' as' => nc b' (argL 3) fun a b' => nc b' (argL 3) fun b b' => nc b' (argL 4) fun c b' => argT b' <| lT as' <| .call _ (f21 k a b c) fun r => .ret (f21.o r)
inductive f22.L where
  | l4 (x3 : Int) (b0_0 : Int) (b0_1 : Int) (b0_2 : List S61)
def f22.st : f22.L → Nat × S El
  | .l4 x3 b0_0 b0_1 b0_2 => (4, ⟨59, .dead, [(1, .ptr 0 (.l 0) 0), (3, .id .i64 4 x3)], [(0, .box true true 0 3 true [.id .i64 50000 b0_0, .id .i64 50001 b0_1, .sl 5 b0_2 []])], 1, 0⟩)
def f22.hint : f22.L → H
  | .l4 .. => (.both (.skip (.both (.l (.l (.l (.l (.l (.both (.l (.l (.l (.l .all)))) (.r (.r (.both (.l (.l (.l (.l (.l (.l (.l (.l (.l (.r (.l (.r .all)))))))))))) (.r (.r (.r (.r (.r (.r (.r (.r (.r (.r (.r (.r .all))))))))))))))))))))) (.r (.r (.r (.r (.r .all))))))) .all)
def f22.blk (k : Nat) : f22.L → PT (Bool) f22.L
  | .l4 x3 b0_0 b0_1 b0_2 => .ite (x3 < (b0_2.length : Int)) (fun h4 => .need (0 ≤ x3) fun h5 => .th h4 <| .call _ (f49 k ((at' b0_2 x3).f0) ((at' b0_2 x3).f1) ((at' b0_2 x3).f2)) fun t3 => .ite (t3 = true) (fun h6 => .th h6 <| .th h6 <| .th h6 <| .th h6 <| .th h6 <| .ite (b0_0 < (at' b0_2 x3).f0) (fun h7 => .th h7 <| .th h7 <| .th h7 <| .th h7 <| .ret false) (fun h7 => .th h7 <| .th h7 <| .ite (0 < x3) (fun h8 => .th h8 <| .th h8 <| .th h8 <| .th h8 <| .th h8 <| .th h8 <| .need (0 ≤ (IntKind.i64.wrap (x3 - 1))) fun h9 => .need ((IntKind.i64.wrap (x3 - 1)) < (b0_2.length : Int)) fun h10 => .th h8 <| .th h8 <| .th h8 <| .th h7 <| .th h8 <| .th h7 <| .ite ((at' b0_2 x3).f0 < (at' b0_2 (IntKind.i64.wrap (x3 - 1))).f0) (fun h11 => .ret false) (fun h11 => .jump (.l4 (IntKind.i64.wrap (x3 + 1)) b0_0 b0_1 b0_2))) (fun h8 => .th h8 <| .th h8 <| .th h8 <| .th h8 <| .th h8 <| .th h8 <| .th h8 <| .th h8 <| .th h8 <| .th h7 <| .th h8 <| .th h7 <| .jump (.l4 (IntKind.i64.wrap (x3 + 1)) b0_0 b0_1 b0_2)))) (fun h6 => .th h6 <| .th h6 <| .th h6 <| .th h6 <| .th h6 <| .ret false)) (fun h4 => .ret true)
def f22.D (k : Nat) : f22.L → Option (Bool)
  | .l4 x3 b0_0 b0_1 b0_2 => f22.l4 k x3 b0_0 b0_1 b0_2
def f22.start (k : Nat) (a b : Int) (c : List S61) : PT (Bool) f22.L := .call _ (f20 k a 0 1000000000000) fun t1 => .ite (t1 = true) (fun h1 => .th h1 <| .th h1 <| .call _ (f20 k b 0 1000000000000) fun t2 => .th h1 <| .th h1 <| .ite (t2 = true) (fun h2 => .th h2 <| .th h2 <| .th h2 <| .th h2 <| .ite (500 < (c.length : Int)) (fun h3 => .ret false) (fun h3 => .jump (.l4 0 a b c))) (fun h2 => .th h2 <| .th h2 <| .th h2 <| .th h2 <| .ret false)) (fun h1 => .th h1 <| .th h1 <| .th h1 <| .th h1 <| .ret false)
def f22.o : (Bool) → V El × List (O El) := fun r => (.bb false r, [])
abbrev sf22 (k : Nat) : List (V G.El) → List (O G.El) → Q G.El (V G.El × List (O G.El)) := fun as' os' => lT os' <| na as' argA fun b' as' => nc b' (argI .i64) fun a b' => nc b' (argI .i64) fun b b' => nc b' (argL 5) fun c b' => argT b' <| lT as' <| .call _ (f22 k a b c) fun r => .ret (f22.o r)
def f24.start (k : Nat) (a b : List S58) (c : List S63) (d : Int) (e g i : ByteArray) : PT (Int × (List S58) × (List S58) × (List S63)) Empty := .call _ (f44 k d e g i) fun t1 => .ite (t1 = true) (fun h1 => .call _ (f43 k a d e g i) fun t2 => .ite (t2.1 = true) (fun h2 => .ite ((c.length : Int) = 200) (fun h3 => .th h3 <| .th h3 <| .th h3 <| .call _ (f21 k a b c) fun t3 => .tr t3.1.length <| .tr t3.2.1.length <| .tr t3.2.2.length <| .ret (4, t3.1, t3.2.1, t3.2.2)) (fun h3 => .th h3 <| .tr t2.2.length <| .call _ (f42 k t2.2) fun t4 => .th h3 <| .th h3 <| .ite (t4 = true) (fun h4 => .call _ (f21 k a b c) fun t5 => .triv (1 = ([(⟨d, e, g, i⟩ : S63)] : List S63).length) tv <| .tr t5.2.2.length <| .need ((t5.2.2.length + 1) * 56 ≤ 70368744177664) fun h5 => .need ((t5.2.2.length + 1) ≤ 70368744177664) fun h6 => .tr t2.2.length <| .tr t5.2.1.length <| .triv ((t5.2.2.length + 1) = (t5.2.2 ++ ([(⟨d, e, g, i⟩ : S63)] : List S63)).length) tv <| .ret (0, t2.2, t5.2.1, (t5.2.2 ++ ([(⟨d, e, g, i⟩ : S63)] : List S63)))) (fun h4 => .call _ (f21 k a b c) fun t6 => .tr t6.1.length <| .tr t6.2.1.length <| .tr t6.2.2.length <| .ret (4, t6.1, t6.2.1, t6.2.2)))) (fun h2 => .call _ (f21 k a b c) fun t7 => .tr t7.1.length <| .tr t7.2.1.length <| .tr t7.2.2.length <| .ret (3, t7.1, t7.2.1, t7.2.2))) (fun h1 => .call _ (f21 k a b c) fun t8 => .tr t8.1.length <| .tr t8.2.1.length <| .tr t8.2.2.length <| .ret (2, t8.1, t8.2.1, t8.2.2))
def f24.o : (Int × (List S58) × (List S58) × (List S63)) → V El × List (O El) := fun r => (.tup [.agg [.win 0 true (.l 0) (.d 0 r.2.1.length), .win 1 true (.l 0) (.d 0 r.2.2.1.length), .win 2 true (.l 0) (.d 0 r.2.2.2.length)], .id .i64 0 r.1], [.row true true true 0 3 r.2.1 none, .row true true true 0 3 r.2.2.1 none, .row true true true 0 4 r.2.2.2 none])
abbrev sf24 (k : Nat) : List (V G.El) → List (O G.El) → Q G.El (V G.El × List (O G.El)) := fun as' os' => lT os' <| na as' argA fun b' as' => nc b' (argL 3) fun a b' => nc b' (argL 3) fun b b' => nc b' (argL 4) fun c b' => argT b' <| na as' argA fun b' as' => nc b' (argI .i64) fun d b' => nc b' argS fun e b' => nc b' argS fun g b' => nc b' argS fun i b' => argT b' <| lT as' <| .call _ (f24 k a b c d e g i) fun r => .ret (f24.o r)
def f27.start (k : Nat) (a b : List S58) (c : List S63) : PT ((List S58) × (List S58) × (List S63)) Empty := .call _ (f18 k a b c) fun t1 => .ite (t1 = true) (fun h1 => .triv (0 = ([] : List S58).length) tv <| .need (a.length * 32 ≤ 70368744177664) fun h2 => .need (a.length ≤ 70368744177664) fun h3 => .triv (0 = ([] : List S58).length) tv <| .th h2 <| .th h3 <| .tr a.length <| .tr a.length <| .triv (0 = ([] : List S63).length) tv <| .ret (a, a, ([] : List S63))) (fun h1 => .triv (0 = ([] : List S58).length) tv <| .triv (0 = ([] : List S58).length) tv <| .triv (0 = ([] : List S63).length) tv <| .ret (([] : List S58), ([] : List S58), ([] : List S63)))
def f27.o : ((List S58) × (List S58) × (List S63)) → V El × List (O El) := fun r => (.agg [.win 0 true (.l 0) (.d 0 r.1.length), .win 1 true (.l 0) (.d 0 r.2.1.length), .win 2 true (.l 0) (.d 0 r.2.2.length)], [.row true true true 0 3 r.1 none, .row true true true 0 3 r.2.1 none, .row true true true 0 4 r.2.2 none])
abbrev sf27 (k : Nat) : List (V G.El) → List (O G.El) → Q G.El (V G.El × List (O G.El)) := fun as' os' => lT os' <| na as' argA fun b' as' => nc b' (argL 3) fun a b' => nc b' (argL 3) fun b b' => nc b' (argL 4) fun c b' => argT b' <| lT as' <| .call _ (f27 k a b c) fun r => .ret (f27.o r)
def f26.start (k : Nat) (a b : List S58) (c : List S63) (d e : ByteArray) : PT (Int × (List S58) × (List S58) × (List S63)) Empty := .call _ (f18 k a b c) fun t1 => .ite (t1 = true) (fun h1 => .need' (d.size + 4 ≤ 9223372036854775807) (d.size + (⟨#[46, 110, 101, 119]⟩ : ByteArray).size ≤ 9223372036854775807) tv fun h2 => .call _ (f23 k a (d ++ (⟨#[46, 110, 101, 119]⟩ : ByteArray))) fun t2 => .ite (0 ≤ t2) (fun h3 => .call _ (f24 k a b c 3 (d ++ (⟨#[46, 110, 101, 119]⟩ : ByteArray)) (⟨#[]⟩ : ByteArray) (⟨#[]⟩ : ByteArray)) fun t3 => .ite (t3.1 = 0) (fun h4 => .tr t3.2.1.length <| .tr t3.2.2.1.length <| .tr t3.2.2.2.length <| .call _ (f24 k t3.2.1 t3.2.2.1 t3.2.2.2 1 (d ++ (⟨#[46, 110, 101, 119]⟩ : ByteArray)) (⟨#[]⟩ : ByteArray) e) fun t4 => .ite (t4.1 = 0) (fun h5 => .tr t4.2.1.length <| .tr t4.2.2.1.length <| .tr t4.2.2.2.length <| .call _ (f24 k t4.2.1 t4.2.2.1 t4.2.2.2 2 (d ++ (⟨#[46, 110, 101, 119]⟩ : ByteArray)) d (⟨#[]⟩ : ByteArray)) fun t5 => .ite (t5.1 = 0) (fun h6 => .tr t5.2.1.length <| .tr t5.2.2.1.length <| .tr t5.2.2.2.length <| .call _ (f21 k t5.2.1 t5.2.2.1 t5.2.2.2) fun t6 => .tr t6.1.length <| .tr t6.2.1.length <| .tr t6.2.2.length <| .ret (0, t6.1, t6.2.1, t6.2.2)) (fun h6 => .call _ (f21 k a b c) fun t7 => .tr t7.1.length <| .tr t7.2.1.length <| .tr t7.2.2.length <| .ret (t5.1, t7.1, t7.2.1, t7.2.2))) (fun h5 => .th h5 <| .call _ (f21 k a b c) fun t8 => .tr t8.1.length <| .tr t8.2.1.length <| .tr t8.2.2.length <| .ret (t4.1, t8.1, t8.2.1, t8.2.2))) (fun h4 => .th h4 <| .th h4 <| .call _ (f21 k a b c) fun t9 => .tr t9.1.length <| .tr t9.2.1.length <| .tr t9.2.2.length <| .ret (t3.1, t9.1, t9.2.1, t9.2.2))) (fun h3 => .call _ (f24 k a b c 1 (d ++ (⟨#[46, 110, 101, 119]⟩ : ByteArray)) (⟨#[]⟩ : ByteArray) e) fun t10 => .ite (t10.1 = 0) (fun h7 => .tr t10.2.1.length <| .tr t10.2.2.1.length <| .tr t10.2.2.2.length <| .call _ (f24 k t10.2.1 t10.2.2.1 t10.2.2.2 2 (d ++ (⟨#[46, 110, 101, 119]⟩ : ByteArray)) d (⟨#[]⟩ : ByteArray)) fun t11 => .ite (t11.1 = 0) (fun h8 => .tr t11.2.1.length <| .tr t11.2.2.1.length <| .tr t11.2.2.2.length <| .call _ (f21 k t11.2.1 t11.2.2.1 t11.2.2.2) fun t12 => .tr t12.1.length <| .tr t12.2.1.length <| .tr t12.2.2.length <| .ret (0, t12.1, t12.2.1, t12.2.2)) (fun h8 => .call _ (f21 k a b c) fun t13 => .tr t13.1.length <| .tr t13.2.1.length <| .tr t13.2.2.length <| .ret (t11.1, t13.1, t13.2.1, t13.2.2))) (fun h7 => .th h7 <| .call _ (f21 k a b c) fun t14 => .tr t14.1.length <| .tr t14.2.1.length <| .tr t14.2.2.length <| .ret (t10.1, t14.1, t14.2.1, t14.2.2)))) (fun h1 => .triv (0 = ([] : List S58).length) tv <| .triv (0 = ([] : List S58).length) tv <| .triv (0 = ([] : List S63).length) tv <| .ret (1, ([] : List S58), ([] : List S58), ([] : List S63)))
def f26.o : (Int × (List S58) × (List S58) × (List S63)) → V El × List (O El) := fun r => (.tup [.agg [.win 0 true (.l 0) (.d 0 r.2.1.length), .win 1 true (.l 0) (.d 0 r.2.2.1.length), .win 2 true (.l 0) (.d 0 r.2.2.2.length)], .id .i64 0 r.1], [.row true true true 0 3 r.2.1 none, .row true true true 0 3 r.2.2.1 none, .row true true true 0 4 r.2.2.2 none])
abbrev sf26 (k : Nat) : List (V G.El) → List (O G.El) → Q G.El (V G.El × List (O G.El)) := fun as' os' => lT os' <| na as' argA fun b' as' => nc b' (argL 3) fun a b' => nc b' (argL 3) fun b b' => nc b' (argL 4) fun c b' => argT b' <| na as' argS fun d as' => na as' argS fun e as' => lT as' <| .call _ (f26 k a b c d e) fun r => .ret (f26.o r)
inductive f6.L where
  | l17 (x2 : List S61) (x15 : Int) (x16 : Int) (b0_0 : List S58) (b0_1 : List S58) (b0_2 : List S63) (b2_0 : List S58) (b2_1 : List S58) (b2_2 : List S63)
  | l17v1 (q3 : List S58) (q4 : List S58) (q5 : List S63) (x2 : List S61) (x15 : Int) (x16 : Int) (b0_0 : List S58) (b0_1 : List S58) (b0_2 : List S63)
  | l22 (q2 : List S61) (x17 : ByteArray) (x18 : Int) (b0_0 : List S58) (b0_1 : List S58) (b0_2 : List S63) (b3_0 : List S58) (b3_1 : List S58) (b3_2 : List S63)
def f6.st : f6.L → Nat × S El
  | .l17 x2 x15 x16 b0_0 b0_1 b0_2 b2_0 b2_1 b2_2 => (17, ⟨134, .dead, [(2, .sl 5 x2 []), (3, .ptr 0 (.l 0) 0), (6, .ptr 1 (.l 0) 0), (14, .ptr 2 (.l 0) 0), (15, .id .i64 16 x15), (16, .id .i64 17 x16)], [(0, .box true true 0 3 true [.sl 3 b0_0 [], .sl 3 b0_1 [], .sl 4 b0_2 []]), (1, .box true true 0 3 true [.nil, .nil, .nil]), (2, .box true true 0 3 true [.sl 3 b2_0 [], .sl 3 b2_1 [], .sl 4 b2_2 []])], 3, 0⟩)
  | .l17v1 q3 q4 q5 x2 x15 x16 b0_0 b0_1 b0_2 => (17, ⟨134, .dead, [(2, .sl 5 x2 []), (3, .ptr 0 (.l 0) 0), (6, .ptr 1 (.l 0) 0), (14, .ptr 2 (.l 0) 0), (15, .id .i64 16 x15), (16, .id .i64 17 x16)], [(0, .box true true 0 3 true [.sl 3 b0_0 [], .sl 3 b0_1 [], .sl 4 b0_2 []]), (1, .box true true 0 3 true [.nil, .nil, .nil]), (2, .box true true 0 3 true [.win 3 true (.l 0) (.d 0 q3.length), .win 4 true (.l 0) (.d 0 q4.length), .win 5 true (.l 0) (.d 0 q5.length)]), (3, .row true true true 0 3 q3 none), (4, .row true true true 0 3 q4 none), (5, .row true true true 0 4 q5 none)], 6, 0⟩)
  | .l22 q2 x17 x18 b0_0 b0_1 b0_2 b3_0 b3_1 b3_2 => (22, ⟨134, .dead, [(3, .ptr 0 (.l 0) 0), (6, .ptr 1 (.l 0) 0), (11, .win 2 true (.l 0) (.d 0 q2.length)), (14, .ptr 3 (.l 0) 0), (17, .s x17), (18, .id .i64 19 x18)], [(0, .box true true 0 3 true [.sl 3 b0_0 [], .sl 3 b0_1 [], .sl 4 b0_2 []]), (1, .box true true 0 3 true [.nil, .nil, .nil]), (2, .row true true true 0 5 q2 none), (3, .box true true 0 3 true [.sl 3 b3_0 [], .sl 3 b3_1 [], .sl 4 b3_2 []])], 4, 0⟩)
def f6.hint : f6.L → H
  | .l17 .. => (.both (.l (.l (.both .all (.r .all)))) (.r (.r .all)))
  | .l17v1 .. => (.both (.l (.l (.both .all (.r .all)))) (.r (.r .all)))
  | .l22 .. => .all
def f6.blk (k : Nat) : f6.L → PT (Int × (List S58) × (List S58) × (List S63)) f6.L
  | .l17 x2 x15 x16 b0_0 b0_1 b0_2 b2_0 b2_1 b2_2 => .ite (x16 < (x2.length : Int)) (fun h16 => .th h16 <| .th h16 <| .ite (x15 = 0) (fun h17 => .need (0 ≤ x16) fun h18 => .th h16 <| .call _ (f25 k ((at' x2 x16).f0) ((at' x2 x16).f1) ((at' x2 x16).f2)) fun t7 => .call _ (f24 k b2_0 b2_1 b2_2 1 (⟨#[108, 111, 103]⟩ : ByteArray) (⟨#[]⟩ : ByteArray) t7) fun t8 => .tr t8.2.1.length <| .tr t8.2.2.1.length <| .tr t8.2.2.2.length <| .jump (.l17v1 t8.2.1 t8.2.2.1 t8.2.2.2 x2 t8.1 (IntKind.i64.wrap (x16 + 1)) b0_0 b0_1 b0_2)) (fun h17 => .th h17 <| .call _ (f21 k b0_0 b0_1 b0_2) fun t14 => .tr t14.1.length <| .tr t14.2.1.length <| .tr t14.2.2.length <| .ret (x15, t14.1, t14.2.1, t14.2.2))) (fun h16 => .th h16 <| .th h16 <| .ite (x15 = 0) (fun h23 => .call _ (f27 k b2_0 b2_1 b2_2) fun t15 => .tr t15.1.length <| .tr t15.2.1.length <| .tr t15.2.2.length <| .ret (0, t15.1, t15.2.1, t15.2.2)) (fun h23 => .call _ (f21 k b0_0 b0_1 b0_2) fun t16 => .tr t16.1.length <| .tr t16.2.1.length <| .tr t16.2.2.length <| .ret (x15, t16.1, t16.2.1, t16.2.2)))
  | .l17v1 q3 q4 q5 x2 x15 x16 b0_0 b0_1 b0_2 => .ite (x16 < (x2.length : Int)) (fun h19 => .th h19 <| .th h19 <| .ite (x15 = 0) (fun h20 => .need (0 ≤ x16) fun h21 => .th h19 <| .call _ (f25 k ((at' x2 x16).f0) ((at' x2 x16).f1) ((at' x2 x16).f2)) fun t9 => .tr q3.length <| .tr q4.length <| .tr q5.length <| .call _ (f24 k q3 q4 q5 1 (⟨#[108, 111, 103]⟩ : ByteArray) (⟨#[]⟩ : ByteArray) t9) fun t10 => .tr t10.2.1.length <| .tr t10.2.2.1.length <| .tr t10.2.2.2.length <| .jump (.l17v1 t10.2.1 t10.2.2.1 t10.2.2.2 x2 t10.1 (IntKind.i64.wrap (x16 + 1)) b0_0 b0_1 b0_2)) (fun h20 => .th h20 <| .call _ (f21 k b0_0 b0_1 b0_2) fun t11 => .tr t11.1.length <| .tr t11.2.1.length <| .tr t11.2.2.length <| .ret (x15, t11.1, t11.2.1, t11.2.2))) (fun h19 => .th h19 <| .th h19 <| .ite (x15 = 0) (fun h22 => .tr q3.length <| .tr q4.length <| .tr q5.length <| .call _ (f27 k q3 q4 q5) fun t12 => .tr t12.1.length <| .tr t12.2.1.length <| .tr t12.2.2.length <| .ret (0, t12.1, t12.2.1, t12.2.2)) (fun h22 => .call _ (f21 k b0_0 b0_1 b0_2) fun t13 => .tr t13.1.length <| .tr t13.2.1.length <| .tr t13.2.2.length <| .ret (x15, t13.1, t13.2.1, t13.2.2)))
  | .l22 q2 x17 x18 b0_0 b0_1 b0_2 b3_0 b3_1 b3_2 => .ite (x18 < (q2.length : Int)) (fun h24 => .need (0 ≤ x18) fun h25 => .th h24 <| .triv (x18.toNat < q2.length) tv <| .call _ (f25 k ((at' q2 x18).f0) ((at' q2 x18).f1) ((at' q2 x18).f2)) fun t17 => .need (x17.size + t17.size ≤ 9223372036854775807) fun h26 => .tr q2.length <| .jump (.l22 q2 (x17 ++ t17) (IntKind.i64.wrap (x18 + 1)) b0_0 b0_1 b0_2 b3_0 b3_1 b3_2)) (fun h24 => .call _ (f26 k b0_0 b0_1 b0_2 (⟨#[108, 111, 103]⟩ : ByteArray) x17) fun t18 => .ite (t18.1 = 0) (fun h27 => .tr t18.2.1.length <| .tr t18.2.2.1.length <| .tr t18.2.2.2.length <| .call _ (f27 k t18.2.1 t18.2.2.1 t18.2.2.2) fun t19 => .tr t19.1.length <| .tr t19.2.1.length <| .tr t19.2.2.length <| .ret (0, t19.1, t19.2.1, t19.2.2)) (fun h27 => .call _ (f21 k b0_0 b0_1 b0_2) fun t20 => .tr t20.1.length <| .tr t20.2.1.length <| .tr t20.2.2.length <| .ret (t18.1, t20.1, t20.2.1, t20.2.2)))
def f6.D (k : Nat) : f6.L → Option (Int × (List S58) × (List S58) × (List S63))
  | .l17 x2 x15 x16 b0_0 b0_1 b0_2 b2_0 b2_1 b2_2 => f6.l17 k x2 x15 x16 b0_0 b0_1 b0_2 b2_0 b2_1 b2_2
  | .l17v1 q3 q4 q5 x2 x15 x16 b0_0 b0_1 b0_2 => f6.l17v1 k q3 q4 q5 x2 x15 x16 b0_0 b0_1 b0_2
  | .l22 q2 x17 x18 b0_0 b0_1 b0_2 b3_0 b3_1 b3_2 => f6.l22 k q2 x17 x18 b0_0 b0_1 b0_2 b3_0 b3_1 b3_2
def f6.start (k : Nat) (a b : List S58) (c : List S63) (d : Int) (e : List S61) : PT (Int × (List S58) × (List S58) × (List S63)) f6.L := .call _ (f18 k a b c) fun t1 => .ite (t1 = true) (fun h1 => .call _ (f19 k a b c) fun t2 => .ite (t2.2.2.2.1 = true) (fun h2 => .th h2 <| .th h2 <| .th h2 <| .th h2 <| .call _ (f20 k d 0 (t2.2.2.2.2.length : Int)) fun t3 => .th h2 <| .th h2 <| .ite (t3 = true) (fun h3 => .th h3 <| .th h3 <| .th h3 <| .ite (500 < (e.length : Int)) (fun h4 => .call _ (f21 k a b c) fun t4 => .tr t4.1.length <| .tr t4.2.1.length <| .tr t4.2.2.length <| .ret (11, t4.1, t4.2.1, t4.2.2)) (fun h4 => .need (0 ≤ d) fun h5 => .need (d ≤ (t2.2.2.2.2.length : Int)) fun h6 => .triv (d.toNat ≤ t2.2.2.2.2.length) tv <| .triv (0 = ([] : List S61).length) tv <| .need (d.toNat * 32 ≤ 70368744177664) fun h7 => .need (d.toNat ≤ 70368744177664) fun h8 => .triv (d.toNat = (t2.2.2.2.2.take d.toNat).length) tv <| .need ((d.toNat + e.length) * 32 ≤ 70368744177664) fun h9 => .need ((d.toNat + e.length) ≤ 70368744177664) fun h10 => .triv ((d.toNat + e.length) = ((t2.2.2.2.2.take d.toNat) ++ e).length) tv <| .call _ (f22 k t2.1 t2.2.1 ((t2.2.2.2.2.take d.toNat) ++ e)) fun t5 => .ite (t5 = true) (fun h11 => .call _ (f23 k a (⟨#[108, 111, 103]⟩ : ByteArray)) fun t6 => .ite (0 ≤ t6) (fun h12 => .th h12 <| .need (t6 < (a.length : Int)) fun h13 => .ite (d = (t2.2.2.2.2.length : Int)) (fun h14 => .th h14 <| .th h14 <| .th h14 <| .th h14 <| .ite (t2.2.2.1 = ((((at' a t6).f1).size : Nat) : Int)) (fun h15 => .jump (.l17 e 0 0 a b c a b c)) (fun h15 => .triv ((d.toNat + e.length) = ((t2.2.2.2.2.take d.toNat) ++ e).length) tv <| .jump (.l22 ((t2.2.2.2.2.take d.toNat) ++ e) (⟨#[]⟩ : ByteArray) 0 a b c a b c))) (fun h14 => .th h14 <| .th h14 <| .th h14 <| .th h14 <| .triv ((d.toNat + e.length) = ((t2.2.2.2.2.take d.toNat) ++ e).length) tv <| .jump (.l22 ((t2.2.2.2.2.take d.toNat) ++ e) (⟨#[]⟩ : ByteArray) 0 a b c a b c))) (fun h12 => .ite (d = (t2.2.2.2.2.length : Int)) (fun h28 => .th h28 <| .th h28 <| .th h28 <| .th h28 <| .ite (t2.2.2.1 = (((⟨#[]⟩ : ByteArray).size : Nat) : Int)) (fun h29 => .jump (.l17 e 0 0 a b c a b c)) (fun h29 => .triv ((d.toNat + e.length) = ((t2.2.2.2.2.take d.toNat) ++ e).length) tv <| .jump (.l22 ((t2.2.2.2.2.take d.toNat) ++ e) (⟨#[]⟩ : ByteArray) 0 a b c a b c))) (fun h28 => .th h28 <| .th h28 <| .th h28 <| .th h28 <| .triv ((d.toNat + e.length) = ((t2.2.2.2.2.take d.toNat) ++ e).length) tv <| .jump (.l22 ((t2.2.2.2.2.take d.toNat) ++ e) (⟨#[]⟩ : ByteArray) 0 a b c a b c)))) (fun h11 => .call _ (f21 k a b c) fun t21 => .tr t21.1.length <| .tr t21.2.1.length <| .tr t21.2.2.length <| .ret (11, t21.1, t21.2.1, t21.2.2)))) (fun h3 => .th h3 <| .th h3 <| .th h3 <| .call _ (f21 k a b c) fun t22 => .tr t22.1.length <| .tr t22.2.1.length <| .tr t22.2.2.length <| .ret (11, t22.1, t22.2.1, t22.2.2))) (fun h2 => .th h2 <| .th h2 <| .th h2 <| .th h2 <| .th h2 <| .th h2 <| .call _ (f21 k a b c) fun t23 => .tr t23.1.length <| .tr t23.2.1.length <| .tr t23.2.2.length <| .ret (11, t23.1, t23.2.1, t23.2.2))) (fun h1 => .triv (0 = ([] : List S58).length) tv <| .triv (0 = ([] : List S58).length) tv <| .triv (0 = ([] : List S63).length) tv <| .ret (1, ([] : List S58), ([] : List S58), ([] : List S63)))
def f6.o : (Int × (List S58) × (List S58) × (List S63)) → V El × List (O El) := fun r => (.tup [.agg [.win 0 true (.l 0) (.d 0 r.2.1.length), .win 1 true (.l 0) (.d 0 r.2.2.1.length), .win 2 true (.l 0) (.d 0 r.2.2.2.length)], .id .i64 0 r.1], [.row true true true 0 3 r.2.1 none, .row true true true 0 3 r.2.2.1 none, .row true true true 0 4 r.2.2.2 none])
abbrev sf6 (k : Nat) : List (V G.El) → List (O G.El) → Q G.El (V G.El × List (O G.El)) := fun as' os' => lT os' <| na as' argA fun b' as' => nc b' (argL 3) fun a b' => nc b' (argL 3) fun b b' => nc b' (argL 4) fun c b' => argT b' <| na as' (argI .i64) fun d as' => na as' (argL 5) fun e as' => lT as' <| .call _ (f6 k a b c d e) fun r => .ret (f6.o r)
def f93.start (k : Nat) (a : ByteArray) : PT (Bool) Empty := .ite (1 ≤ (a.size : Int)) (fun h1 => .th h1 <| .th h1 <| .th h1 <| .ret (decide ((a.size : Int) ≤ 100))) (fun h1 => .th h1 <| .th h1 <| .th h1 <| .ret false)
def f93.o : (Bool) → V El × List (O El) := fun r => (.bb false r, [])
abbrev sf93 (k : Nat) : List (V G.El) → List (O G.El) → Q G.El (V G.El × List (O G.El)) := fun as' os' => lT os' <| na as' argS fun a as' => lT as' <| .call _ (f93 k a) fun r => .ret (f93.o r)
inductive f75.L where
  | l3 (x0 : List S58) (x3 : Int) (x6 : List S58) (x7 : Int) (x8 : Int)
def f75.st : f75.L → Nat × S El
  | .l3 x0 x3 x6 x7 x8 => (3, ⟨45, .dead, [(0, .sl 3 x0 []), (3, .id .i64 4 x3), (6, .sl 3 x6 []), (7, .id .i64 8 x7), (8, .id .i64 9 x8)], [], 0, 0⟩)
def f75.hint : f75.L → H
  | .l3 .. => (.both (.skip (.both (.l (.l (.both (.l (.l (.l (.l .all)))) (.r (.r (.both (.l (.l (.l (.l (.l (.l (.l (.l (.r (.l (.r .all))))))))))) (.r (.r (.r (.r (.r (.r (.r (.r (.r (.r (.r .all))))))))))))))))) (.r (.r .all)))) .all)
def f75.blk (k : Nat) : f75.L → PT (Bool) f75.L
  | .l3 x0 x3 x6 x7 x8 => .ite (x8 < x7) (fun h1 => .need (0 ≤ x8) fun h2 => .need (x8 < (x6.length : Int)) fun h3 => .call _ (f93 k ((at' x6 x8).f0)) fun t1 => .ite (t1 = true) (fun h4 => .th h4 <| .th h4 <| .ite (200000 < (IntKind.i64.wrap (x3 + ((((at' x6 x8).f1).size : Nat) : Int)))) (fun h5 => .th h5 <| .th h5 <| .th h5 <| .th h5 <| .ret false) (fun h5 => .th h5 <| .th h5 <| .ite (0 < x8) (fun h6 => .th h6 <| .th h6 <| .th h6 <| .need (0 ≤ (IntKind.i64.wrap (x8 - 1))) fun h7 => .need ((IntKind.i64.wrap (x8 - 1)) < (x0.length : Int)) fun h8 => .th h6 <| .th h6 <| .th h6 <| .th h6 <| .th h6 <| .th h5 <| .th h6 <| .th h5 <| .ite ((strLt ((at' x0 (IntKind.i64.wrap (x8 - 1))).f0) ((at' x6 x8).f0)) = true) (fun h9 => .jump (.l3 x0 (IntKind.i64.wrap (x3 + ((((at' x6 x8).f1).size : Nat) : Int))) x6 x7 (IntKind.i64.wrap (x8 + 1)))) (fun h9 => .ret false)) (fun h6 => .th h6 <| .th h6 <| .th h6 <| .th h6 <| .th h6 <| .th h6 <| .th h6 <| .th h6 <| .th h5 <| .th h6 <| .th h5 <| .jump (.l3 x0 (IntKind.i64.wrap (x3 + ((((at' x6 x8).f1).size : Nat) : Int))) x6 x7 (IntKind.i64.wrap (x8 + 1)))))) (fun h4 => .th h4 <| .th h4 <| .ret false)) (fun h1 => .ret (decide ((x0.length : Int) ≤ 60)))
def f75.D (k : Nat) : f75.L → Option (Bool)
  | .l3 x0 x3 x6 x7 x8 => f75.l3 k x0 x3 x6 x7 x8
def f75.start (k : Nat) (a : List S58) : PT (Bool) f75.L := .jump (.l3 a 0 a (a.length : Int) 0)
def f75.o : (Bool) → V El × List (O El) := fun r => (.bb false r, [])
abbrev sf75 (k : Nat) : List (V G.El) → List (O G.El) → Q G.El (V G.El × List (O G.El)) := fun as' os' => lT os' <| na as' (argL 3) fun a as' => lT as' <| .call _ (f75 k a) fun r => .ret (f75.o r)
def f76.start (k : Nat) (a : Int) (b c d : ByteArray) : PT (Bool) Empty := .ite (a = 1) (fun h1 => .call _ (f93 k b) fun t1 => .ite (t1 = true) (fun h2 => .th h2 <| .th h2 <| .th h2 <| .ret (strEq c (⟨#[]⟩ : ByteArray))) (fun h2 => .th h2 <| .th h2 <| .th h2 <| .ret false)) (fun h1 => .ite (a = 2) (fun h3 => .call _ (f93 k b) fun t2 => .ite (t2 = true) (fun h4 => .th h4 <| .th h4 <| .call _ (f93 k c) fun t3 => .th h4 <| .ite (t3 = true) (fun h5 => .th h5 <| .th h5 <| .th h5 <| .ret (strEq d (⟨#[]⟩ : ByteArray))) (fun h5 => .th h5 <| .th h5 <| .th h5 <| .ret false)) (fun h4 => .th h4 <| .th h4 <| .th h4 <| .ret false)) (fun h3 => .ite (a = 3) (fun h6 => .call _ (f93 k b) fun t4 => .ite (t4 = true) (fun h7 => .th h7 <| .th h7 <| .th h7 <| .ite ((strEq c (⟨#[]⟩ : ByteArray)) = true) (fun h8 => .th h8 <| .th h8 <| .th h8 <| .ret (strEq d (⟨#[]⟩ : ByteArray))) (fun h8 => .th h8 <| .th h8 <| .th h8 <| .ret false)) (fun h7 => .th h7 <| .th h7 <| .th h7 <| .ret false)) (fun h6 => .ret false)))
def f76.o : (Bool) → V El × List (O El) := fun r => (.bb false r, [])
abbrev sf76 (k : Nat) : List (V G.El) → List (O G.El) → Q G.El (V G.El × List (O G.El)) := fun as' os' => lT os' <| na as' argA fun b' as' => nc b' (argI .i64) fun a b' => nc b' argS fun b b' => nc b' argS fun c b' => nc b' argS fun d b' => argT b' <| lT as' <| .call _ (f76 k a b c d) fun r => .ret (f76.o r)
def f86.start (k : Nat) (a b o0_0 : ByteArray) : PT (Bool) Empty := .ret (strEq a o0_0)
def f86.o (o0_0 : ByteArray) : (Bool) → V El × List (O El) := fun r => (.bb false r, [.box true true 0 1 false [.s o0_0]])
abbrev sf86 (k : Nat) : List (V G.El) → List (O G.El) → Q G.El (V G.El × List (O G.El)) := fun as' os' => lH os' fun x0' os' => lT os' <| argX 1 false x0' fun b' => nc b' argS fun o0_0 b' => argT b' <| na as' argA fun b' as' => nc b' argS fun a b' => nc b' argS fun b b' => argT b' <| na0 as' (argV 0 0) fun as' => lT as' <| .call _ (f86 k a b o0_0) fun r => .ret (f86.o o0_0 r)
inductive f85.L where
  | l2 (x0 : List S58) (x7 : Int) (x8 : Int) (b0_0 : ByteArray)
def f85.st : f85.L → Nat × S El
  | .l2 x0 x7 x8 b0_0 => (2, ⟨19, .dead, [(0, .sl 3 x0 []), (1, .fn 86 [.ptr 0 (.l 0) 0]), (7, .id .i64 8 x7), (8, .id .i64 9 x8)], [(0, .box true true 0 1 false [.s b0_0])], 1, 1⟩)
def f85.blk (k : Nat) : f85.L → PT (Int × ByteArray) f85.L
  | .l2 x0 x7 x8 b0_0 => .ite (x8 < x7) (fun h1 => .need (0 ≤ x8) fun h2 => .need (x8 < (x0.length : Int)) fun h3 => .call _ (f86 k ((at' x0 x8).f0) ((at' x0 x8).f1) b0_0) fun t1 => .ite (t1 = true) (fun h4 => .ret (x8, b0_0)) (fun h4 => .jump (.l2 x0 x7 (IntKind.i64.wrap (x8 + 1)) b0_0))) (fun h1 => .ret ((-1), b0_0))
def f85.D (k : Nat) : f85.L → Option (Int × ByteArray)
  | .l2 x0 x7 x8 b0_0 => f85.l2 k x0 x7 x8 b0_0
def f85.start (k : Nat) (a : List S58) (o0_0 : ByteArray) : PT (Int × ByteArray) f85.L := .jump (.l2 a (a.length : Int) 0 o0_0)
def f85.o : (Int × ByteArray) → V El × List (O El) := fun r => (.id .i64 0 r.1, [.box true true 0 1 false [.s r.2]])
abbrev sf85 (k : Nat) : List (V G.El) → List (O G.El) → Q G.El (V G.El × List (O G.El)) := fun as' os' => lH os' fun x0' os' => lT os' <| argX 1 false x0' fun b' => nc b' argS fun o0_0 b' => argT b' <| na as' (argL 3) fun a as' => lH as' fun y' as' => argF 86 y' fun c' => argPH c' fun y' c' => argV 0 0 y' <| argT c' <| lT as' <| .call _ (f85 k a o0_0) fun r => .ret (f85.o r)
def f60.start (k : Nat) (a : List S58) (b : ByteArray) : PT (Int) Empty := .call _ (f85 k a b) fun t1 => .ret t1.1
def f60.o : (Int) → V El × List (O El) := fun r => (.id .i64 0 r, [])
abbrev sf60 (k : Nat) : List (V G.El) → List (O G.El) → Q G.El (V G.El × List (O G.El)) := fun as' os' => lT os' <| na as' (argL 3) fun a as' => na as' argS fun b as' => lT as' <| .call _ (f60 k a b) fun r => .ret (f60.o r)
def f82.start (k : Nat) (a : List S58) : PT ((List S58)) Empty := .triv (0 = ([] : List S58).length) tv <| .need (a.length * 32 ≤ 70368744177664) fun h1 => .need (a.length ≤ 70368744177664) fun h2 => .tr a.length <| .ret a
def f82.o : ((List S58)) → V El × List (O El) := fun r => (.win 0 true (.l 0) (.d 0 r.length), [.row true true true 0 3 r none])
abbrev sf82 (k : Nat) : List (V G.El) → List (O G.El) → Q G.El (V G.El × List (O G.El)) := fun as' os' => lT os' <| na as' (argL 3) fun a as' => lT as' <| .call _ (f82 k a) fun r => .ret (f82.o r)
abbrev sf107 (k : Nat) : List (V G.El) → List (O G.El) → Q G.El (V G.El × List (O G.El)) := fun as' os' => lT os' <| na as' argS fun a0_0 as' => na as' argS fun a1_0 as' => lT as' <| .call _ (f107 k a0_0 a1_0) fun r => .ret (.id .i64 0 r, [])
def f104.start (k : Nat) (a b : ByteArray) : PT (Int) Empty := .call _ (f107 k a b) fun t1 => .ret t1
def f104.o : (Int) → V El × List (O El) := fun r => (.id .i64 0 r, [])
abbrev sf104 (k : Nat) : List (V G.El) → List (O G.El) → Q G.El (V G.El × List (O G.El)) := fun as' os' => lT os' <| na as' argS fun a as' => na as' argS fun b as' => lT as' <| .call _ (f104 k a b) fun r => .ret (f104.o r)
def f103.start (k : Nat) (a b c : ByteArray) : PT (Int) Empty := .call _ (f104 k a c) fun t1 => .ret t1
def f103.o : (Int) → V El × List (O El) := fun r => (.id .i64 0 r, [])
abbrev sf103 (k : Nat) : List (V G.El) → List (O G.El) → Q G.El (V G.El × List (O G.El)) := fun as' os' => lT os' <| na as' argA fun b' as' => nc b' argS fun a b' => nc b' argS fun b b' => argT b' <| na as' argS fun c as' => lT as' <| .call _ (f103 k a b c) fun r => .ret (f103.o r)
inductive f102.L where
  | l3 (x0 : List S58) (x1 : ByteArray) (x8 : Int) (x9 : Int) (x10 : Int)
def f102.st : f102.L → Nat × S El
  | .l3 x0 x1 x8 x9 x10 => (3, ⟨49, .dead, [(0, .sl 3 x0 []), (1, .s x1), (2, .fn 103 []), (8, .id .i64 9 x8), (9, .id .i64 10 x9), (10, .id .i64 11 x10)], [], 0, 0⟩)
def f102.hint : f102.L → H
  | .l3 .. => (.both .all (.both (.l (.l (.l (.l (.l (.l (.skip (.l (.l .all))))))))) (.r (.r (.r (.r (.r (.r (.r (.r .all))))))))))
def f102.blk (k : Nat) : f102.L → PT (Int × Bool) f102.L
  | .l3 x0 x1 x8 x9 x10 => .ite (x9 < x10) (fun h1 => .need (0 ≤ (IntKind.i64.wrap (shrI .u64 (IntKind.u64.wrap (IntKind.i64.wrap (x9 + x10))) 1))) fun h2 => .need ((IntKind.i64.wrap (shrI .u64 (IntKind.u64.wrap (IntKind.i64.wrap (x9 + x10))) 1)) < (x0.length : Int)) fun h3 => .call _ (f103 k ((at' x0 (IntKind.i64.wrap (shrI .u64 (IntKind.u64.wrap (IntKind.i64.wrap (x9 + x10))) 1))).f0) ((at' x0 (IntKind.i64.wrap (shrI .u64 (IntKind.u64.wrap (IntKind.i64.wrap (x9 + x10))) 1))).f1) x1) fun t1 => .ite (t1 < 0) (fun h4 => .jump (.l3 x0 x1 x8 (IntKind.i64.wrap ((IntKind.i64.wrap (shrI .u64 (IntKind.u64.wrap (IntKind.i64.wrap (x9 + x10))) 1)) + 1)) x10)) (fun h4 => .jump (.l3 x0 x1 x8 x9 (IntKind.i64.wrap (shrI .u64 (IntKind.u64.wrap (IntKind.i64.wrap (x9 + x10))) 1))))) (fun h1 => .ite (x9 < x8) (fun h5 => .th h5 <| .th h5 <| .th h5 <| .need (0 ≤ x9) fun h6 => .need (x9 < (x0.length : Int)) fun h7 => .th h5 <| .th h5 <| .th h5 <| .call _ (f103 k ((at' x0 x9).f0) ((at' x0 x9).f1) x1) fun t2 => .th h5 <| .th h5 <| .ret (x9, (decide (t2 = 0)))) (fun h5 => .th h5 <| .th h5 <| .th h5 <| .th h5 <| .th h5 <| .th h5 <| .th h5 <| .th h5 <| .ret (x9, false)))
def f102.D (k : Nat) : f102.L → Option (Int × Bool)
  | .l3 x0 x1 x8 x9 x10 => f102.l3 k x0 x1 x8 x9 x10
def f102.start (k : Nat) (a : List S58) (b : ByteArray) : PT (Int × Bool) f102.L := .jump (.l3 a b (a.length : Int) 0 (a.length : Int))
def f102.o : (Int × Bool) → V El × List (O El) := fun r => (.tup [.id .i64 0 r.1, .bb false r.2], [])
abbrev sf102 (k : Nat) : List (V G.El) → List (O G.El) → Q G.El (V G.El × List (O G.El)) := fun as' os' => lT os' <| na as' (argL 3) fun a as' => na as' argS fun b as' => lH as' fun y' as' => argF 103 y' fun c' => argT c' <| lT as' <| .call _ (f102 k a b) fun r => .ret (f102.o r)
abbrev sf105 (k : Nat) : List (V G.El) → List (O G.El) → Q G.El (V G.El × List (O G.El)) := fun as' os' => lH os' fun x0' os' => lH os' fun x1' os' => lT os' <| argR 3 x0' fun o0 => argR 3 x1' fun o1 => na0 as' (argW 0 o0.length) fun as' => na as' (argI .i64) fun a1_0 as' => na0 as' (argW 1 o1.length) fun as' => lT as' <| .call _ (f105 k a1_0 o0 o1) fun r => .ret (.win 2 true (.l 0) (.d 0 r.length), [.row false true true 0 3 o0 none, .row true true true 0 3 o1 none, .row true true true 0 3 r none])
def f94.start (k : Nat) (a : List S58) (b c : ByteArray) : PT ((List S58)) Empty := .call _ (f82 k a) fun t1 => .tr t1.length <| .call _ (f102 k t1 b) fun t2 => .ite (t2.2 = true) (fun h1 => .need (0 ≤ t2.1) fun h2 => .need (t2.1 < (t1.length : Int)) fun h3 => .triv (t2.1.toNat < t1.length) tv <| .tr t1.length <| .ret (t1.set t2.1.toNat (⟨b, c⟩ : S58))) (fun h1 => .tr t1.length <| .triv (1 = ([(⟨b, c⟩ : S58)] : List S58).length) tv <| .call _ (f105 k t2.1 t1 ([(⟨b, c⟩ : S58)] : List S58)) fun t3 => .tr t3.length <| .ret t3)
def f94.o : ((List S58)) → V El × List (O El) := fun r => (.win 0 true (.l 0) (.d 0 r.length), [.row true true true 0 3 r none])
abbrev sf94 (k : Nat) : List (V G.El) → List (O G.El) → Q G.El (V G.El × List (O G.El)) := fun as' os' => lT os' <| na as' (argL 3) fun a as' => na as' argA fun b' as' => nc b' argS fun b b' => nc b' argS fun c b' => argT b' <| lT as' <| .call _ (f94 k a b c) fun r => .ret (f94.o r)
abbrev sf95 (k : Nat) : List (V G.El) → List (O G.El) → Q G.El (V G.El × List (O G.El)) := fun as' os' => lH os' fun x0' os' => lT os' <| argR 3 x0' fun o0 => na0 as' (argW 0 o0.length) fun as' => na as' (argI .i64) fun a1_0 as' => na as' (argI .i64) fun a2_0 as' => lT as' <| .call _ (f95 k a1_0 a2_0 o0) fun r => .ret (.win 1 true (.l 0) (.d 0 r.length), [.row false true true 0 3 o0 none, .row true true true 0 3 r none])
def f77.start (k : Nat) (a : Int) (b c d : ByteArray) (e : List S58) : PT (((List S58)) ⊕ ((List S58))) Empty := .call _ (f60 k e b) fun t1 => .ite (a = 1) (fun h1 => .ite (0 ≤ t1) (fun h2 => .th h2 <| .need (t1 < (e.length : Int)) fun h3 => .need (((at' e t1).f1).size + d.size ≤ 9223372036854775807) fun h4 => .call _ (f94 k e ((at' e t1).f0) ((at' e t1).f1 ++ d)) fun t2 => .tr t2.length <| .ret (Sum.inl t2)) (fun h2 => .need' (d.size ≤ 9223372036854775807) ((⟨#[]⟩ : ByteArray).size + d.size ≤ 9223372036854775807) tv fun h5 => .call _ (f94 k e b ((⟨#[]⟩ : ByteArray) ++ d)) fun t3 => .tr t3.length <| .ret (Sum.inl t3))) (fun h1 => .ite (t1 < 0) (fun h6 => .ret (Sum.inr e)) (fun h6 => .call _ (f82 k e) fun t4 => .tr t4.length <| .call _ (f95 k t1 (IntKind.i64.wrap (t1 + 1)) t4) fun t5 => .ite (a = 3) (fun h7 => .tr t5.length <| .ret (Sum.inl t5)) (fun h7 => .need (0 ≤ t1) fun h8 => .need (t1 < (e.length : Int)) fun h9 => .tr t5.length <| .call _ (f94 k t5 c ((at' e t1).f1)) fun t6 => .tr t6.length <| .ret (Sum.inl t6))))
def f77.o : (((List S58)) ⊕ ((List S58))) → V El × List (O El) := fun r => match r with | Sum.inl r => (.tup [.win 0 true (.l 0) (.d 0 r.length), .bb false true], [.row true true true 0 3 r none]) | Sum.inr r => (.tup [.sl 3 r [], .bb false false], [])
abbrev sf77 (k : Nat) : List (V G.El) → List (O G.El) → Q G.El (V G.El × List (O G.El)) := fun as' os' => lT os' <| na as' argA fun b' as' => nc b' (argI .i64) fun a b' => nc b' argS fun b b' => nc b' argS fun c b' => nc b' argS fun d b' => argT b' <| na as' (argL 3) fun e as' => lT as' <| .call _ (f77 k a b c d e) fun r => .either _ _ r (fun r => .ret (.tup [.win 0 true (.l 0) (.d 0 r.length), .bl true], [.row true true true 0 3 r none])) (fun r => .ret (.tup [.sl 3 r [], .bl false], []))
inductive f78.L where
  | l4 (x0 : List S58) (x1 : List S58) (x12 : Int) (x13 : Int)
def f78.st : f78.L → Nat × S El
  | .l4 x0 x1 x12 x13 => (4, ⟨26, .dead, [(0, .sl 3 x0 []), (1, .sl 3 x1 []), (12, .id .i64 13 x12), (13, .id .i64 14 x13)], [], 0, 0⟩)
def f78.blk (k : Nat) : f78.L → PT (Bool) f78.L
  | .l4 x0 x1 x12 x13 => .ite (x13 < x12) (fun h2 => .need (0 ≤ x13) fun h3 => .need (x13 < (x0.length : Int)) fun h4 => .th h3 <| .need (x13 < (x1.length : Int)) fun h5 => .ite ((strEq ((at' x0 x13).f0) ((at' x1 x13).f0) && strEq ((at' x0 x13).f1) ((at' x1 x13).f1)) = true) (fun h6 => .jump (.l4 x0 x1 x12 (IntKind.i64.wrap (x13 + 1)))) (fun h6 => .ret false)) (fun h2 => .ret true)
def f78.D (k : Nat) : f78.L → Option (Bool)
  | .l4 x0 x1 x12 x13 => f78.l4 k x0 x1 x12 x13
def f78.start (k : Nat) (a b : List S58) : PT (Bool) f78.L := .ite ((a.length : Int) = (b.length : Int)) (fun h1 => .jump (.l4 a b (a.length : Int) 0)) (fun h1 => .ret false)
def f78.o : (Bool) → V El × List (O El) := fun r => (.bb false r, [])
abbrev sf78 (k : Nat) : List (V G.El) → List (O G.El) → Q G.El (V G.El × List (O G.El)) := fun as' os' => lT os' <| na as' (argL 3) fun a as' => na as' (argL 3) fun b as' => lT as' <| .call _ (f78 k a b) fun r => .ret (f78.o r)
inductive f55.L where
  | l5 (x3 : List S58) (x27 : List S63) (x28 : Int) (x29 : Int) (b0_0 : List S58) (b0_1 : List S58) (b0_2 : List S63)
def f55.st : f55.L → Nat × S El
  | .l5 x3 x27 x28 x29 b0_0 b0_1 b0_2 => (5, ⟨55, .dead, [(1, .ptr 0 (.l 0) 0), (3, .sl 3 x3 []), (27, .sl 4 x27 []), (28, .id .i64 29 x28), (29, .id .i64 30 x29)], [(0, .box true true 0 3 true [.sl 3 b0_0 [], .sl 3 b0_1 [], .sl 4 b0_2 []])], 1, 0⟩)
def f55.blk (k : Nat) : f55.L → PT (Bool) f55.L
  | .l5 x3 x27 x28 x29 b0_0 b0_1 b0_2 => .ite (x29 < x28) (fun h4 => .need (0 ≤ x29) fun h5 => .need (x29 < (x27.length : Int)) fun h6 => .call _ (f76 k ((at' x27 x29).f0) ((at' x27 x29).f1) ((at' x27 x29).f2) ((at' x27 x29).f3)) fun t3 => .ite (t3 = true) (fun h7 => .call _ (f77 k ((at' x27 x29).f0) ((at' x27 x29).f1) ((at' x27 x29).f2) ((at' x27 x29).f3) x3) fun t4 => .either _ _ t4 (fun t4 => .tr t4.length <| .call _ (f75 k t4) fun t5 => .ite (t5 = true) (fun h8 => .tr t4.length <| .jump (.l5 t4 x27 x28 (IntKind.i64.wrap (x29 + 1)) b0_0 b0_1 b0_2)) (fun h8 => .ret false)) (fun t4 => .ret false)) (fun h7 => .ret false)) (fun h4 => .call _ (f78 k x3 b0_0) fun t6 => .ret t6)
def f55.D (k : Nat) : f55.L → Option (Bool)
  | .l5 x3 x27 x28 x29 b0_0 b0_1 b0_2 => f55.l5 k x3 x27 x28 x29 b0_0 b0_1 b0_2
def f55.start (k : Nat) (a b : List S58) (c : List S63) : PT (Bool) f55.L := .call _ (f75 k a) fun t1 => .ite (t1 = true) (fun h1 => .th h1 <| .th h1 <| .call _ (f75 k b) fun t2 => .th h1 <| .th h1 <| .ite (t2 = true) (fun h2 => .th h2 <| .th h2 <| .th h2 <| .th h2 <| .ite (200 < (c.length : Int)) (fun h3 => .ret false) (fun h3 => .jump (.l5 b c (c.length : Int) 0 a b c))) (fun h2 => .th h2 <| .th h2 <| .th h2 <| .th h2 <| .ret false)) (fun h1 => .th h1 <| .th h1 <| .th h1 <| .th h1 <| .ret false)
def f55.o : (Bool) → V El × List (O El) := fun r => (.bb false r, [])
abbrev sf55 (k : Nat) : List (V G.El) → List (O G.El) → Q G.El (V G.El × List (O G.El)) := fun as' os' => lT os' <| na as' argA fun b' as' => nc b' (argL 3) fun a b' => nc b' (argL 3) fun b b' => nc b' (argL 4) fun c b' => argT b' <| lT as' <| .call _ (f55 k a b c) fun r => .ret (f55.o r)
def f96.start (k : Nat) (a : List Int) : PT (Int) Empty := .need (3 < a.length) fun h1 => .need (0 < a.length) fun h2 => .need (1 < a.length) fun h3 => .need (2 < a.length) fun h4 => .th h1 <| .ret (orI .u32 (orI .u32 (orI .u32 (IntKind.u32.wrap (at' a 0)) (shlI .u32 (IntKind.u32.wrap (at' a 1)) 8)) (shlI .u32 (IntKind.u32.wrap (at' a 2)) 16)) (shlI .u32 (IntKind.u32.wrap (at' a 3)) 24))
def f96.o : (Int) → V El × List (O El) := fun r => (.id .u32 0 r, [])
abbrev sf96 (k : Nat) : List (V G.El) → List (O G.El) → Q G.El (V G.El × List (O G.El)) := fun as' os' => lT os' <| na as' argA fun b' as' => argT b' <| na as' (argL 7) fun a as' => lT as' <| .call _ (f96 k a) fun r => .ret (f96.o r)
inductive f97.L where
  | l3 (x0 : ByteArray) (x3 : Int) (x7 : Int) (x8 : Int)
  | l7 (x0 : ByteArray) (x3 : Int) (x7 : Int) (x8 : Int) (x17 : Int)
def f97.st : f97.L → Nat × S El
  | .l3 x0 x3 x7 x8 => (3, ⟨31, .dead, [(0, .s x0), (3, .id .u32 4 x3), (7, .id .i64 8 x7), (8, .id .i64 9 x8)], [], 0, 0⟩)
  | .l7 x0 x3 x7 x8 x17 => (7, ⟨31, .dead, [(0, .s x0), (3, .id .u32 4 x3), (7, .id .i64 8 x7), (8, .id .i64 9 x8), (17, .id .i64 18 x17)], [], 0, 0⟩)
def f97.blk (k : Nat) : f97.L → PT (Int) f97.L
  | .l3 x0 x3 x7 x8 => .ite (x8 < x7) (fun h1 => .need (0 ≤ x8) fun h2 => .need (x8 < (x0.size : Int)) fun h3 => .jump (.l7 x0 (xorI .u32 x3 (IntKind.u32.wrap (byteAt x0 x8))) x7 x8 0)) (fun h1 => .ret (xorI .u32 (notI .u32) x3))
  | .l7 x0 x3 x7 x8 x17 => .ite (x17 < 8) (fun h4 => .ite ((andI .u32 x3 1) = 1) (fun h5 => .jump (.l7 x0 (xorI .u32 (shrI .u32 x3 1) 3988292384) x7 x8 (IntKind.i64.wrap (x17 + 1)))) (fun h5 => .jump (.l7 x0 (shrI .u32 x3 1) x7 x8 (IntKind.i64.wrap (x17 + 1))))) (fun h4 => .jump (.l3 x0 x3 x7 (IntKind.i64.wrap (x8 + 1))))
def f97.D (k : Nat) : f97.L → Option (Int)
  | .l3 x0 x3 x7 x8 => f97.l3 k x0 x3 x7 x8
  | .l7 x0 x3 x7 x8 x17 => f97.l7 k x0 x3 x7 x8 x17
def f97.start (k : Nat) (a : ByteArray) : PT (Int) f97.L := .jump (.l3 a 4294967295 (a.size : Int) 0)
def f97.o : (Int) → V El × List (O El) := fun r => (.id .u32 0 r, [])
abbrev sf97 (k : Nat) : List (V G.El) → List (O G.El) → Q G.El (V G.El × List (O G.El)) := fun as' os' => lT os' <| na as' argS fun a as' => lT as' <| .call _ (f97 k a) fun r => .ret (f97.o r)
inductive f79.L where
  | l3 (q0 : List S88) (x0 : ByteArray) (x6 : Int)
def f79.st : f79.L → Nat × S El
  | .l3 q0 x0 x6 => (3, ⟨93, .dead, [(0, .s x0), (5, .win 0 true (.l 0) (.d 0 q0.length)), (6, .id .i64 7 x6)], [(0, .row true true true 0 6 q0 none)], 1, 0⟩)
def f79.hint : f79.L → H
  | .l3 .. => (.both .all (.both .all (.both (.l (.l (.l (.l .all)))) (.r (.r (.r (.r .all)))))))
def f79.blk (k : Nat) : f79.L → PT (Int × Int × (List S88)) f79.L
  | .l3 q0 x0 x6 => .need (0 ≤ x6) fun h1 => .need (x6 ≤ (x0.size : Int)) fun h2 => .need ((x0.extract x6.toNat x0.size).size ≤ 70368744177664) fun h3 => .ite' ((((bytesL (x0.extract x6.toNat x0.size)).length : Nat) : Int) = 0) ((((x0.extract x6.toNat x0.size).size : Nat) : Int) = 0) tv (fun h4 => .tr q0.length <| .ret (x6, 0, q0)) (fun h4 => .ite ((q0.length : Int) = 2000) (fun h5 => .tr q0.length <| .ret (x6, 5, q0)) (fun h5 => .need' (0 < (bytesL (x0.extract x6.toNat x0.size)).length) (0 < (x0.extract x6.toNat x0.size).size) tv fun h6 => .th h6 <| .ite ((at' (bytesL (x0.extract x6.toNat x0.size)) 0) < 1) (fun h7 => .th h7 <| .th h7 <| .th h7 <| .th h7 <| .tr q0.length <| .ret (x6, 2, q0)) (fun h7 => .th h7 <| .triv (0 < (x0.extract x6.toNat x0.size).size) tv <| .th h7 <| .th h6 <| .th h7 <| .th h7 <| .ite (100 < (at' (bytesL (x0.extract x6.toNat x0.size)) 0)) (fun h8 => .tr q0.length <| .ret (x6, 2, q0)) (fun h8 => .ite' ((((bytesL (x0.extract x6.toNat x0.size)).length : Nat) : Int) < 5) ((((x0.extract x6.toNat x0.size).size : Nat) : Int) < 5) tv (fun h9 => .tr q0.length <| .ret (x6, 1, q0)) (fun h9 => .need' (1 ≤ (((bytesL (x0.extract x6.toNat x0.size)).length : Nat) : Int)) (1 ≤ (x0.extract x6.toNat x0.size).size) tv fun h10 => .need' (1 + ((bytesL (x0.extract x6.toNat x0.size)).length - 1) ≤ (bytesL (x0.extract x6.toNat x0.size)).length) (1 + ((x0.extract x6.toNat x0.size).size - 1) ≤ (bytesL (x0.extract x6.toNat x0.size)).length) tv fun h11 => .call' _ (f96 k (((bytesL (x0.extract x6.toNat x0.size)).drop 1).take ((bytesL (x0.extract x6.toNat x0.size)).length - 1))) (f96 k (((bytesL (x0.extract x6.toNat x0.size)).drop 1).take ((x0.extract x6.toNat x0.size).size - 1))) (by simp only [len_bytesL]) fun t1 => .ite (20000 < t1) (fun h12 => .tr q0.length <| .ret (x6, 3, q0)) (fun h12 => .ite' ((((bytesL (x0.extract x6.toNat x0.size)).length : Nat) : Int) < (IntKind.i64.wrap ((IntKind.i64.wrap (5 + (IntKind.i64.wrap t1))) + 4))) ((((x0.extract x6.toNat x0.size).size : Nat) : Int) < (IntKind.i64.wrap ((IntKind.i64.wrap (5 + (IntKind.i64.wrap t1))) + 4))) tv (fun h13 => .tr q0.length <| .ret (x6, 1, q0)) (fun h13 => .need (0 ≤ (IntKind.i64.wrap (5 + (IntKind.i64.wrap t1)))) fun h14 => .need' ((IntKind.i64.wrap (5 + (IntKind.i64.wrap t1))) ≤ (((bytesL (x0.extract x6.toNat x0.size)).length : Nat) : Int)) ((IntKind.i64.wrap (5 + (IntKind.i64.wrap t1))) ≤ (((x0.extract x6.toNat x0.size).size : Nat) : Int)) tv fun h15 => .triv ((IntKind.i64.wrap (5 + (IntKind.i64.wrap t1))).toNat ≤ (bytesL (x0.extract x6.toNat x0.size)).length) tv <| .th h14 <| .triv ((IntKind.i64.wrap (5 + (IntKind.i64.wrap t1))) ≤ (((x0.extract x6.toNat x0.size).size : Nat) : Int)) tv <| .need' ((IntKind.i64.wrap (5 + (IntKind.i64.wrap t1))).toNat + ((bytesL (x0.extract x6.toNat x0.size)).length - (IntKind.i64.wrap (5 + (IntKind.i64.wrap t1))).toNat) ≤ (bytesL (x0.extract x6.toNat x0.size)).length) ((IntKind.i64.wrap (5 + (IntKind.i64.wrap t1))).toNat + ((x0.extract x6.toNat x0.size).size - (IntKind.i64.wrap (5 + (IntKind.i64.wrap t1))).toNat) ≤ (bytesL (x0.extract x6.toNat x0.size)).length) tv fun h16 => .call' _ (f96 k (((bytesL (x0.extract x6.toNat x0.size)).drop ((IntKind.i64.wrap (5 + (IntKind.i64.wrap t1))).toNat)).take ((bytesL (x0.extract x6.toNat x0.size)).length - (IntKind.i64.wrap (5 + (IntKind.i64.wrap t1))).toNat))) (f96 k (((bytesL (x0.extract x6.toNat x0.size)).drop ((IntKind.i64.wrap (5 + (IntKind.i64.wrap t1))).toNat)).take ((x0.extract x6.toNat x0.size).size - (IntKind.i64.wrap (5 + (IntKind.i64.wrap t1))).toNat))) (by simp only [len_bytesL]) fun t2 => .call _ (f97 k (strOf ((bytesL (x0.extract x6.toNat x0.size)).take ((IntKind.i64.wrap (5 + (IntKind.i64.wrap t1))).toNat)))) fun t3 => .ite (t2 = t3) (fun h17 => .triv (0 < (x0.extract x6.toNat x0.size).size) tv <| .th h6 <| .need' (5 ≤ (((strOf ((bytesL (x0.extract x6.toNat x0.size)).take ((IntKind.i64.wrap (5 + (IntKind.i64.wrap t1))).toNat))).size : Nat) : Int)) (5 ≤ (strOf ((bytesL (x0.extract x6.toNat x0.size)).take ((IntKind.i64.wrap (5 + (IntKind.i64.wrap t1))).toNat))).size) tv fun h18 => .triv (1 = ([(⟨(IntKind.i64.wrap (at' (bytesL (x0.extract x6.toNat x0.size)) 0)), ((strOf ((bytesL (x0.extract x6.toNat x0.size)).take ((IntKind.i64.wrap (5 + (IntKind.i64.wrap t1))).toNat))).extract 5 ((strOf ((bytesL (x0.extract x6.toNat x0.size)).take ((IntKind.i64.wrap (5 + (IntKind.i64.wrap t1))).toNat))).size))⟩ : S88)] : List S88).length) tv <| .tr q0.length <| .need ((q0.length + 1) * 24 ≤ 70368744177664) fun h19 => .need ((q0.length + 1) ≤ 70368744177664) fun h20 => .triv ((q0.length + 1) = (q0 ++ ([(⟨(IntKind.i64.wrap (at' (bytesL (x0.extract x6.toNat x0.size)) 0)), ((strOf ((bytesL (x0.extract x6.toNat x0.size)).take ((IntKind.i64.wrap (5 + (IntKind.i64.wrap t1))).toNat))).extract 5 ((strOf ((bytesL (x0.extract x6.toNat x0.size)).take ((IntKind.i64.wrap (5 + (IntKind.i64.wrap t1))).toNat))).size))⟩ : S88)] : List S88)).length) tv <| .jump (.l3 (q0 ++ ([(⟨(IntKind.i64.wrap (at' (bytesL (x0.extract x6.toNat x0.size)) 0)), ((strOf ((bytesL (x0.extract x6.toNat x0.size)).take ((IntKind.i64.wrap (5 + (IntKind.i64.wrap t1))).toNat))).extract 5 ((strOf ((bytesL (x0.extract x6.toNat x0.size)).take ((IntKind.i64.wrap (5 + (IntKind.i64.wrap t1))).toNat))).size))⟩ : S88)] : List S88)) x0 (IntKind.i64.wrap (x6 + (IntKind.i64.wrap ((IntKind.i64.wrap (5 + (IntKind.i64.wrap t1))) + 4)))))) (fun h17 => .tr q0.length <| .ret (x6, 4, q0)))))))))
def f79.D (k : Nat) : f79.L → Option (Int × Int × (List S88))
  | .l3 q0 x0 x6 => f79.l3 k q0 x0 x6
def f79.start (k : Nat) (a : ByteArray) : PT (Int × Int × (List S88)) f79.L := .triv (0 = ([] : List S88).length) tv <| .jump (.l3 ([] : List S88) a 0)
def f79.o : (Int × Int × (List S88)) → V El × List (O El) := fun r => (.tup [.win 0 true (.l 0) (.d 0 r.2.2.length), .id .i64 0 r.1, .id .i64 0 r.2.1], [.row true true true 0 6 r.2.2 none])
abbrev sf79 (k : Nat) : List (V G.El) → List (O G.El) → Q G.El (V G.El × List (O G.El)) := fun as' os' => lT os' <| na as' argS fun a as' => lT as' <| .call _ (f79 k a) fun r => .ret (f79.o r)
def f57.start (k : Nat) (a b c : Int) : PT (Bool) Empty := .ite (b ≤ a) (fun h1 => .th h1 <| .th h1 <| .th h1 <| .ret (decide (a ≤ c))) (fun h1 => .th h1 <| .th h1 <| .th h1 <| .ret false)
def f57.o : (Bool) → V El × List (O El) := fun r => (.bb false r, [])
abbrev sf57 (k : Nat) : List (V G.El) → List (O G.El) → Q G.El (V G.El × List (O G.El)) := fun as' os' => lT os' <| na as' (argI .i64) fun a as' => na as' (argI .i64) fun b as' => na as' (argI .i64) fun c as' => lT as' <| .call _ (f57 k a b c) fun r => .ret (f57.o r)
def f83.start (k : Nat) (a : Int) : PT (Bool) Empty := .call _ (f57 k a 0 1000000000000) fun t1 => .ret t1
def f83.o : (Bool) → V El × List (O El) := fun r => (.bb false r, [])
abbrev sf83 (k : Nat) : List (V G.El) → List (O G.El) → Q G.El (V G.El × List (O G.El)) := fun as' os' => lT os' <| na as' (argI .i64) fun a as' => lT as' <| .call _ (f83 k a) fun r => .ret (f83.o r)
inductive f80.L where
  | l3 (x0 : ByteArray) (x5 : Int) (x6 : Int)
def f80.st : f80.L → Nat × S El
  | .l3 x0 x5 x6 => (3, ⟨47, .dead, [(0, .s x0), (5, .id .i64 6 x5), (6, .id .i64 7 x6)], [], 0, 0⟩)
def f80.hint : f80.L → H
  | .l3 .. => (.both (.l (.l (.both (.both .all (.both (.l (.l (.both (.l (.l (.l .all))) (.r (.skip (.r (.r .all))))))) (.r (.r .all)))) .all))) (.r (.r .all)))
def f80.blk (k : Nat) : f80.L → PT (Int × ByteArray × Bool) f80.L
  | .l3 x0 x5 x6 => .ite (x6 < (x0.size : Int)) (fun h1 => .th h1 <| .th h1 <| .ite (x6 < 6) (fun h2 => .need (0 ≤ x6) fun h3 => .th h1 <| .need (0 ≤ (IntKind.i64.wrap (7 * x6))) fun h4 => .ite (128 ≤ (IntKind.i64.wrap (byteAt x0 x6))) (fun h5 => .jump (.l3 x0 (orI .i64 x5 (shlI .i64 ((IntKind.i64.wrap (byteAt x0 x6)).tmod 128) (IntKind.i64.wrap (7 * x6)))) (IntKind.i64.wrap (x6 + 1)))) (fun h5 => .ite ((IntKind.i64.wrap (byteAt x0 x6)) = 0) (fun h6 => .th h6 <| .th h6 <| .ite (0 < x6) (fun h7 => .th h7 <| .th h7 <| .th h7 <| .ret (0, (⟨#[]⟩ : ByteArray), false)) (fun h7 => .th h7 <| .call _ (f83 k (orI .i64 x5 (shlI .i64 ((IntKind.i64.wrap (byteAt x0 x6)).tmod 128) (IntKind.i64.wrap (7 * x6))))) fun t1 => .th h7 <| .th h7 <| .ite (t1 = true) (fun h8 => .need (0 ≤ (IntKind.i64.wrap (x6 + 1))) fun h9 => .need ((IntKind.i64.wrap (x6 + 1)) ≤ (x0.size : Int)) fun h10 => .ret ((orI .i64 x5 (shlI .i64 ((IntKind.i64.wrap (byteAt x0 x6)).tmod 128) (IntKind.i64.wrap (7 * x6)))), (x0.extract ((IntKind.i64.wrap (x6 + 1)).toNat) x0.size), true)) (fun h8 => .ret (0, (⟨#[]⟩ : ByteArray), false)))) (fun h6 => .th h6 <| .th h6 <| .call _ (f83 k (orI .i64 x5 (shlI .i64 ((IntKind.i64.wrap (byteAt x0 x6)).tmod 128) (IntKind.i64.wrap (7 * x6))))) fun t2 => .ite (t2 = true) (fun h11 => .need (0 ≤ (IntKind.i64.wrap (x6 + 1))) fun h12 => .need ((IntKind.i64.wrap (x6 + 1)) ≤ (x0.size : Int)) fun h13 => .ret ((orI .i64 x5 (shlI .i64 ((IntKind.i64.wrap (byteAt x0 x6)).tmod 128) (IntKind.i64.wrap (7 * x6)))), (x0.extract ((IntKind.i64.wrap (x6 + 1)).toNat) x0.size), true)) (fun h11 => .ret (0, (⟨#[]⟩ : ByteArray), false))))) (fun h2 => .ret (0, (⟨#[]⟩ : ByteArray), false))) (fun h1 => .th h1 <| .th h1 <| .ret (0, (⟨#[]⟩ : ByteArray), false))
def f80.D (k : Nat) : f80.L → Option (Int × ByteArray × Bool)
  | .l3 x0 x5 x6 => f80.l3 k x0 x5 x6
def f80.start (k : Nat) (a : ByteArray) : PT (Int × ByteArray × Bool) f80.L := .jump (.l3 a 0 0)
def f80.o : (Int × ByteArray × Bool) → V El × List (O El) := fun r => (.tup [.id .i64 0 r.1, .s r.2.1, .bb false r.2.2], [])
abbrev sf80 (k : Nat) : List (V G.El) → List (O G.El) → Q G.El (V G.El × List (O G.El)) := fun as' os' => lT os' <| na as' argS fun a as' => lT as' <| .call _ (f80 k a) fun r => .ret (f80.o r)
def f98.start (k : Nat) (a : ByteArray) : PT (ByteArray × ByteArray × Bool) Empty := .call _ (f80 k a) fun t1 => .ite (t1.2.2 = true) (fun h1 => .th h1 <| .th h1 <| .ite (20000 < t1.1) (fun h2 => .th h2 <| .th h2 <| .th h2 <| .th h2 <| .ret ((⟨#[]⟩ : ByteArray), (⟨#[]⟩ : ByteArray), false)) (fun h2 => .th h2 <| .th h2 <| .th h2 <| .th h2 <| .ite ((t1.2.1.size : Int) < t1.1) (fun h3 => .ret ((⟨#[]⟩ : ByteArray), (⟨#[]⟩ : ByteArray), false)) (fun h3 => .need (0 ≤ t1.1) fun h4 => .need (t1.1 ≤ (t1.2.1.size : Int)) fun h5 => .th h4 <| .th h5 <| .ret ((t1.2.1.extract 0 t1.1.toNat), (t1.2.1.extract t1.1.toNat t1.2.1.size), true)))) (fun h1 => .th h1 <| .th h1 <| .ret ((⟨#[]⟩ : ByteArray), (⟨#[]⟩ : ByteArray), false))
def f98.o : (ByteArray × ByteArray × Bool) → V El × List (O El) := fun r => (.tup [.s r.1, .s r.2.1, .bb false r.2.2], [])
abbrev sf98 (k : Nat) : List (V G.El) → List (O G.El) → Q G.El (V G.El × List (O G.El)) := fun as' os' => lT os' <| na as' argS fun a as' => lT as' <| .call _ (f98 k a) fun r => .ret (f98.o r)
def f84.start (k : Nat) (a b : Int) (c : ByteArray) : PT (Bool) Empty := .call _ (f57 k a 1 1000000000000) fun t1 => .ite (t1 = true) (fun h1 => .th h1 <| .th h1 <| .call _ (f57 k b 0 9) fun t2 => .th h1 <| .ite (t2 = true) (fun h2 => .th h2 <| .th h2 <| .th h2 <| .th h2 <| .ret (decide ((c.size : Int) ≤ 4000))) (fun h2 => .th h2 <| .th h2 <| .th h2 <| .th h2 <| .ret false)) (fun h1 => .th h1 <| .th h1 <| .th h1 <| .ret false)
def f84.o : (Bool) → V El × List (O El) := fun r => (.bb false r, [])
abbrev sf84 (k : Nat) : List (V G.El) → List (O G.El) → Q G.El (V G.El × List (O G.El)) := fun as' os' => lT os' <| na as' argA fun b' as' => nc b' (argI .i64) fun a b' => nc b' (argI .i64) fun b b' => nc b' argS fun c b' => argT b' <| lT as' <| .call _ (f84 k a b c) fun r => .ret (f84.o r)
def f81.start (k : Nat) (a : Int) (b : ByteArray) : PT (Int × Int × ByteArray × Bool) Empty := .call _ (f80 k b) fun t1 => .call _ (f80 k t1.2.1) fun t2 => .call _ (f98 k t2.2.1) fun t3 => .ite (a = 2) (fun h1 => .th h1 <| .th h1 <| .ite (t1.2.2 = true) (fun h2 => .th h2 <| .th h2 <| .ite (t2.2.2 = true) (fun h3 => .th h3 <| .th h3 <| .ite (t3.2.2 = true) (fun h4 => .th h4 <| .th h4 <| .ite ((strEq t3.2.1 (⟨#[]⟩ : ByteArray)) = true) (fun h5 => .th h5 <| .call _ (f84 k t1.1 t2.1 t3.1) fun t4 => .th h5 <| .th h5 <| .ite (t4 = true) (fun h6 => .ret (t1.1, t2.1, t3.1, true)) (fun h6 => .ret (0, 0, (⟨#[]⟩ : ByteArray), false))) (fun h5 => .th h5 <| .th h5 <| .th h5 <| .ret (0, 0, (⟨#[]⟩ : ByteArray), false))) (fun h4 => .th h4 <| .th h4 <| .ret (0, 0, (⟨#[]⟩ : ByteArray), false))) (fun h3 => .th h3 <| .th h3 <| .ret (0, 0, (⟨#[]⟩ : ByteArray), false))) (fun h2 => .th h2 <| .th h2 <| .ret (0, 0, (⟨#[]⟩ : ByteArray), false))) (fun h1 => .th h1 <| .th h1 <| .ret (0, 0, (⟨#[]⟩ : ByteArray), false))
def f81.o : (Int × Int × ByteArray × Bool) → V El × List (O El) := fun r => (.tup [.agg [.id .i64 0 r.1, .id .i64 0 r.2.1, .s r.2.2.1], .bb false r.2.2.2], [])
abbrev sf81 (k : Nat) : List (V G.El) → List (O G.El) → Q G.El (V G.El × List (O G.El)) := fun as' os' => lT os' <| na as' argA fun b' as' => nc b' (argI .i64) fun a b' => nc b' argS fun b b' => argT b' <| lT as' <| .call _ (f81 k a b) fun r => .ret (f81.o r)
inductive f56.L where
  | l20 (q2 : List S88) (x18 : Int) (x106 : Int) (x107 : Int) (b0_0 : Int) (b0_1 : Int) (b1_0 : Int) (b1_1 : Int)
  | l20v1 (q2 : List S88) (q3 : List S61) (x18 : Int) (x106 : Int) (x107 : Int) (b0_0 : Int) (b0_1 : Int) (b1_0 : Int) (b1_1 : Int)
def f56.st : f56.L → Nat × S El
  | .l20 q2 x18 x106 x107 b0_0 b0_1 b1_0 b1_1 => (20, ⟨147, .dead, [(2, .ptr 0 (.l 0) 0), (4, .ptr 1 (.l 0) 0), (18, .id .i64 19 x18), (105, .win 2 true (.l 0) (.d 0 q2.length)), (106, .id .i64 107 x106), (107, .id .i64 108 x107)], [(0, .box true true 0 3 true [.id .i64 50000 b0_0, .id .i64 50001 b0_1, .nil]), (1, .box true true 0 3 true [.id .i64 50100 b1_0, .id .i64 50101 b1_1, .nil]), (2, .row true true true 0 6 q2 none)], 3, 0⟩)
  | .l20v1 q2 q3 x18 x106 x107 b0_0 b0_1 b1_0 b1_1 => (20, ⟨147, .dead, [(2, .ptr 0 (.l 0) 0), (4, .ptr 1 (.l 0) 0), (18, .id .i64 19 x18), (105, .win 2 true (.l 0) (.d 0 q2.length)), (106, .id .i64 107 x106), (107, .id .i64 108 x107)], [(0, .box true true 0 3 true [.id .i64 50000 b0_0, .id .i64 50001 b0_1, .nil]), (1, .box true true 0 3 true [.id .i64 50100 b1_0, .id .i64 50101 b1_1, .win 3 true (.l 0) (.d 0 q3.length)]), (2, .row true true true 0 6 q2 none), (3, .row true true true 0 5 q3 none)], 4, 0⟩)
def f56.hint : f56.L → H
  | .l20 .. => (.both (.skip (.both (.l (.l (.l (.l (.both (.l (.l (.l (.l (.l .all))))) (.r (.r (.r (.r (.r (.both (.l (.l (.l (.l .all)))) (.r (.r (.r (.r .all))))))))))))))) (.r (.r (.r (.r .all)))))) .all)
  | .l20v1 .. => (.both (.skip (.both (.l (.l (.l (.l (.both (.l (.l (.l (.l (.l .all))))) (.r (.r (.r (.r (.r (.both (.l (.l (.l (.l .all)))) (.r (.r (.r (.r .all))))))))))))))) (.r (.r (.r (.r .all)))))) .all)
def f56.blk (k : Nat) : f56.L → PT (Int × Int × Bool × (List S61)) f56.L
  | .l20 q2 x18 x106 x107 b0_0 b0_1 b1_0 b1_1 => .ite (x107 < x106) (fun h13 => .need (0 ≤ x107) fun h14 => .need (x107 < (q2.length : Int)) fun h15 => .triv (x107.toNat < q2.length) tv <| .call _ (f81 k ((at' q2 x107).f0) ((at' q2 x107).f1)) fun t8 => .ite (t8.2.2.2 = true) (fun h16 => .th h16 <| .th h16 <| .th h16 <| .th h16 <| .ite (t8.1 < x18) (fun h17 => .th h17 <| .th h17 <| .th h17 <| .th h17 <| .th h17 <| .triv (0 = ([] : List S61).length) tv <| .ret (b1_0, b1_1, true, ([] : List S61))) (fun h17 => .th h17 <| .th h17 <| .th h17 <| .th h17 <| .th h17 <| .ite (b1_0 < t8.1) (fun h18 => .th h18 <| .th h18 <| .th h18 <| .th h18 <| .triv (0 = ([] : List S61).length) tv <| .ret (b1_0, b1_1, true, ([] : List S61))) (fun h18 => .th h18 <| .th h18 <| .th h18 <| .th h18 <| .triv (1 = ([(⟨t8.1, t8.2.1, t8.2.2.1⟩ : S61)] : List S61).length) tv <| .tr q2.length <| .triv (1 = ([(⟨t8.1, t8.2.1, t8.2.2.1⟩ : S61)] : List S61).length) tv <| .jump (.l20v1 q2 ([(⟨t8.1, t8.2.1, t8.2.2.1⟩ : S61)] : List S61) t8.1 x106 (IntKind.i64.wrap (x107 + 1)) b0_0 b0_1 b1_0 b1_1)))) (fun h16 => .th h16 <| .th h16 <| .th h16 <| .th h16 <| .triv (0 = ([] : List S61).length) tv <| .ret (b1_0, b1_1, true, ([] : List S61)))) (fun h13 => .triv (0 = ([] : List S61).length) tv <| .ret (b1_0, b1_1, true, ([] : List S61)))
  | .l20v1 q2 q3 x18 x106 x107 b0_0 b0_1 b1_0 b1_1 => .ite (x107 < x106) (fun h19 => .need (0 ≤ x107) fun h20 => .need (x107 < (q2.length : Int)) fun h21 => .triv (x107.toNat < q2.length) tv <| .call _ (f81 k ((at' q2 x107).f0) ((at' q2 x107).f1)) fun t9 => .ite (t9.2.2.2 = true) (fun h22 => .th h22 <| .th h22 <| .th h22 <| .th h22 <| .ite (t9.1 < x18) (fun h23 => .th h23 <| .th h23 <| .th h23 <| .th h23 <| .th h23 <| .tr q3.length <| .ret (b1_0, b1_1, true, q3)) (fun h23 => .th h23 <| .th h23 <| .th h23 <| .th h23 <| .th h23 <| .ite (b1_0 < t9.1) (fun h24 => .th h24 <| .th h24 <| .th h24 <| .th h24 <| .tr q3.length <| .ret (b1_0, b1_1, true, q3)) (fun h24 => .th h24 <| .th h24 <| .th h24 <| .th h24 <| .ite ((q3.length : Int) = 500) (fun h25 => .tr q3.length <| .ret (b1_0, b1_1, true, q3)) (fun h25 => .triv (1 = ([(⟨t9.1, t9.2.1, t9.2.2.1⟩ : S61)] : List S61).length) tv <| .tr q3.length <| .need ((q3.length + 1) * 32 ≤ 70368744177664) fun h26 => .need ((q3.length + 1) ≤ 70368744177664) fun h27 => .tr q2.length <| .triv ((q3.length + 1) = (q3 ++ ([(⟨t9.1, t9.2.1, t9.2.2.1⟩ : S61)] : List S61)).length) tv <| .jump (.l20v1 q2 (q3 ++ ([(⟨t9.1, t9.2.1, t9.2.2.1⟩ : S61)] : List S61)) t9.1 x106 (IntKind.i64.wrap (x107 + 1)) b0_0 b0_1 b1_0 b1_1))))) (fun h22 => .th h22 <| .th h22 <| .th h22 <| .th h22 <| .tr q3.length <| .ret (b1_0, b1_1, true, q3))) (fun h19 => .tr q3.length <| .ret (b1_0, b1_1, true, q3))
def f56.D (k : Nat) : f56.L → Option (Int × Int × Bool × (List S61))
  | .l20 q2 x18 x106 x107 b0_0 b0_1 b1_0 b1_1 => f56.l20 k q2 x18 x106 x107 b0_0 b0_1 b1_0 b1_1
  | .l20v1 q2 q3 x18 x106 x107 b0_0 b0_1 b1_0 b1_1 => f56.l20v1 k q2 q3 x18 x106 x107 b0_0 b0_1 b1_0 b1_1
def f56.start (k : Nat) (a b : List S58) (c : List S63) : PT (Int × Int × Bool × (List S61)) f56.L := .call _ (f55 k a b c) fun t1 => .ite (t1 = true) (fun h1 => .call _ (f60 k a (⟨#[118, 111, 116, 101]⟩ : ByteArray)) fun t2 => .ite (0 ≤ t2) (fun h2 => .th h2 <| .need (t2 < (a.length : Int)) fun h3 => .call _ (f79 k ((at' a t2).f1)) fun t3 => .ite (t3.2.1 = 0) (fun h4 => .th h4 <| .th h4 <| .th h4 <| .ite ((t3.2.2.length : Int) = 1) (fun h5 => .th h5 <| .need (0 < t3.2.2.length) fun h6 => .th h5 <| .th h5 <| .th h6 <| .th h5 <| .th h5 <| .ite ((at' t3.2.2 0).f0 = 1) (fun h7 => .th h6 <| .th h6 <| .call _ (f80 k ((at' t3.2.2 0).f1)) fun t4 => .call _ (f80 k t4.2.1) fun t5 => .ite (t4.2.2 = true) (fun h8 => .th h8 <| .th h8 <| .ite (t5.2.2 = true) (fun h9 => .th h9 <| .th h9 <| .ite ((strEq t5.2.1 (⟨#[]⟩ : ByteArray)) = true) (fun h10 => .call _ (f60 k a (⟨#[108, 111, 103]⟩ : ByteArray)) fun t6 => .ite (0 ≤ t6) (fun h11 => .th h11 <| .need (t6 < (a.length : Int)) fun h12 => .call _ (f79 k ((at' a t6).f1)) fun t7 => .tr t7.2.2.length <| .jump (.l20 t7.2.2 0 (t7.2.2.length : Int) 0 0 0 t4.1 t5.1)) (fun h11 => .triv (0 = ([] : List S61).length) tv <| .ret (t4.1, t5.1, true, ([] : List S61)))) (fun h10 => .triv (0 = ([] : List S61).length) tv <| .ret (0, 0, false, ([] : List S61)))) (fun h9 => .th h9 <| .th h9 <| .triv (0 = ([] : List S61).length) tv <| .ret (0, 0, false, ([] : List S61)))) (fun h8 => .th h8 <| .th h8 <| .triv (0 = ([] : List S61).length) tv <| .ret (0, 0, false, ([] : List S61)))) (fun h7 => .triv (0 = ([] : List S61).length) tv <| .ret (0, 0, false, ([] : List S61)))) (fun h5 => .th h5 <| .th h5 <| .th h5 <| .th h5 <| .th h5 <| .triv (0 = ([] : List S61).length) tv <| .ret (0, 0, false, ([] : List S61)))) (fun h4 => .th h4 <| .th h4 <| .th h4 <| .triv (0 = ([] : List S61).length) tv <| .ret (0, 0, false, ([] : List S61)))) (fun h2 => .call _ (f60 k a (⟨#[108, 111, 103]⟩ : ByteArray)) fun t10 => .ite (0 ≤ t10) (fun h28 => .th h28 <| .need (t10 < (a.length : Int)) fun h29 => .call _ (f79 k ((at' a t10).f1)) fun t11 => .tr t11.2.2.length <| .jump (.l20 t11.2.2 0 (t11.2.2.length : Int) 0 0 0 0 0)) (fun h28 => .triv (0 = ([] : List S61).length) tv <| .ret (0, 0, true, ([] : List S61))))) (fun h1 => .triv (0 = ([] : List S61).length) tv <| .ret (0, 0, false, ([] : List S61)))
def f56.o : (Int × Int × Bool × (List S61)) → V El × List (O El) := fun r => (.tup [.agg [.id .i64 0 r.1, .id .i64 0 r.2.1, .win 0 true (.l 0) (.d 0 r.2.2.2.length)], .bb false r.2.2.1], [.row true true true 0 5 r.2.2.2 none])
abbrev sf56 (k : Nat) : List (V G.El) → List (O G.El) → Q G.El (V G.El × List (O G.El)) := fun as' os' => lT os' <| na as' argA fun b' as' => nc b' (argL 3) fun a b' => nc b' (argL 3) fun b b' => nc b' (argL 4) fun c b' => argT b' <| lT as' <| .call _ (f56 k a b c) fun r => .ret (f56.o r)
inductive f59.L where
  | l5 (x3 : Int) (x23 : List S61) (x24 : Int) (x25 : Int) (b0_0 : Int) (b0_1 : Int) (b0_2 : List S61)
def f59.st : f59.L → Nat × S El
  | .l5 x3 x23 x24 x25 b0_0 b0_1 b0_2 => (5, ⟨48, .dead, [(1, .ptr 0 (.l 0) 0), (3, .id .i64 4 x3), (23, .sl 5 x23 []), (24, .id .i64 25 x24), (25, .id .i64 26 x25)], [(0, .box true true 0 3 true [.id .i64 50000 b0_0, .id .i64 50001 b0_1, .sl 5 b0_2 []])], 1, 0⟩)
def f59.hint : f59.L → H
  | .l5 .. => (.both (.skip (.both (.l (.l (.l (.l (.both (.l (.l (.l (.l (.l .all))))) (.r (.r (.r (.r (.r .all)))))))))) (.r (.r (.r (.r .all)))))) .all)
def f59.blk (k : Nat) : f59.L → PT (Bool) f59.L
  | .l5 x3 x23 x24 x25 b0_0 b0_1 b0_2 => .ite (x25 < x24) (fun h4 => .need (0 ≤ x25) fun h5 => .need (x25 < (x23.length : Int)) fun h6 => .call _ (f84 k ((at' x23 x25).f0) ((at' x23 x25).f1) ((at' x23 x25).f2)) fun t3 => .ite (t3 = true) (fun h7 => .th h7 <| .th h7 <| .th h7 <| .th h7 <| .ite ((at' x23 x25).f0 < x3) (fun h8 => .th h8 <| .th h8 <| .th h8 <| .th h8 <| .th h8 <| .ret false) (fun h8 => .th h8 <| .th h8 <| .th h8 <| .th h8 <| .th h8 <| .ite (b0_0 < (at' x23 x25).f0) (fun h9 => .ret false) (fun h9 => .jump (.l5 ((at' x23 x25).f0) x23 x24 (IntKind.i64.wrap (x25 + 1)) b0_0 b0_1 b0_2)))) (fun h7 => .th h7 <| .th h7 <| .th h7 <| .th h7 <| .ret false)) (fun h4 => .ret true)
def f59.D (k : Nat) : f59.L → Option (Bool)
  | .l5 x3 x23 x24 x25 b0_0 b0_1 b0_2 => f59.l5 k x3 x23 x24 x25 b0_0 b0_1 b0_2
def f59.start (k : Nat) (a b : Int) (c : List S61) : PT (Bool) f59.L := .call _ (f83 k a) fun t1 => .ite (t1 = true) (fun h1 => .th h1 <| .th h1 <| .call _ (f83 k b) fun t2 => .th h1 <| .th h1 <| .ite (t2 = true) (fun h2 => .th h2 <| .th h2 <| .th h2 <| .th h2 <| .ite (500 < (c.length : Int)) (fun h3 => .ret false) (fun h3 => .jump (.l5 0 c (c.length : Int) 0 a b c))) (fun h2 => .th h2 <| .th h2 <| .th h2 <| .th h2 <| .ret false)) (fun h1 => .th h1 <| .th h1 <| .th h1 <| .th h1 <| .ret false)
def f59.o : (Bool) → V El × List (O El) := fun r => (.bb false r, [])
abbrev sf59 (k : Nat) : List (V G.El) → List (O G.El) → Q G.El (V G.El × List (O G.El)) := fun as' os' => lT os' <| na as' argA fun b' as' => nc b' (argI .i64) fun a b' => nc b' (argI .i64) fun b b' => nc b' (argL 5) fun c b' => argT b' <| lT as' <| .call _ (f59 k a b c) fun r => .ret (f59.o r)
inductive f89.L where
  | l2 (q0 : List Int) (x0 : Int)
def f89.st : f89.L → Nat × S El
  | .l2 q0 x0 => (2, ⟨22, .dead, [(0, .id .i64 1 x0), (3, .win 0 true (.l 0) (.d 0 q0.length))], [(0, .row true true true 0 7 q0 none)], 1, 0⟩)
def f89.blk (k : Nat) : f89.L → PT (ByteArray) f89.L
  | .l2 q0 x0 => .ite (128 ≤ x0) (fun h1 => .triv (1 = ([(IntKind.u8.wrap (IntKind.i64.wrap ((x0.tmod 128) + 128)))] : List Int).length) tv <| .tr q0.length <| .need ((q0.length + 1) * 1 ≤ 70368744177664) fun h2 => .need ((q0.length + 1) ≤ 70368744177664) fun h3 => .triv ((q0.length + 1) = (q0 ++ ([(IntKind.u8.wrap (IntKind.i64.wrap ((x0.tmod 128) + 128)))] : List Int)).length) tv <| .jump (.l2 (q0 ++ ([(IntKind.u8.wrap (IntKind.i64.wrap ((x0.tmod 128) + 128)))] : List Int)) (IntKind.i64.wrap (x0.tdiv 128)))) (fun h1 => .triv (1 = ([(IntKind.u8.wrap x0)] : List Int).length) tv <| .tr q0.length <| .need ((q0.length + 1) * 1 ≤ 70368744177664) fun h4 => .need ((q0.length + 1) ≤ 70368744177664) fun h5 => .triv ((q0.length + 1) = (q0 ++ ([(IntKind.u8.wrap x0)] : List Int)).length) tv <| .ret (strOf (q0 ++ ([(IntKind.u8.wrap x0)] : List Int))))
def f89.D (k : Nat) : f89.L → Option (ByteArray)
  | .l2 q0 x0 => f89.l2 k q0 x0
def f89.start (k : Nat) (a : Int) : PT (ByteArray) f89.L := .triv (0 = ([] : List Int).length) tv <| .jump (.l2 ([] : List Int) a)
def f89.o : (ByteArray) → V El × List (O El) := fun r => (.s r, [])
abbrev sf89 (k : Nat) : List (V G.El) → List (O G.El) → Q G.El (V G.El × List (O G.El)) := fun as' os' => lT os' <| na as' (argI .i64) fun a as' => lT as' <| .call _ (f89 k a) fun r => .ret (f89.o r)
def f90.start (k : Nat) (a : ByteArray) : PT (ByteArray) Empty := .call _ (f89 k (a.size : Int)) fun t1 => .need (t1.size + a.size ≤ 9223372036854775807) fun h1 => .ret (t1 ++ a)
def f90.o : (ByteArray) → V El × List (O El) := fun r => (.s r, [])
abbrev sf90 (k : Nat) : List (V G.El) → List (O G.El) → Q G.El (V G.El × List (O G.El)) := fun as' os' => lT os' <| na as' argS fun a as' => lT as' <| .call _ (f90 k a) fun r => .ret (f90.o r)
def f101.start (k : Nat) (a : Int) (o0 : List Int) : PT ((List Int)) Empty := .triv (4 = ([(IntKind.u8.wrap a), (IntKind.u8.wrap (shrI .u32 a 8)), (IntKind.u8.wrap (shrI .u32 a 16)), (IntKind.u8.wrap (shrI .u32 a 24))] : List Int).length) tv <| .tr o0.length <| .need ((o0.length + 4) * 1 ≤ 70368744177664) fun h1 => .need ((o0.length + 4) ≤ 70368744177664) fun h2 => .triv ((o0.length + 4) = (o0 ++ ([(IntKind.u8.wrap a), (IntKind.u8.wrap (shrI .u32 a 8)), (IntKind.u8.wrap (shrI .u32 a 16)), (IntKind.u8.wrap (shrI .u32 a 24))] : List Int)).length) tv <| .ret (o0 ++ ([(IntKind.u8.wrap a), (IntKind.u8.wrap (shrI .u32 a 8)), (IntKind.u8.wrap (shrI .u32 a 16)), (IntKind.u8.wrap (shrI .u32 a 24))] : List Int))
def f101.o (o0 : List Int) : ((List Int)) → V El × List (O El) := fun r => (.win 1 true (.l 0) (.d 0 r.length), [.row false true true 0 7 o0 none, .row true true true 0 7 r none])
abbrev sf101 (k : Nat) : List (V G.El) → List (O G.El) → Q G.El (V G.El × List (O G.El)) := fun as' os' => lH os' fun x0' os' => lT os' <| argR 7 x0' fun o0 => na as' argA fun b' as' => argT b' <| na0 as' (argW 0 o0.length) fun as' => na as' (argI .u32) fun a as' => lT as' <| .call _ (f101 k a o0) fun r => .ret (f101.o o0 r)
def f88.start (k : Nat) (a : Int) (b : ByteArray) : PT (ByteArray) Empty := .call _ (f57 k a 1 100) fun t1 => .ite (t1 = true) (fun h1 => .th h1 <| .th h1 <| .th h1 <| .th h1 <| .ite (20000 < (b.size : Int)) (fun h2 => .ret (⟨#[]⟩ : ByteArray)) (fun h2 => .triv (1 = ([(IntKind.u8.wrap a)] : List Int).length) tv <| .call _ (f101 k (IntKind.u32.wrap (b.size : Int)) ([(IntKind.u8.wrap a)] : List Int)) fun t2 => .tr t2.length <| .need' ((t2.length + (bytesL b).length) * 1 ≤ 70368744177664) ((t2.length + b.size) * 1 ≤ 70368744177664) tv fun h3 => .need' ((t2.length + (bytesL b).length) ≤ 70368744177664) ((t2.length + b.size) ≤ 70368744177664) tv fun h4 => .triv ((t2.length + b.size) = (t2 ++ (bytesL b)).length) tv <| .call _ (f97 k (strOf (t2 ++ (bytesL b)))) fun t3 => .triv ((t2.length + b.size) = (t2 ++ (bytesL b)).length) tv <| .call _ (f101 k t3 (t2 ++ (bytesL b))) fun t4 => .tr t4.length <| .ret (strOf t4))) (fun h1 => .th h1 <| .th h1 <| .th h1 <| .th h1 <| .ret (⟨#[]⟩ : ByteArray))
def f88.o : (ByteArray) → V El × List (O El) := fun r => (.s r, [])
abbrev sf88 (k : Nat) : List (V G.El) → List (O G.El) → Q G.El (V G.El × List (O G.El)) := fun as' os' => lT os' <| na as' argA fun b' as' => nc b' (argI .i64) fun a b' => nc b' argS fun b b' => argT b' <| lT as' <| .call _ (f88 k a b) fun r => .ret (f88.o r)
def f65.start (k : Nat) (a b : Int) (c : ByteArray) : PT (ByteArray) Empty := .call _ (f89 k a) fun t1 => .call _ (f89 k b) fun t2 => .need (t1.size + t2.size ≤ 9223372036854775807) fun h1 => .call _ (f90 k c) fun t3 => .need' (t1.size + t2.size + t3.size ≤ 9223372036854775807) ((t1 ++ t2).size + t3.size ≤ 9223372036854775807) tv fun h2 => .call _ (f88 k 2 ((t1 ++ t2) ++ t3)) fun t4 => .ret t4
def f65.o : (ByteArray) → V El × List (O El) := fun r => (.s r, [])
abbrev sf65 (k : Nat) : List (V G.El) → List (O G.El) → Q G.El (V G.El × List (O G.El)) := fun as' os' => lT os' <| na as' argA fun b' as' => nc b' (argI .i64) fun a b' => nc b' (argI .i64) fun b b' => nc b' argS fun c b' => argT b' <| lT as' <| .call _ (f65 k a b c) fun r => .ret (f65.o r)
inductive f61.L where
  | l3 (x3 : ByteArray) (x6 : List S61) (x7 : Int) (x8 : Int)
def f61.st : f61.L → Nat × S El
  | .l3 x3 x6 x7 x8 => (3, ⟨18, .dead, [(3, .s x3), (6, .sl 5 x6 []), (7, .id .i64 8 x7), (8, .id .i64 9 x8)], [], 0, 0⟩)
def f61.blk (k : Nat) : f61.L → PT (ByteArray) f61.L
  | .l3 x3 x6 x7 x8 => .ite (x8 < x7) (fun h1 => .need (0 ≤ x8) fun h2 => .need (x8 < (x6.length : Int)) fun h3 => .call _ (f65 k ((at' x6 x8).f0) ((at' x6 x8).f1) ((at' x6 x8).f2)) fun t1 => .need (x3.size + t1.size ≤ 9223372036854775807) fun h4 => .jump (.l3 (x3 ++ t1) x6 x7 (IntKind.i64.wrap (x8 + 1)))) (fun h1 => .ret x3)
def f61.D (k : Nat) : f61.L → Option (ByteArray)
  | .l3 x3 x6 x7 x8 => f61.l3 k x3 x6 x7 x8
def f61.start (k : Nat) (a : List S61) : PT (ByteArray) f61.L := .jump (.l3 (⟨#[]⟩ : ByteArray) a (a.length : Int) 0)
def f61.o : (ByteArray) → V El × List (O El) := fun r => (.s r, [])
abbrev sf61 (k : Nat) : List (V G.El) → List (O G.El) → Q G.El (V G.El × List (O G.El)) := fun as' os' => lT os' <| na as' (argL 5) fun a as' => lT as' <| .call _ (f61 k a) fun r => .ret (f61.o r)
abbrev sf87 (k : Nat) : List (V G.El) → List (O G.El) → Q G.El (V G.El × List (O G.El)) := fun as' os' => lH os' fun x0' os' => lH os' fun x1' os' => lT os' <| argR 4 x0' fun o0 => argR 4 x1' fun o1 => na0 as' (argW 0 o0.length) fun as' => na as' (argI .i64) fun a1_0 as' => na0 as' (argW 1 o1.length) fun as' => lT as' <| .call _ (f87 k a1_0 o0 o1) fun r => .ret (.win 2 true (.l 0) (.d 0 r.length), [.row false true true 0 4 o0 none, .row true true true 0 4 o1 none, .row true true true 0 4 r none])
def f58.start (k : Nat) (a b : List S58) (c : List S63) : PT ((List S58) × (List S58) × (List S63)) Empty := .call _ (f82 k a) fun t1 => .call _ (f82 k b) fun t2 => .triv (0 = ([] : List S63).length) tv <| .need (c.length * 56 ≤ 70368744177664) fun h1 => .need (c.length ≤ 70368744177664) fun h2 => .tr t1.length <| .tr t2.length <| .tr c.length <| .ret (t1, t2, c)
def f58.o : ((List S58) × (List S58) × (List S63)) → V El × List (O El) := fun r => (.agg [.win 0 true (.l 0) (.d 0 r.1.length), .win 1 true (.l 0) (.d 0 r.2.1.length), .win 2 true (.l 0) (.d 0 r.2.2.length)], [.row true true true 0 3 r.1 none, .row true true true 0 3 r.2.1 none, .row true true true 0 4 r.2.2 none])
abbrev sf58 (k : Nat) : List (V G.El) → List (O G.El) → Q G.El (V G.El × List (O G.El)) := fun as' os' => lT os' <| na as' argA fun b' as' => nc b' (argL 3) fun a b' => nc b' (argL 3) fun b b' => nc b' (argL 4) fun c b' => argT b' <| lT as' <| .call _ (f58 k a b c) fun r => .ret (f58.o r)
def f64.start (k : Nat) (a b : List S58) (c : List S63) (d : Int) (e g i : ByteArray) : PT (Int × (List S58) × (List S58) × (List S63)) Empty := .call _ (f76 k d e g i) fun t1 => .ite (t1 = true) (fun h1 => .call _ (f77 k d e g i a) fun t2 => .either _ _ t2 (fun t2 => .ite ((c.length : Int) = 200) (fun h2 => .th h2 <| .th h2 <| .th h2 <| .call _ (f58 k a b c) fun t3 => .tr t3.1.length <| .tr t3.2.1.length <| .tr t3.2.2.length <| .ret (4, t3.1, t3.2.1, t3.2.2)) (fun h2 => .th h2 <| .tr t2.length <| .call _ (f75 k t2) fun t4 => .th h2 <| .th h2 <| .ite (t4 = true) (fun h3 => .call _ (f58 k a b c) fun t5 => .tr t2.length <| .call _ (f82 k t2) fun t6 => .triv (1 = ([(⟨d, e, g, i⟩ : S63)] : List S63).length) tv <| .tr t5.2.2.length <| .need ((t5.2.2.length + 1) * 56 ≤ 70368744177664) fun h4 => .need ((t5.2.2.length + 1) ≤ 70368744177664) fun h5 => .tr t6.length <| .tr t5.2.1.length <| .triv ((t5.2.2.length + 1) = (t5.2.2 ++ ([(⟨d, e, g, i⟩ : S63)] : List S63)).length) tv <| .ret (0, t6, t5.2.1, (t5.2.2 ++ ([(⟨d, e, g, i⟩ : S63)] : List S63)))) (fun h3 => .call _ (f58 k a b c) fun t7 => .tr t7.1.length <| .tr t7.2.1.length <| .tr t7.2.2.length <| .ret (4, t7.1, t7.2.1, t7.2.2)))) (fun t2 => .call _ (f58 k a b c) fun t8 => .tr t8.1.length <| .tr t8.2.1.length <| .tr t8.2.2.length <| .ret (3, t8.1, t8.2.1, t8.2.2))) (fun h1 => .call _ (f58 k a b c) fun t9 => .tr t9.1.length <| .tr t9.2.1.length <| .tr t9.2.2.length <| .ret (2, t9.1, t9.2.1, t9.2.2))
def f64.o : (Int × (List S58) × (List S58) × (List S63)) → V El × List (O El) := fun r => (.tup [.agg [.win 0 true (.l 0) (.d 0 r.2.1.length), .win 1 true (.l 0) (.d 0 r.2.2.1.length), .win 2 true (.l 0) (.d 0 r.2.2.2.length)], .id .i64 0 r.1], [.row true true true 0 3 r.2.1 none, .row true true true 0 3 r.2.2.1 none, .row true true true 0 4 r.2.2.2 none])
abbrev sf64 (k : Nat) : List (V G.El) → List (O G.El) → Q G.El (V G.El × List (O G.El)) := fun as' os' => lT os' <| na as' argA fun b' as' => nc b' (argL 3) fun a b' => nc b' (argL 3) fun b b' => nc b' (argL 4) fun c b' => argT b' <| na as' argA fun b' as' => nc b' (argI .i64) fun d b' => nc b' argS fun e b' => nc b' argS fun g b' => nc b' argS fun i b' => argT b' <| lT as' <| .call _ (f64 k a b c d e g i) fun r => .ret (f64.o r)
inductive f62.L where
  | l9 (q3 : List S63) (q4 : List S58) (q5 : List S58) (q6 : List S63) (x41 : Int) (x42 : Int) (b0_0 : List S58) (b0_1 : List S58) (b0_2 : List S63)
def f62.st : f62.L → Nat × S El
  | .l9 q3 q4 q5 q6 x41 x42 b0_0 b0_1 b0_2 => (9, ⟨60, .dead, [(3, .ptr 0 (.l 0) 0), (6, .ptr 1 (.l 0) 0), (10, .ptr 2 (.l 0) 0), (40, .win 3 true (.l 0) (.d 0 q3.length)), (41, .id .i64 42 x41), (42, .id .i64 43 x42)], [(0, .box true true 0 3 true [.sl 3 b0_0 [], .sl 3 b0_1 [], .sl 4 b0_2 []]), (1, .box true true 0 3 true [.nil, .nil, .nil]), (2, .box true true 0 3 true [.win 4 true (.l 0) (.d 0 q4.length), .win 5 true (.l 0) (.d 0 q5.length), .win 6 true (.l 0) (.d 0 q6.length)]), (3, .row true true true 0 4 q3 none), (4, .row true true true 0 3 q4 none), (5, .row true true true 0 3 q5 none), (6, .row true true true 0 4 q6 none)], 7, 0⟩)
def f62.blk (k : Nat) : f62.L → PT (Int × (List S58) × (List S58) × (List S63)) f62.L
  | .l9 q3 q4 q5 q6 x41 x42 b0_0 b0_1 b0_2 => .ite (x42 < x41) (fun h4 => .need (0 ≤ x42) fun h5 => .need (x42 < (q3.length : Int)) fun h6 => .triv (x42.toNat < q3.length) tv <| .tr q4.length <| .tr q5.length <| .tr q6.length <| .call _ (f64 k q4 q5 q6 ((at' q3 x42).f0) ((at' q3 x42).f1) ((at' q3 x42).f2) ((at' q3 x42).f3)) fun t5 => .ite (t5.1 = 0) (fun h7 => .tr q3.length <| .tr t5.2.1.length <| .tr t5.2.2.1.length <| .tr t5.2.2.2.length <| .jump (.l9 q3 t5.2.1 t5.2.2.1 t5.2.2.2 x41 (IntKind.i64.wrap (x42 + 1)) b0_0 b0_1 b0_2)) (fun h7 => .call _ (f58 k b0_0 b0_1 b0_2) fun t6 => .tr t6.1.length <| .tr t6.2.1.length <| .tr t6.2.2.length <| .ret (t5.1, t6.1, t6.2.1, t6.2.2))) (fun h4 => .tr q4.length <| .tr q5.length <| .tr q6.length <| .ret (0, q4, q5, q6))
def f62.D (k : Nat) : f62.L → Option (Int × (List S58) × (List S58) × (List S63))
  | .l9 q3 q4 q5 q6 x41 x42 b0_0 b0_1 b0_2 => f62.l9 k q3 q4 q5 q6 x41 x42 b0_0 b0_1 b0_2
def f62.start (k : Nat) (a b : List S58) (c : List S63) (d e : ByteArray) : PT (Int × (List S58) × (List S58) × (List S63)) f62.L := .call _ (f55 k a b c) fun t1 => .ite (t1 = true) (fun h1 => .need' (d.size + 4 ≤ 9223372036854775807) (d.size + (⟨#[46, 110, 101, 119]⟩ : ByteArray).size ≤ 9223372036854775807) tv fun h2 => .call _ (f60 k a (d ++ (⟨#[46, 110, 101, 119]⟩ : ByteArray))) fun t2 => .ite (0 ≤ t2) (fun h3 => .triv (2 = ([(⟨1, (d ++ (⟨#[46, 110, 101, 119]⟩ : ByteArray)), (⟨#[]⟩ : ByteArray), e⟩ : S63), (⟨2, (d ++ (⟨#[46, 110, 101, 119]⟩ : ByteArray)), d, (⟨#[]⟩ : ByteArray)⟩ : S63)] : List S63).length) tv <| .triv (1 = ([(⟨3, (d ++ (⟨#[46, 110, 101, 119]⟩ : ByteArray)), (⟨#[]⟩ : ByteArray), (⟨#[]⟩ : ByteArray)⟩ : S63)] : List S63).length) tv <| .call _ (f87 k 0 ([(⟨1, (d ++ (⟨#[46, 110, 101, 119]⟩ : ByteArray)), (⟨#[]⟩ : ByteArray), e⟩ : S63), (⟨2, (d ++ (⟨#[46, 110, 101, 119]⟩ : ByteArray)), d, (⟨#[]⟩ : ByteArray)⟩ : S63)] : List S63) ([(⟨3, (d ++ (⟨#[46, 110, 101, 119]⟩ : ByteArray)), (⟨#[]⟩ : ByteArray), (⟨#[]⟩ : ByteArray)⟩ : S63)] : List S63)) fun t3 => .call _ (f58 k a b c) fun t4 => .tr t3.length <| .tr t4.1.length <| .tr t4.2.1.length <| .tr t4.2.2.length <| .jump (.l9 t3 t4.1 t4.2.1 t4.2.2 (t3.length : Int) 0 a b c)) (fun h3 => .call _ (f58 k a b c) fun t7 => .triv (2 = ([(⟨1, (d ++ (⟨#[46, 110, 101, 119]⟩ : ByteArray)), (⟨#[]⟩ : ByteArray), e⟩ : S63), (⟨2, (d ++ (⟨#[46, 110, 101, 119]⟩ : ByteArray)), d, (⟨#[]⟩ : ByteArray)⟩ : S63)] : List S63).length) tv <| .tr t7.1.length <| .tr t7.2.1.length <| .tr t7.2.2.length <| .jump (.l9 ([(⟨1, (d ++ (⟨#[46, 110, 101, 119]⟩ : ByteArray)), (⟨#[]⟩ : ByteArray), e⟩ : S63), (⟨2, (d ++ (⟨#[46, 110, 101, 119]⟩ : ByteArray)), d, (⟨#[]⟩ : ByteArray)⟩ : S63)] : List S63) t7.1 t7.2.1 t7.2.2 2 0 a b c))) (fun h1 => .triv (0 = ([] : List S58).length) tv <| .triv (0 = ([] : List S58).length) tv <| .triv (0 = ([] : List S63).length) tv <| .ret (1, ([] : List S58), ([] : List S58), ([] : List S63)))
def f62.o : (Int × (List S58) × (List S58) × (List S63)) → V El × List (O El) := fun r => (.tup [.agg [.win 0 true (.l 0) (.d 0 r.2.1.length), .win 1 true (.l 0) (.d 0 r.2.2.1.length), .win 2 true (.l 0) (.d 0 r.2.2.2.length)], .id .i64 0 r.1], [.row true true true 0 3 r.2.1 none, .row true true true 0 3 r.2.2.1 none, .row true true true 0 4 r.2.2.2 none])
abbrev sf62 (k : Nat) : List (V G.El) → List (O G.El) → Q G.El (V G.El × List (O G.El)) := fun as' os' => lT os' <| na as' argA fun b' as' => nc b' (argL 3) fun a b' => nc b' (argL 3) fun b b' => nc b' (argL 4) fun c b' => argT b' <| na as' argS fun d as' => na as' argS fun e as' => lT as' <| .call _ (f62 k a b c d e) fun r => .ret (f62.o r)
def f63.start (k : Nat) (a b : List S58) (c : List S63) : PT ((List S58) × (List S58) × (List S63)) Empty := .call _ (f55 k a b c) fun t1 => .ite (t1 = true) (fun h1 => .callh _ (f82 k a) fun t2 ht2 => .recall _ (f82 k a) t2 ht2 <| .tr t2.length <| .tr t2.length <| .triv (0 = ([] : List S63).length) tv <| .ret (t2, t2, ([] : List S63))) (fun h1 => .triv (0 = ([] : List S58).length) tv <| .triv (0 = ([] : List S58).length) tv <| .triv (0 = ([] : List S63).length) tv <| .ret (([] : List S58), ([] : List S58), ([] : List S63)))
def f63.o : ((List S58) × (List S58) × (List S63)) → V El × List (O El) := fun r => (.agg [.win 0 true (.l 0) (.d 0 r.1.length), .win 1 true (.l 0) (.d 0 r.2.1.length), .win 2 true (.l 0) (.d 0 r.2.2.length)], [.row true true true 0 3 r.1 none, .row true true true 0 3 r.2.1 none, .row true true true 0 4 r.2.2 none])
abbrev sf63 (k : Nat) : List (V G.El) → List (O G.El) → Q G.El (V G.El × List (O G.El)) := fun as' os' => lT os' <| na as' argA fun b' as' => nc b' (argL 3) fun a b' => nc b' (argL 3) fun b b' => nc b' (argL 4) fun c b' => argT b' <| lT as' <| .call _ (f63 k a b c) fun r => .ret (f63.o r)
inductive f31.L where
  | l20 (q3 : List S58) (q4 : List S58) (q5 : List S63) (x98 : List S61) (x99 : Int) (x100 : Int) (b0_0 : List S58) (b0_1 : List S58) (b0_2 : List S63)
def f31.st : f31.L → Nat × S El
  | .l20 q3 q4 q5 x98 x99 x100 b0_0 b0_1 b0_2 => (20, ⟨121, .dead, [(3, .ptr 0 (.l 0) 0), (6, .ptr 1 (.l 0) 0), (15, .ptr 2 (.l 0) 0), (98, .sl 5 x98 []), (99, .id .i64 100 x99), (100, .id .i64 101 x100)], [(0, .box true true 0 3 true [.sl 3 b0_0 [], .sl 3 b0_1 [], .sl 4 b0_2 []]), (1, .box true true 0 3 true [.nil, .nil, .nil]), (2, .box true true 0 3 true [.win 3 true (.l 0) (.d 0 q3.length), .win 4 true (.l 0) (.d 0 q4.length), .win 5 true (.l 0) (.d 0 q5.length)]), (3, .row true true true 0 3 q3 none), (4, .row true true true 0 3 q4 none), (5, .row true true true 0 4 q5 none)], 6, 0⟩)
def f31.blk (k : Nat) : f31.L → PT (Int × (List S58) × (List S58) × (List S63)) f31.L
  | .l20 q3 q4 q5 x98 x99 x100 b0_0 b0_1 b0_2 => .ite (x100 < x99) (fun h16 => .need (0 ≤ x100) fun h17 => .need (x100 < (x98.length : Int)) fun h18 => .call _ (f65 k ((at' x98 x100).f0) ((at' x98 x100).f1) ((at' x98 x100).f2)) fun t12 => .tr q3.length <| .tr q4.length <| .tr q5.length <| .call _ (f64 k q3 q4 q5 1 (⟨#[108, 111, 103]⟩ : ByteArray) (⟨#[]⟩ : ByteArray) t12) fun t13 => .ite (t13.1 = 0) (fun h19 => .tr t13.2.1.length <| .tr t13.2.2.1.length <| .tr t13.2.2.2.length <| .jump (.l20 t13.2.1 t13.2.2.1 t13.2.2.2 x98 x99 (IntKind.i64.wrap (x100 + 1)) b0_0 b0_1 b0_2)) (fun h19 => .call _ (f58 k b0_0 b0_1 b0_2) fun t14 => .tr t14.1.length <| .tr t14.2.1.length <| .tr t14.2.2.length <| .ret (t13.1, t14.1, t14.2.1, t14.2.2))) (fun h16 => .tr q3.length <| .tr q4.length <| .tr q5.length <| .call _ (f63 k q3 q4 q5) fun t15 => .tr t15.1.length <| .tr t15.2.1.length <| .tr t15.2.2.length <| .ret (0, t15.1, t15.2.1, t15.2.2))
def f31.D (k : Nat) : f31.L → Option (Int × (List S58) × (List S58) × (List S63))
  | .l20 q3 q4 q5 x98 x99 x100 b0_0 b0_1 b0_2 => f31.l20 k q3 q4 q5 x98 x99 x100 b0_0 b0_1 b0_2
def f31.start (k : Nat) (a b : List S58) (c : List S63) (d : Int) (e : List S61) : PT (Int × (List S58) × (List S58) × (List S63)) f31.L := .call _ (f55 k a b c) fun t1 => .ite (t1 = true) (fun h1 => .call _ (f56 k a b c) fun t2 => .ite (t2.2.2.1 = true) (fun h2 => .th h2 <| .th h2 <| .th h2 <| .th h2 <| .call _ (f57 k d 0 (t2.2.2.2.length : Int)) fun t3 => .th h2 <| .th h2 <| .ite (t3 = true) (fun h3 => .need (0 ≤ d) fun h4 => .need (d ≤ (t2.2.2.2.length : Int)) fun h5 => .triv (d.toNat ≤ t2.2.2.2.length) tv <| .triv (0 = ([] : List S61).length) tv <| .need (d.toNat * 32 ≤ 70368744177664) fun h6 => .need (d.toNat ≤ 70368744177664) fun h7 => .triv (d.toNat = (t2.2.2.2.take d.toNat).length) tv <| .need ((d.toNat + e.length) * 32 ≤ 70368744177664) fun h8 => .need ((d.toNat + e.length) ≤ 70368744177664) fun h9 => .triv ((d.toNat + e.length) = ((t2.2.2.2.take d.toNat) ++ e).length) tv <| .call _ (f59 k t2.1 t2.2.1 ((t2.2.2.2.take d.toNat) ++ e)) fun t4 => .ite (t4 = true) (fun h10 => .call _ (f60 k a (⟨#[108, 111, 103]⟩ : ByteArray)) fun t5 => .ite (0 ≤ t5) (fun h11 => .th h11 <| .need (t5 < (a.length : Int)) fun h12 => .ite (d < (t2.2.2.2.length : Int)) (fun h13 => .th h13 <| .th h13 <| .th h13 <| .th h13 <| .th h13 <| .triv ((d.toNat + e.length) = ((t2.2.2.2.take d.toNat) ++ e).length) tv <| .call _ (f61 k ((t2.2.2.2.take d.toNat) ++ e)) fun t6 => .call _ (f62 k a b c (⟨#[108, 111, 103]⟩ : ByteArray) t6) fun t7 => .ite (t7.1 = 0) (fun h14 => .tr t7.2.1.length <| .tr t7.2.2.1.length <| .tr t7.2.2.2.length <| .call _ (f63 k t7.2.1 t7.2.2.1 t7.2.2.2) fun t8 => .tr t8.1.length <| .tr t8.2.1.length <| .tr t8.2.2.length <| .ret (0, t8.1, t8.2.1, t8.2.2)) (fun h14 => .call _ (f58 k a b c) fun t9 => .tr t9.1.length <| .tr t9.2.1.length <| .tr t9.2.2.length <| .ret (t7.1, t9.1, t9.2.1, t9.2.2))) (fun h13 => .th h13 <| .th h13 <| .th h13 <| .tr t2.2.2.2.length <| .call _ (f61 k t2.2.2.2) fun t10 => .th h13 <| .th h13 <| .ite ((strEq ((at' a t5).f1) t10) = true) (fun h15 => .call _ (f58 k a b c) fun t11 => .tr t11.1.length <| .tr t11.2.1.length <| .tr t11.2.2.length <| .jump (.l20 t11.1 t11.2.1 t11.2.2 e (e.length : Int) 0 a b c)) (fun h15 => .triv ((d.toNat + e.length) = ((t2.2.2.2.take d.toNat) ++ e).length) tv <| .call _ (f61 k ((t2.2.2.2.take d.toNat) ++ e)) fun t16 => .call _ (f62 k a b c (⟨#[108, 111, 103]⟩ : ByteArray) t16) fun t17 => .ite (t17.1 = 0) (fun h20 => .tr t17.2.1.length <| .tr t17.2.2.1.length <| .tr t17.2.2.2.length <| .call _ (f63 k t17.2.1 t17.2.2.1 t17.2.2.2) fun t18 => .tr t18.1.length <| .tr t18.2.1.length <| .tr t18.2.2.length <| .ret (0, t18.1, t18.2.1, t18.2.2)) (fun h20 => .call _ (f58 k a b c) fun t19 => .tr t19.1.length <| .tr t19.2.1.length <| .tr t19.2.2.length <| .ret (t17.1, t19.1, t19.2.1, t19.2.2))))) (fun h11 => .ite (d < (t2.2.2.2.length : Int)) (fun h21 => .th h21 <| .th h21 <| .th h21 <| .th h21 <| .th h21 <| .triv ((d.toNat + e.length) = ((t2.2.2.2.take d.toNat) ++ e).length) tv <| .call _ (f61 k ((t2.2.2.2.take d.toNat) ++ e)) fun t20 => .call _ (f62 k a b c (⟨#[108, 111, 103]⟩ : ByteArray) t20) fun t21 => .ite (t21.1 = 0) (fun h22 => .tr t21.2.1.length <| .tr t21.2.2.1.length <| .tr t21.2.2.2.length <| .call _ (f63 k t21.2.1 t21.2.2.1 t21.2.2.2) fun t22 => .tr t22.1.length <| .tr t22.2.1.length <| .tr t22.2.2.length <| .ret (0, t22.1, t22.2.1, t22.2.2)) (fun h22 => .call _ (f58 k a b c) fun t23 => .tr t23.1.length <| .tr t23.2.1.length <| .tr t23.2.2.length <| .ret (t21.1, t23.1, t23.2.1, t23.2.2))) (fun h21 => .th h21 <| .th h21 <| .th h21 <| .tr t2.2.2.2.length <| .call _ (f61 k t2.2.2.2) fun t24 => .th h21 <| .th h21 <| .ite ((strEq (⟨#[]⟩ : ByteArray) t24) = true) (fun h23 => .call _ (f58 k a b c) fun t25 => .tr t25.1.length <| .tr t25.2.1.length <| .tr t25.2.2.length <| .jump (.l20 t25.1 t25.2.1 t25.2.2 e (e.length : Int) 0 a b c)) (fun h23 => .triv ((d.toNat + e.length) = ((t2.2.2.2.take d.toNat) ++ e).length) tv <| .call _ (f61 k ((t2.2.2.2.take d.toNat) ++ e)) fun t26 => .call _ (f62 k a b c (⟨#[108, 111, 103]⟩ : ByteArray) t26) fun t27 => .ite (t27.1 = 0) (fun h24 => .tr t27.2.1.length <| .tr t27.2.2.1.length <| .tr t27.2.2.2.length <| .call _ (f63 k t27.2.1 t27.2.2.1 t27.2.2.2) fun t28 => .tr t28.1.length <| .tr t28.2.1.length <| .tr t28.2.2.length <| .ret (0, t28.1, t28.2.1, t28.2.2)) (fun h24 => .call _ (f58 k a b c) fun t29 => .tr t29.1.length <| .tr t29.2.1.length <| .tr t29.2.2.length <| .ret (t27.1, t29.1, t29.2.1, t29.2.2)))))) (fun h10 => .call _ (f58 k a b c) fun t30 => .tr t30.1.length <| .tr t30.2.1.length <| .tr t30.2.2.length <| .ret (11, t30.1, t30.2.1, t30.2.2))) (fun h3 => .call _ (f58 k a b c) fun t31 => .tr t31.1.length <| .tr t31.2.1.length <| .tr t31.2.2.length <| .ret (11, t31.1, t31.2.1, t31.2.2))) (fun h2 => .th h2 <| .th h2 <| .th h2 <| .th h2 <| .th h2 <| .th h2 <| .call _ (f58 k a b c) fun t32 => .tr t32.1.length <| .tr t32.2.1.length <| .tr t32.2.2.length <| .ret (11, t32.1, t32.2.1, t32.2.2))) (fun h1 => .triv (0 = ([] : List S58).length) tv <| .triv (0 = ([] : List S58).length) tv <| .triv (0 = ([] : List S63).length) tv <| .ret (1, ([] : List S58), ([] : List S58), ([] : List S63)))
def f31.o : (Int × (List S58) × (List S58) × (List S63)) → V El × List (O El) := fun r => (.tup [.agg [.win 0 true (.l 0) (.d 0 r.2.1.length), .win 1 true (.l 0) (.d 0 r.2.2.1.length), .win 2 true (.l 0) (.d 0 r.2.2.2.length)], .id .i64 0 r.1], [.row true true true 0 3 r.2.1 none, .row true true true 0 3 r.2.2.1 none, .row true true true 0 4 r.2.2.2 none])
abbrev sf31 (k : Nat) : List (V G.El) → List (O G.El) → Q G.El (V G.El × List (O G.El)) := fun as' os' => lT os' <| na as' argA fun b' as' => nc b' (argL 3) fun a b' => nc b' (argL 3) fun b b' => nc b' (argL 4) fun c b' => argT b' <| na as' (argI .i64) fun d as' => na as' (argL 5) fun e as' => lT as' <| .call _ (f31 k a b c d e) fun r => .ret (f31.o r)
def f9.start (k : Nat) (a b : List S58) (c : List S63) (d : Int) (e : List S61) : PT (Int × (List S58) × (List S58) × (List S63)) Empty := .call _ (f31 k a b c d e) fun t1 => .tr t1.2.1.length <| .tr t1.2.2.1.length <| .tr t1.2.2.2.length <| .ret (t1.1, t1.2.1, t1.2.2.1, t1.2.2.2)
def f9.o : (Int × (List S58) × (List S58) × (List S63)) → V El × List (O El) := fun r => (.tup [.agg [.win 0 true (.l 0) (.d 0 r.2.1.length), .win 1 true (.l 0) (.d 0 r.2.2.1.length), .win 2 true (.l 0) (.d 0 r.2.2.2.length)], .id .i64 0 r.1], [.row true true true 0 3 r.2.1 none, .row true true true 0 3 r.2.2.1 none, .row true true true 0 4 r.2.2.2 none])
abbrev sf9 (k : Nat) : List (V G.El) → List (O G.El) → Q G.El (V G.El × List (O G.El)) := fun as' os' => lT os' <| na as' argA fun b' as' => nc b' (argL 3) fun a b' => nc b' (argL 3) fun b b' => nc b' (argL 4) fun c b' => argT b' <| na as' (argI .i64) fun d as' => na as' (argL 5) fun e as' => lT as' <| .call _ (f9 k a b c d e) fun r => .ret (f9.o r)
def f66.start (k : Nat) (a b c d : ByteArray) : PT (Bool) Empty := .ite ((strEq a c) = true) (fun h1 => .ite ((strEq b d) = true) (fun h2 => .ret true) (fun h2 => .ret false)) (fun h1 => .ret false)
def f66.o : (Bool) → V El × List (O El) := fun r => (.bb false r, [])
abbrev sf66 (k : Nat) : List (V G.El) → List (O G.El) → Q G.El (V G.El × List (O G.El)) := fun as' os' => lT os' <| na as' argA fun b' as' => nc b' argS fun a b' => nc b' argS fun b b' => argT b' <| na as' argA fun b' as' => nc b' argS fun c b' => nc b' argS fun d b' => argT b' <| lT as' <| .call _ (f66 k a b c d) fun r => .ret (f66.o r)
inductive f32.L where
  | l4 (x0 : List S58) (x1 : List S58) (x5 : Int)
def f32.st : f32.L → Nat × S El
  | .l4 x0 x1 x5 => (4, ⟨27, .dead, [(0, .sl 3 x0 []), (1, .sl 3 x1 []), (5, .id .i64 6 x5)], [], 0, 0⟩)
def f32.blk (k : Nat) : f32.L → PT (Bool) f32.L
  | .l4 x0 x1 x5 => .ite (x5 < (x0.length : Int)) (fun h2 => .need (0 ≤ x5) fun h3 => .th h2 <| .th h3 <| .need (x5 < (x1.length : Int)) fun h4 => .call _ (f66 k ((at' x0 x5).f0) ((at' x0 x5).f1) ((at' x1 x5).f0) ((at' x1 x5).f1)) fun t1 => .ite (t1 = true) (fun h5 => .jump (.l4 x0 x1 (IntKind.i64.wrap (x5 + 1)))) (fun h5 => .ret false)) (fun h2 => .ret true)
def f32.D (k : Nat) : f32.L → Option (Bool)
  | .l4 x0 x1 x5 => f32.l4 k x0 x1 x5
def f32.start (k : Nat) (a b : List S58) : PT (Bool) f32.L := .ite ((a.length : Int) = (b.length : Int)) (fun h1 => .jump (.l4 a b 0)) (fun h1 => .ret false)
def f32.o : (Bool) → V El × List (O El) := fun r => (.bb false r, [])
abbrev sf32 (k : Nat) : List (V G.El) → List (O G.El) → Q G.El (V G.El × List (O G.El)) := fun as' os' => lT os' <| na as' (argL 3) fun a as' => na as' (argL 3) fun b as' => lT as' <| .call _ (f32 k a b) fun r => .ret (f32.o r)
def f67.start (k : Nat) (a : Int) (b c d : ByteArray) (e : Int) (g i j : ByteArray) : PT (Bool) Empty := .ite (a = e) (fun h1 => .ite ((strEq b g) = true) (fun h2 => .ite ((strEq c i) = true) (fun h3 => .ite ((strEq d j) = true) (fun h4 => .ret true) (fun h4 => .ret false)) (fun h3 => .ret false)) (fun h2 => .ret false)) (fun h1 => .ret false)
def f67.o : (Bool) → V El × List (O El) := fun r => (.bb false r, [])
abbrev sf67 (k : Nat) : List (V G.El) → List (O G.El) → Q G.El (V G.El × List (O G.El)) := fun as' os' => lT os' <| na as' argA fun b' as' => nc b' (argI .i64) fun a b' => nc b' argS fun b b' => nc b' argS fun c b' => nc b' argS fun d b' => argT b' <| na as' argA fun b' as' => nc b' (argI .i64) fun e b' => nc b' argS fun g b' => nc b' argS fun i b' => nc b' argS fun j b' => argT b' <| lT as' <| .call _ (f67 k a b c d e g i j) fun r => .ret (f67.o r)
inductive f33.L where
  | l4 (x0 : List S63) (x1 : List S63) (x5 : Int)
def f33.st : f33.L → Nat × S El
  | .l4 x0 x1 x5 => (4, ⟨27, .dead, [(0, .sl 4 x0 []), (1, .sl 4 x1 []), (5, .id .i64 6 x5)], [], 0, 0⟩)
def f33.blk (k : Nat) : f33.L → PT (Bool) f33.L
  | .l4 x0 x1 x5 => .ite (x5 < (x0.length : Int)) (fun h2 => .need (0 ≤ x5) fun h3 => .th h2 <| .th h3 <| .need (x5 < (x1.length : Int)) fun h4 => .call _ (f67 k ((at' x0 x5).f0) ((at' x0 x5).f1) ((at' x0 x5).f2) ((at' x0 x5).f3) ((at' x1 x5).f0) ((at' x1 x5).f1) ((at' x1 x5).f2) ((at' x1 x5).f3)) fun t1 => .ite (t1 = true) (fun h5 => .jump (.l4 x0 x1 (IntKind.i64.wrap (x5 + 1)))) (fun h5 => .ret false)) (fun h2 => .ret true)
def f33.D (k : Nat) : f33.L → Option (Bool)
  | .l4 x0 x1 x5 => f33.l4 k x0 x1 x5
def f33.start (k : Nat) (a b : List S63) : PT (Bool) f33.L := .ite ((a.length : Int) = (b.length : Int)) (fun h1 => .jump (.l4 a b 0)) (fun h1 => .ret false)
def f33.o : (Bool) → V El × List (O El) := fun r => (.bb false r, [])
abbrev sf33 (k : Nat) : List (V G.El) → List (O G.El) → Q G.El (V G.El × List (O G.El)) := fun as' os' => lT os' <| na as' (argL 4) fun a as' => na as' (argL 4) fun b as' => lT as' <| .call _ (f33 k a b) fun r => .ret (f33.o r)
def f10.start (k : Nat) (a b : List S58) (c : List S63) (d e : List S58) (g : List S63) : PT (Bool) Empty := .call _ (f32 k a d) fun t1 => .ite (t1 = true) (fun h1 => .call _ (f32 k b e) fun t2 => .ite (t2 = true) (fun h2 => .call _ (f33 k c g) fun t3 => .ite (t3 = true) (fun h3 => .ret true) (fun h3 => .ret false)) (fun h2 => .ret false)) (fun h1 => .ret false)
def f10.o : (Bool) → V El × List (O El) := fun r => (.bb false r, [])
abbrev sf10 (k : Nat) : List (V G.El) → List (O G.El) → Q G.El (V G.El × List (O G.El)) := fun as' os' => lT os' <| na as' argA fun b' as' => nc b' (argL 3) fun a b' => nc b' (argL 3) fun b b' => nc b' (argL 4) fun c b' => argT b' <| na as' argA fun b' as' => nc b' (argL 3) fun d b' => nc b' (argL 3) fun e b' => nc b' (argL 4) fun g b' => argT b' <| lT as' <| .call _ (f10 k a b c d e g) fun r => .ret (f10.o r)
def f34.start (k : Nat) (a b : Int) (c : ByteArray) (d e : Int) (g : ByteArray) : PT (Bool) Empty := .ite (a = d) (fun h1 => .ite (b = e) (fun h2 => .ite ((strEq c g) = true) (fun h3 => .ret true) (fun h3 => .ret false)) (fun h2 => .ret false)) (fun h1 => .ret false)
def f34.o : (Bool) → V El × List (O El) := fun r => (.bb false r, [])
abbrev sf34 (k : Nat) : List (V G.El) → List (O G.El) → Q G.El (V G.El × List (O G.El)) := fun as' os' => lT os' <| na as' argA fun b' as' => nc b' (argI .i64) fun a b' => nc b' (argI .i64) fun b b' => nc b' argS fun c b' => argT b' <| na as' argA fun b' as' => nc b' (argI .i64) fun d b' => nc b' (argI .i64) fun e b' => nc b' argS fun g b' => argT b' <| lT as' <| .call _ (f34 k a b c d e g) fun r => .ret (f34.o r)
inductive f11.L where
  | l4 (x0 : List S61) (x1 : List S61) (x5 : Int)
def f11.st : f11.L → Nat × S El
  | .l4 x0 x1 x5 => (4, ⟨27, .dead, [(0, .sl 5 x0 []), (1, .sl 5 x1 []), (5, .id .i64 6 x5)], [], 0, 0⟩)
def f11.blk (k : Nat) : f11.L → PT (Bool) f11.L
  | .l4 x0 x1 x5 => .ite (x5 < (x0.length : Int)) (fun h2 => .need (0 ≤ x5) fun h3 => .th h2 <| .th h3 <| .need (x5 < (x1.length : Int)) fun h4 => .call _ (f34 k ((at' x0 x5).f0) ((at' x0 x5).f1) ((at' x0 x5).f2) ((at' x1 x5).f0) ((at' x1 x5).f1) ((at' x1 x5).f2)) fun t1 => .ite (t1 = true) (fun h5 => .jump (.l4 x0 x1 (IntKind.i64.wrap (x5 + 1)))) (fun h5 => .ret false)) (fun h2 => .ret true)
def f11.D (k : Nat) : f11.L → Option (Bool)
  | .l4 x0 x1 x5 => f11.l4 k x0 x1 x5
def f11.start (k : Nat) (a b : List S61) : PT (Bool) f11.L := .ite ((a.length : Int) = (b.length : Int)) (fun h1 => .jump (.l4 a b 0)) (fun h1 => .ret false)
def f11.o : (Bool) → V El × List (O El) := fun r => (.bb false r, [])
abbrev sf11 (k : Nat) : List (V G.El) → List (O G.El) → Q G.El (V G.El × List (O G.El)) := fun as' os' => lT os' <| na as' (argL 5) fun a as' => na as' (argL 5) fun b as' => lT as' <| .call _ (f11 k a b) fun r => .ret (f11.o r)
inductive f37.L where
  | l4 (x0 : Int) (x3 : ByteArray)
def f37.st : f37.L → Nat × S El
  | .l4 x0 x3 => (4, ⟨20, .dead, [(0, .id .i64 1 x0), (3, .s x3)], [], 0, 0⟩)
def f37.blk (k : Nat) : f37.L → PT (ByteArray) f37.L
  | .l4 x0 x3 => .ite (0 < x0) (fun h2 => .triv (1 = ([(IntKind.u8.wrap (IntKind.i64.wrap (48 + (x0.tmod 10))))] : List Int).length) tv <| .need' (1 + x3.size ≤ 9223372036854775807) ((strOf ([(IntKind.u8.wrap (IntKind.i64.wrap (48 + (x0.tmod 10))))] : List Int)).size + x3.size ≤ 9223372036854775807) tv fun h3 => .jump (.l4 (IntKind.i64.wrap (x0.tdiv 10)) ((strOf ([(IntKind.u8.wrap (IntKind.i64.wrap (48 + (x0.tmod 10))))] : List Int)) ++ x3))) (fun h2 => .need' (1 + x3.size ≤ 9223372036854775807) ((⟨#[109]⟩ : ByteArray).size + x3.size ≤ 9223372036854775807) tv fun h4 => .ret ((⟨#[109]⟩ : ByteArray) ++ x3))
def f37.D (k : Nat) : f37.L → Option (ByteArray)
  | .l4 x0 x3 => f37.l4 k x0 x3
def f37.start (k : Nat) (a : Int) : PT (ByteArray) f37.L := .ite (a ≤ 0) (fun h1 => .ret (⟨#[109, 48]⟩ : ByteArray)) (fun h1 => .jump (.l4 a (⟨#[]⟩ : ByteArray)))
def f37.o : (ByteArray) → V El × List (O El) := fun r => (.s r, [])
abbrev sf37 (k : Nat) : List (V G.El) → List (O G.El) → Q G.El (V G.El × List (O G.El)) := fun as' os' => lT os' <| na as' (argI .i64) fun a as' => lT as' <| .call _ (f37 k a) fun r => .ret (f37.o r)
inductive f35.L where
  | l2 (q0 : List S58) (x1 : Int) (x5 : Int)
def f35.st : f35.L → Nat × S El
  | .l2 q0 x1 x5 => (2, ⟨29, .dead, [(0, .win 0 true (.l 0) (.d 0 q0.length)), (1, .id .i64 2 x1), (5, .id .i64 6 x5)], [(0, .row true true true 0 3 q0 none)], 1, 1⟩)
def f35.blk (k : Nat) : f35.L → PT (Int × (List S58)) f35.L
  | .l2 q0 x1 x5 => .ite (x5 < (q0.length : Int)) (fun h1 => .call _ (f37 k x1) fun t1 => .need (0 ≤ x5) fun h2 => .th h1 <| .triv (x5.toNat < q0.length) tv <| .call _ (f37 k (IntKind.i64.wrap (x1 + 1))) fun t2 => .th h2 <| .th h1 <| .triv (x5.toNat < q0.length) tv <| .triv (x5.toNat = x5.toNat) rfl <| .tr q0.length <| .jump (.l2 (q0.set x5.toNat (⟨t1, t2⟩ : S58)) (IntKind.i64.wrap ((IntKind.i64.wrap (x1 + 1)) + 1)) (IntKind.i64.wrap (x5 + 1)))) (fun h1 => .ret (x1, q0))
def f35.D (k : Nat) : f35.L → Option (Int × (List S58))
  | .l2 q0 x1 x5 => f35.l2 k q0 x1 x5
def f35.start (k : Nat) (a : Int) (o0 : List S58) : PT (Int × (List S58)) f35.L := .tr o0.length <| .jump (.l2 o0 a 0)
def f35.o : (Int × (List S58)) → V El × List (O El) := fun r => (.id .i64 0 r.1, [.row true true true 0 3 r.2 none])
abbrev sf35 (k : Nat) : List (V G.El) → List (O G.El) → Q G.El (V G.El × List (O G.El)) := fun as' os' => lH os' fun x0' os' => lT os' <| argR 3 x0' fun o0 => na0 as' (argW 0 o0.length) fun as' => na as' (argI .i64) fun a as' => lT as' <| .call _ (f35 k a o0) fun r => .ret (.id .i64 0 r.1, [.row true true false 0 3 r.2 none])
inductive f36.L where
  | l2 (q0 : List S63) (x1 : Int) (x5 : Int)
def f36.st : f36.L → Nat × S El
  | .l2 q0 x1 x5 => (2, ⟨44, .dead, [(0, .win 0 true (.l 0) (.d 0 q0.length)), (1, .id .i64 2 x1), (5, .id .i64 6 x5)], [(0, .row true true true 0 4 q0 none)], 1, 1⟩)
def f36.blk (k : Nat) : f36.L → PT (Int × (List S63)) f36.L
  | .l2 q0 x1 x5 => .ite (x5 < (q0.length : Int)) (fun h1 => .need (0 ≤ x5) fun h2 => .th h1 <| .triv (x5.toNat < q0.length) tv <| .call _ (f37 k (IntKind.i64.wrap (x1 + 1))) fun t1 => .th h2 <| .th h1 <| .triv (x5.toNat < q0.length) tv <| .triv (x5.toNat = x5.toNat) rfl <| .call _ (f37 k (IntKind.i64.wrap ((IntKind.i64.wrap (x1 + 1)) + 1))) fun t2 => .th h2 <| .th h1 <| .triv (x5.toNat < q0.length) tv <| .triv (x5.toNat = x5.toNat) rfl <| .call _ (f37 k (IntKind.i64.wrap ((IntKind.i64.wrap ((IntKind.i64.wrap (x1 + 1)) + 1)) + 1))) fun t3 => .th h2 <| .th h1 <| .triv (x5.toNat < q0.length) tv <| .triv (x5.toNat = x5.toNat) rfl <| .tr q0.length <| .jump (.l2 (q0.set x5.toNat (⟨x1, t1, t2, t3⟩ : S63)) (IntKind.i64.wrap ((IntKind.i64.wrap ((IntKind.i64.wrap ((IntKind.i64.wrap (x1 + 1)) + 1)) + 1)) + 1)) (IntKind.i64.wrap (x5 + 1)))) (fun h1 => .ret (x1, q0))
def f36.D (k : Nat) : f36.L → Option (Int × (List S63))
  | .l2 q0 x1 x5 => f36.l2 k q0 x1 x5
def f36.start (k : Nat) (a : Int) (o0 : List S63) : PT (Int × (List S63)) f36.L := .tr o0.length <| .jump (.l2 o0 a 0)
def f36.o : (Int × (List S63)) → V El × List (O El) := fun r => (.id .i64 0 r.1, [.row true true true 0 4 r.2 none])
abbrev sf36 (k : Nat) : List (V G.El) → List (O G.El) → Q G.El (V G.El × List (O G.El)) := fun as' os' => lH os' fun x0' os' => lT os' <| argR 4 x0' fun o0 => na0 as' (argW 0 o0.length) fun as' => na as' (argI .i64) fun a as' => lT as' <| .call _ (f36 k a o0) fun r => .ret (.id .i64 0 r.1, [.row true true false 0 4 r.2 none])
def f12.start (k : Nat) (a : Int) (o0 o1 : List S58) (o2 : List S63) : PT (Int × (List S58) × (List S58) × (List S63)) Empty := .tr o0.length <| .call _ (f35 k a o0) fun t1 => .tr o1.length <| .call _ (f35 k t1.1 o1) fun t2 => .tr o2.length <| .call _ (f36 k t2.1 o2) fun t3 => .ret (t3.1, t1.2, t2.2, t3.2)
def f12.o : (Int × (List S58) × (List S58) × (List S63)) → V El × List (O El) := fun r => (.id .i64 0 r.1, [.row true true true 0 3 r.2.1 none, .row true true true 0 3 r.2.2.1 none, .row true true true 0 4 r.2.2.2 none])
abbrev sf12 (k : Nat) : List (V G.El) → List (O G.El) → Q G.El (V G.El × List (O G.El)) := fun as' os' => lH os' fun x0' os' => lH os' fun x1' os' => lH os' fun x2' os' => lT os' <| argR 3 x0' fun o0 => argR 3 x1' fun o1 => argR 4 x2' fun o2 => na as' argA fun b' as' => nc0 b' (argW 0 o0.length) fun b' => nc0 b' (argW 1 o1.length) fun b' => nc0 b' (argW 2 o2.length) fun b' => argT b' <| na as' (argI .i64) fun a as' => lT as' <| .call _ (f12 k a o0 o1 o2) fun r => .ret (.id .i64 0 r.1, [.row true true false 0 3 r.2.1 none, .row true true false 0 3 r.2.2.1 none, .row true true false 0 4 r.2.2.2 none])
inductive f13.L where
  | l2 (q0 : List S61) (x1 : Int) (x5 : Int)
def f13.st : f13.L → Nat × S El
  | .l2 q0 x1 x5 => (2, ⟨35, .dead, [(0, .win 0 true (.l 0) (.d 0 q0.length)), (1, .id .i64 2 x1), (5, .id .i64 6 x5)], [(0, .row true true true 0 5 q0 none)], 1, 1⟩)
def f13.blk (k : Nat) : f13.L → PT (Int × (List S61)) f13.L
  | .l2 q0 x1 x5 => .ite (x5 < (q0.length : Int)) (fun h1 => .need (0 ≤ x5) fun h2 => .th h1 <| .triv (x5.toNat < q0.length) tv <| .th h2 <| .th h1 <| .triv (x5.toNat < q0.length) tv <| .triv (x5.toNat = x5.toNat) rfl <| .call _ (f37 k (IntKind.i64.wrap ((IntKind.i64.wrap (x1 + 1)) + 1))) fun t1 => .th h2 <| .th h1 <| .triv (x5.toNat < q0.length) tv <| .triv (x5.toNat = x5.toNat) rfl <| .tr q0.length <| .jump (.l2 (q0.set x5.toNat (⟨x1, (IntKind.i64.wrap (x1 + 1)), t1⟩ : S61)) (IntKind.i64.wrap ((IntKind.i64.wrap ((IntKind.i64.wrap (x1 + 1)) + 1)) + 1)) (IntKind.i64.wrap (x5 + 1)))) (fun h1 => .ret (x1, q0))
def f13.D (k : Nat) : f13.L → Option (Int × (List S61))
  | .l2 q0 x1 x5 => f13.l2 k q0 x1 x5
def f13.start (k : Nat) (a : Int) (o0 : List S61) : PT (Int × (List S61)) f13.L := .tr o0.length <| .jump (.l2 o0 a 0)
def f13.o : (Int × (List S61)) → V El × List (O El) := fun r => (.id .i64 0 r.1, [.row true true true 0 5 r.2 none])
abbrev sf13 (k : Nat) : List (V G.El) → List (O G.El) → Q G.El (V G.El × List (O G.El)) := fun as' os' => lH os' fun x0' os' => lT os' <| argR 5 x0' fun o0 => na0 as' (argW 0 o0.length) fun as' => na as' (argI .i64) fun a as' => lT as' <| .call _ (f13 k a o0) fun r => .ret (.id .i64 0 r.1, [.row true true false 0 5 r.2 none])
inductive f38.L where
  | l2 (x0 : List S58) (x1 : Int) (x5 : Int)
def f38.st : f38.L → Nat × S El
  | .l2 x0 x1 x5 => (2, ⟨33, .dead, [(0, .sl 3 x0 []), (1, .id .i64 2 x1), (5, .id .i64 6 x5)], [], 0, 0⟩)
def f38.blk (k : Nat) : f38.L → PT (Int) f38.L
  | .l2 x0 x1 x5 => .ite (x5 < (x0.length : Int)) (fun h1 => .need (0 ≤ x5) fun h2 => .th h1 <| .call _ (f37 k x1) fun t1 => .ite ((strEq ((at' x0 x5).f0) t1) = true) (fun h3 => .th h2 <| .th h1 <| .call _ (f37 k (IntKind.i64.wrap (x1 + 1))) fun t2 => .ite ((strEq ((at' x0 x5).f1) t2) = true) (fun h4 => .jump (.l2 x0 (IntKind.i64.wrap ((IntKind.i64.wrap (x1 + 1)) + 1)) (IntKind.i64.wrap (x5 + 1)))) (fun h4 => .ret (-1))) (fun h3 => .ret (-1))) (fun h1 => .ret x1)
def f38.D (k : Nat) : f38.L → Option (Int)
  | .l2 x0 x1 x5 => f38.l2 k x0 x1 x5
def f38.start (k : Nat) (a : List S58) (b : Int) : PT (Int) f38.L := .jump (.l2 a b 0)
def f38.o : (Int) → V El × List (O El) := fun r => (.id .i64 0 r, [])
abbrev sf38 (k : Nat) : List (V G.El) → List (O G.El) → Q G.El (V G.El × List (O G.El)) := fun as' os' => lT os' <| na as' (argL 3) fun a as' => na as' (argI .i64) fun b as' => lT as' <| .call _ (f38 k a b) fun r => .ret (f38.o r)
inductive f39.L where
  | l2 (x0 : List S63) (x1 : Int) (x5 : Int)
def f39.st : f39.L → Nat × S El
  | .l2 x0 x1 x5 => (2, ⟨52, .dead, [(0, .sl 4 x0 []), (1, .id .i64 2 x1), (5, .id .i64 6 x5)], [], 0, 0⟩)
def f39.blk (k : Nat) : f39.L → PT (Int) f39.L
  | .l2 x0 x1 x5 => .ite (x5 < (x0.length : Int)) (fun h1 => .need (0 ≤ x5) fun h2 => .th h1 <| .ite ((at' x0 x5).f0 = x1) (fun h3 => .th h2 <| .th h1 <| .call _ (f37 k (IntKind.i64.wrap (x1 + 1))) fun t1 => .ite ((strEq ((at' x0 x5).f1) t1) = true) (fun h4 => .th h2 <| .th h1 <| .call _ (f37 k (IntKind.i64.wrap ((IntKind.i64.wrap (x1 + 1)) + 1))) fun t2 => .ite ((strEq ((at' x0 x5).f2) t2) = true) (fun h5 => .th h2 <| .th h1 <| .call _ (f37 k (IntKind.i64.wrap ((IntKind.i64.wrap ((IntKind.i64.wrap (x1 + 1)) + 1)) + 1))) fun t3 => .ite ((strEq ((at' x0 x5).f3) t3) = true) (fun h6 => .jump (.l2 x0 (IntKind.i64.wrap ((IntKind.i64.wrap ((IntKind.i64.wrap ((IntKind.i64.wrap (x1 + 1)) + 1)) + 1)) + 1)) (IntKind.i64.wrap (x5 + 1)))) (fun h6 => .ret (-1))) (fun h5 => .ret (-1))) (fun h4 => .ret (-1))) (fun h3 => .ret (-1))) (fun h1 => .ret x1)
def f39.D (k : Nat) : f39.L → Option (Int)
  | .l2 x0 x1 x5 => f39.l2 k x0 x1 x5
def f39.start (k : Nat) (a : List S63) (b : Int) : PT (Int) f39.L := .jump (.l2 a b 0)
def f39.o : (Int) → V El × List (O El) := fun r => (.id .i64 0 r, [])
abbrev sf39 (k : Nat) : List (V G.El) → List (O G.El) → Q G.El (V G.El × List (O G.El)) := fun as' os' => lT os' <| na as' (argL 4) fun a as' => na as' (argI .i64) fun b as' => lT as' <| .call _ (f39 k a b) fun r => .ret (f39.o r)
def f14.start (k : Nat) (a b : List S58) (c : List S63) (d : Int) : PT (Int) Empty := .call _ (f38 k a d) fun t1 => .ite (t1 < 0) (fun h1 => .ret (-1)) (fun h1 => .call _ (f38 k b t1) fun t2 => .ite (t2 < 0) (fun h2 => .ret (-1)) (fun h2 => .call _ (f39 k c t2) fun t3 => .ite (t3 < 0) (fun h3 => .ret (-1)) (fun h3 => .ret t3)))
def f14.o : (Int) → V El × List (O El) := fun r => (.id .i64 0 r, [])
abbrev sf14 (k : Nat) : List (V G.El) → List (O G.El) → Q G.El (V G.El × List (O G.El)) := fun as' os' => lT os' <| na as' argA fun b' as' => nc b' (argL 3) fun a b' => nc b' (argL 3) fun b b' => nc b' (argL 4) fun c b' => argT b' <| na as' (argI .i64) fun d as' => lT as' <| .call _ (f14 k a b c d) fun r => .ret (f14.o r)
def f3.start (k : Nat) (a b : List S75) (c : List S77) (d : Int) (e : List S47) : PT (Bool) Empty := .call _ (f4 k a b c 1048576) fun t1 => .ite (t1 < 0) (fun h1 => .ret true) (fun h1 => .call _ (f5 k e t1) fun t2 => .ite (t2 < 0) (fun h2 => .ret true) (fun h2 => .callh _ (f7 k a b c) fun t3 ht3 => .callh _ (f8 k e) fun t4 ht4 => .tr t3.1.length <| .tr t3.2.1.length <| .tr t3.2.2.length <| .tr t4.length <| .call _ (f6 k t3.1 t3.2.1 t3.2.2 d t4) fun t5 => .recall _ (f7 k a b c) t3 ht3 <| .recall _ (f8 k e) t4 ht4 <| .tr t3.1.length <| .tr t3.2.1.length <| .tr t3.2.2.length <| .tr t4.length <| .callh _ (f9 k t3.1 t3.2.1 t3.2.2 d t4) fun t6 ht6 => .tr t6.2.1.length <| .tr t6.2.2.1.length <| .tr t6.2.2.2.length <| .tr t5.2.1.length <| .tr t5.2.2.1.length <| .tr t5.2.2.2.length <| .callh _ (f10 k t6.2.1 t6.2.2.1 t6.2.2.2 t5.2.1 t5.2.2.1 t5.2.2.2) fun t7 ht7 => .ite (t7 = true) (fun h3 => .th h3 <| .th h3 <| .th h3 <| .ite (t6.1 = t5.1) (fun h4 => .recall _ (f7 k a b c) t3 ht3 <| .tr t3.1.length <| .tr t3.2.1.length <| .tr t3.2.2.length <| .tr t3.1.length <| .tr t3.2.1.length <| .tr t3.2.2.length <| .call _ (f10 k t3.1 t3.2.1 t3.2.2 t3.1 t3.2.1 t3.2.2) fun t8 => .ite (t8 = true) (fun h5 => .recall _ (f8 k e) t4 ht4 <| .tr t4.length <| .tr t4.length <| .call _ (f11 k t4 t4) fun t9 => .ite (t9 = true) (fun h6 => .tr t3.1.length <| .tr t3.2.1.length <| .tr t3.2.2.length <| .call _ (f12 k 1 t3.1 t3.2.1 t3.2.2) fun t10 => .tr t4.length <| .call _ (f13 k t10.1 t4) fun t11 => .ite (t11.1 < 0) (fun h7 => .th h7 <| .th h7 <| .th h7 <| .th h7 <| .ret false) (fun h7 => .th h7 <| .th h7 <| .tr t6.2.1.length <| .tr t6.2.2.1.length <| .tr t6.2.2.2.length <| .tr t5.2.1.length <| .tr t5.2.2.1.length <| .tr t5.2.2.2.length <| .recall _ (f10 k t6.2.1 t6.2.2.1 t6.2.2.2 t5.2.1 t5.2.2.1 t5.2.2.2) t7 ht7 <| .th h7 <| .th h7 <| .th h3 <| .th h3 <| .th h3 <| .th h3 <| .th h4 <| .tr t6.2.1.length <| .tr t6.2.2.1.length <| .tr t6.2.2.2.length <| .call _ (f12 k 1 t6.2.1 t6.2.2.1 t6.2.2.2) fun t12 => .need (t6.2.1.length ≤ t12.2.1.length) fun h8 => .need (t6.2.2.1.length ≤ t12.2.2.1.length) fun h9 => .need (t6.2.2.2.length ≤ t12.2.2.2.length) fun h10 => .callh _ (f14 k (t12.2.1.take t6.2.1.length) (t12.2.2.1.take t6.2.2.1.length) (t12.2.2.2.take t6.2.2.2.length) 1) fun t13 ht13 => .ite (t13 < 0) (fun h11 => .ret false) (fun h11 => .ite (t13 = t12.1) (fun h12 => .recall _ (f7 k a b c) t3 ht3 <| .recall _ (f8 k e) t4 ht4 <| .tr t3.1.length <| .tr t3.2.1.length <| .tr t3.2.2.length <| .tr t4.length <| .recall _ (f9 k t3.1 t3.2.1 t3.2.2 d t4) t6 ht6 <| .tr t6.2.1.length <| .tr t6.2.2.1.length <| .tr t6.2.2.2.length <| .tr t5.2.1.length <| .tr t5.2.2.1.length <| .tr t5.2.2.2.length <| .recall _ (f10 k t6.2.1 t6.2.2.1 t6.2.2.2 t5.2.1 t5.2.2.1 t5.2.2.2) t7 ht7 <| .th h3 <| .th h3 <| .th h3 <| .th h3 <| .th h4 <| .th h8 <| .th h9 <| .th h10 <| .recall _ (f14 k (t12.2.1.take t6.2.1.length) (t12.2.2.1.take t6.2.2.1.length) (t12.2.2.2.take t6.2.2.2.length) 1) t13 ht13 <| .th h11 <| .th h12 <| .ret true) (fun h12 => .ret false)))) (fun h6 => .ret false)) (fun h5 => .ret false)) (fun h4 => .ret false)) (fun h3 => .th h3 <| .th h3 <| .th h3 <| .ret false)))
def f3.o : (Bool) → V El × List (O El) := fun r => (.bb false r, [])
end Go.Proofs.YtopnfhlgaiocpaaGreat.P
namespace Go.Proofs.YtopnfhlgaiocpaaGreat.P
open Go Go.Proofs.YtopnfhlgaiocpaaGreat.PM Go.Proofs.YtopnfhlgaiocpaaGreat.PN Go.Proofs
set_option maxRecDepth 100000
set_option linter.unusedVariables false
theorem ti2 : TiOk Tryz.prog G 2 ⟨1, false, 8, .int .i64, some (.il .i64 0), some [none], none⟩ := ⟨by kernel_rfl, by kernel_rfl, by kernel_rfl, fun z h => some_all (p := fun z => zeroT Tryz.prog 2 = some (denA G z)) (by kernel_rfl) h, (by kernel_rfl : Tryz.prog.underlying 2 = some (.int .i64)), fun l h => some_all (p := fun l => cellKs Tryz.prog 8 2 = some (l.map (Option.map G.w))) (by kernel_rfl) h, fun l h => none_all h⟩
theorem ti3 : TiOk Tryz.prog G 3 ⟨1, false, 8, .int .i64, some (.il .i64 0), some [none], none⟩ := ⟨by kernel_rfl, by kernel_rfl, by kernel_rfl, fun z h => some_all (p := fun z => zeroT Tryz.prog 3 = some (denA G z)) (by kernel_rfl) h, (by kernel_rfl : Tryz.prog.underlying 3 = some (.int .i64)), fun l h => some_all (p := fun l => cellKs Tryz.prog 8 3 = some (l.map (Option.map G.w))) (by kernel_rfl) h, fun l h => none_all h⟩
theorem ti4 : TiOk Tryz.prog G 4 ⟨1, false, 1, .bool, some (.bl false), some [none], none⟩ := ⟨by kernel_rfl, by kernel_rfl, by kernel_rfl, fun z h => some_all (p := fun z => zeroT Tryz.prog 4 = some (denA G z)) (by kernel_rfl) h, (by kernel_rfl : Tryz.prog.underlying 4 = some .bool), fun l h => some_all (p := fun l => cellKs Tryz.prog 8 4 = some (l.map (Option.map G.w))) (by kernel_rfl) h, fun l h => none_all h⟩
theorem ti5 : TiOk Tryz.prog G 5 ⟨1, false, 1, .int .u8, some (.il .u8 0), some [none], none⟩ := ⟨by kernel_rfl, by kernel_rfl, by kernel_rfl, fun z h => some_all (p := fun z => zeroT Tryz.prog 5 = some (denA G z)) (by kernel_rfl) h, (by kernel_rfl : Tryz.prog.underlying 5 = some (.int .u8)), fun l h => some_all (p := fun l => cellKs Tryz.prog 8 5 = some (l.map (Option.map G.w))) (by kernel_rfl) h, fun l h => none_all h⟩
theorem ti9 : TiOk Tryz.prog G 9 ⟨1, false, 16, .string, some (.s (⟨#[]⟩ : ByteArray)), some [none], none⟩ := ⟨by kernel_rfl, by kernel_rfl, by kernel_rfl, fun z h => some_all (p := fun z => zeroT Tryz.prog 9 = some (denA G z)) (by kernel_rfl) h, (by kernel_rfl : Tryz.prog.underlying 9 = some .string), fun l h => some_all (p := fun l => cellKs Tryz.prog 8 9 = some (l.map (Option.map G.w))) (by kernel_rfl) h, fun l h => none_all h⟩
theorem ti22 : TiOk Tryz.prog G 22 ⟨1, false, 24, .slice 75 0, some (.nil), some [some 0], none⟩ := ⟨by kernel_rfl, by kernel_rfl, by kernel_rfl, fun z h => some_all (p := fun z => zeroT Tryz.prog 22 = some (denA G z)) (by kernel_rfl) h, (by kernel_rfl : Tryz.prog.underlying 22 = some (.slice 75)), fun l h => some_all (p := fun l => cellKs Tryz.prog 8 22 = some (l.map (Option.map G.w))) (by kernel_rfl) h, fun l h => none_all h⟩
theorem ti23 : TiOk Tryz.prog G 23 ⟨1, false, 24, .slice 77 1, some (.nil), some [some 1], none⟩ := ⟨by kernel_rfl, by kernel_rfl, by kernel_rfl, fun z h => some_all (p := fun z => zeroT Tryz.prog 23 = some (denA G z)) (by kernel_rfl) h, (by kernel_rfl : Tryz.prog.underlying 23 = some (.slice 77)), fun l h => some_all (p := fun l => cellKs Tryz.prog 8 23 = some (l.map (Option.map G.w))) (by kernel_rfl) h, fun l h => none_all h⟩
theorem ti25 : TiOk Tryz.prog G 25 ⟨3, true, 72, .struct [(0, 22), (1, 22), (2, 23)], some (.agg [.nil, .nil, .nil]), some [some 0, some 0, some 1], none⟩ := ⟨by kernel_rfl, by kernel_rfl, by kernel_rfl, fun z h => some_all (p := fun z => zeroT Tryz.prog 25 = some (denA G z)) (by kernel_rfl) h, ⟨by kernel_rfl, fun l h => (by kernel_rfl : fieldsT Tryz.prog 25 = fieldsK G [(0, 22), (1, 22), (2, 23)]).trans h⟩, fun l h => some_all (p := fun l => cellKs Tryz.prog 8 25 = some (l.map (Option.map G.w))) (by kernel_rfl) h, fun l h => none_all h⟩
theorem ti26 : TiOk Tryz.prog G 26 ⟨1, false, 24, .slice 47 2, some (.nil), some [some 2], none⟩ := ⟨by kernel_rfl, by kernel_rfl, by kernel_rfl, fun z h => some_all (p := fun z => zeroT Tryz.prog 26 = some (denA G z)) (by kernel_rfl) h, (by kernel_rfl : Tryz.prog.underlying 26 = some (.slice 47)), fun l h => some_all (p := fun l => cellKs Tryz.prog 8 26 = some (l.map (Option.map G.w))) (by kernel_rfl) h, fun l h => none_all h⟩
theorem ti29 : TiOk Tryz.prog G 29 ⟨1, false, 24, .slice 58 3, some (.nil), some [some 3], none⟩ := ⟨by kernel_rfl, by kernel_rfl, by kernel_rfl, fun z h => some_all (p := fun z => zeroT Tryz.prog 29 = some (denA G z)) (by kernel_rfl) h, (by kernel_rfl : Tryz.prog.underlying 29 = some (.slice 58)), fun l h => some_all (p := fun l => cellKs Tryz.prog 8 29 = some (l.map (Option.map G.w))) (by kernel_rfl) h, fun l h => none_all h⟩
theorem ti30 : TiOk Tryz.prog G 30 ⟨1, false, 24, .slice 63 4, some (.nil), some [some 4], none⟩ := ⟨by kernel_rfl, by kernel_rfl, by kernel_rfl, fun z h => some_all (p := fun z => zeroT Tryz.prog 30 = some (denA G z)) (by kernel_rfl) h, (by kernel_rfl : Tryz.prog.underlying 30 = some (.slice 63)), fun l h => some_all (p := fun l => cellKs Tryz.prog 8 30 = some (l.map (Option.map G.w))) (by kernel_rfl) h, fun l h => none_all h⟩
theorem ti32 : TiOk Tryz.prog G 32 ⟨3, true, 72, .struct [(0, 29), (1, 29), (2, 30)], some (.agg [.nil, .nil, .nil]), some [some 3, some 3, some 4], none⟩ := ⟨by kernel_rfl, by kernel_rfl, by kernel_rfl, fun z h => some_all (p := fun z => zeroT Tryz.prog 32 = some (denA G z)) (by kernel_rfl) h, ⟨by kernel_rfl, fun l h => (by kernel_rfl : fieldsT Tryz.prog 32 = fieldsK G [(0, 29), (1, 29), (2, 30)]).trans h⟩, fun l h => some_all (p := fun l => cellKs Tryz.prog 8 32 = some (l.map (Option.map G.w))) (by kernel_rfl) h, fun l h => none_all h⟩
theorem ti36 : TiOk Tryz.prog G 36 ⟨1, false, 24, .slice 61 5, some (.nil), some [some 5], none⟩ := ⟨by kernel_rfl, by kernel_rfl, by kernel_rfl, fun z h => some_all (p := fun z => zeroT Tryz.prog 36 = some (denA G z)) (by kernel_rfl) h, (by kernel_rfl : Tryz.prog.underlying 36 = some (.slice 61)), fun l h => some_all (p := fun l => cellKs Tryz.prog 8 36 = some (l.map (Option.map G.w))) (by kernel_rfl) h, fun l h => none_all h⟩
theorem ti47 : TiOk Tryz.prog G 47 ⟨3, true, 32, .struct [(0, 2), (1, 2), (2, 9)], some (.agg [.il .i64 0, .il .i64 0, .s (⟨#[]⟩ : ByteArray)]), some [none, none, none], none⟩ := ⟨by kernel_rfl, by kernel_rfl, by kernel_rfl, fun z h => some_all (p := fun z => zeroT Tryz.prog 47 = some (denA G z)) (by kernel_rfl) h, ⟨by kernel_rfl, fun l h => (by kernel_rfl : fieldsT Tryz.prog 47 = fieldsK G [(0, 2), (1, 2), (2, 9)]).trans h⟩, fun l h => some_all (p := fun l => cellKs Tryz.prog 8 47 = some (l.map (Option.map G.w))) (by kernel_rfl) h, fun l h => none_all h⟩
theorem ti50 : TiOk Tryz.prog G 50 ⟨3, true, 40, .struct [(0, 2), (1, 2), (2, 36)], some (.agg [.il .i64 0, .il .i64 0, .nil]), some [none, none, some 5], none⟩ := ⟨by kernel_rfl, by kernel_rfl, by kernel_rfl, fun z h => some_all (p := fun z => zeroT Tryz.prog 50 = some (denA G z)) (by kernel_rfl) h, ⟨by kernel_rfl, fun l h => (by kernel_rfl : fieldsT Tryz.prog 50 = fieldsK G [(0, 2), (1, 2), (2, 36)]).trans h⟩, fun l h => some_all (p := fun l => cellKs Tryz.prog 8 50 = some (l.map (Option.map G.w))) (by kernel_rfl) h, fun l h => none_all h⟩
theorem ti58 : TiOk Tryz.prog G 58 ⟨2, true, 32, .struct [(0, 9), (1, 9)], some (.agg [.s (⟨#[]⟩ : ByteArray), .s (⟨#[]⟩ : ByteArray)]), some [none, none], some [(0, 9), (1, 9)]⟩ := ⟨by kernel_rfl, by kernel_rfl, by kernel_rfl, fun z h => some_all (p := fun z => zeroT Tryz.prog 58 = some (denA G z)) (by kernel_rfl) h, ⟨by kernel_rfl, fun l h => (by kernel_rfl : fieldsT Tryz.prog 58 = fieldsK G [(0, 9), (1, 9)]).trans h⟩, fun l h => some_all (p := fun l => cellKs Tryz.prog 8 58 = some (l.map (Option.map G.w))) (by kernel_rfl) h, fun l h => some_all (p := fun l => eqT Tryz.prog 58 = some l) (by kernel_rfl) h⟩
theorem ti61 : TiOk Tryz.prog G 61 ⟨3, true, 32, .struct [(0, 2), (1, 2), (2, 9)], some (.agg [.il .i64 0, .il .i64 0, .s (⟨#[]⟩ : ByteArray)]), some [none, none, none], none⟩ := ⟨by kernel_rfl, by kernel_rfl, by kernel_rfl, fun z h => some_all (p := fun z => zeroT Tryz.prog 61 = some (denA G z)) (by kernel_rfl) h, ⟨by kernel_rfl, fun l h => (by kernel_rfl : fieldsT Tryz.prog 61 = fieldsK G [(0, 2), (1, 2), (2, 9)]).trans h⟩, fun l h => some_all (p := fun l => cellKs Tryz.prog 8 61 = some (l.map (Option.map G.w))) (by kernel_rfl) h, fun l h => none_all h⟩
theorem ti63 : TiOk Tryz.prog G 63 ⟨4, true, 56, .struct [(0, 2), (1, 9), (2, 9), (3, 9)], some (.agg [.il .i64 0, .s (⟨#[]⟩ : ByteArray), .s (⟨#[]⟩ : ByteArray), .s (⟨#[]⟩ : ByteArray)]), some [none, none, none, none], none⟩ := ⟨by kernel_rfl, by kernel_rfl, by kernel_rfl, fun z h => some_all (p := fun z => zeroT Tryz.prog 63 = some (denA G z)) (by kernel_rfl) h, ⟨by kernel_rfl, fun l h => (by kernel_rfl : fieldsT Tryz.prog 63 = fieldsK G [(0, 2), (1, 9), (2, 9), (3, 9)]).trans h⟩, fun l h => some_all (p := fun l => cellKs Tryz.prog 8 63 = some (l.map (Option.map G.w))) (by kernel_rfl) h, fun l h => none_all h⟩
theorem ti75 : TiOk Tryz.prog G 75 ⟨2, true, 32, .struct [(0, 9), (1, 9)], some (.agg [.s (⟨#[]⟩ : ByteArray), .s (⟨#[]⟩ : ByteArray)]), some [none, none], none⟩ := ⟨by kernel_rfl, by kernel_rfl, by kernel_rfl, fun z h => some_all (p := fun z => zeroT Tryz.prog 75 = some (denA G z)) (by kernel_rfl) h, ⟨by kernel_rfl, fun l h => (by kernel_rfl : fieldsT Tryz.prog 75 = fieldsK G [(0, 9), (1, 9)]).trans h⟩, fun l h => some_all (p := fun l => cellKs Tryz.prog 8 75 = some (l.map (Option.map G.w))) (by kernel_rfl) h, fun l h => none_all h⟩
theorem ti77 : TiOk Tryz.prog G 77 ⟨4, true, 56, .struct [(0, 2), (1, 9), (2, 9), (3, 9)], some (.agg [.il .i64 0, .s (⟨#[]⟩ : ByteArray), .s (⟨#[]⟩ : ByteArray), .s (⟨#[]⟩ : ByteArray)]), some [none, none, none, none], none⟩ := ⟨by kernel_rfl, by kernel_rfl, by kernel_rfl, fun z h => some_all (p := fun z => zeroT Tryz.prog 77 = some (denA G z)) (by kernel_rfl) h, ⟨by kernel_rfl, fun l h => (by kernel_rfl : fieldsT Tryz.prog 77 = fieldsK G [(0, 2), (1, 9), (2, 9), (3, 9)]).trans h⟩, fun l h => some_all (p := fun l => cellKs Tryz.prog 8 77 = some (l.map (Option.map G.w))) (by kernel_rfl) h, fun l h => none_all h⟩
theorem ti82 : TiOk Tryz.prog G 82 ⟨1, false, 24, .slice 88 6, some (.nil), some [some 6], none⟩ := ⟨by kernel_rfl, by kernel_rfl, by kernel_rfl, fun z h => some_all (p := fun z => zeroT Tryz.prog 82 = some (denA G z)) (by kernel_rfl) h, (by kernel_rfl : Tryz.prog.underlying 82 = some (.slice 88)), fun l h => some_all (p := fun l => cellKs Tryz.prog 8 82 = some (l.map (Option.map G.w))) (by kernel_rfl) h, fun l h => none_all h⟩
theorem ti88 : TiOk Tryz.prog G 88 ⟨2, true, 24, .struct [(0, 2), (1, 9)], some (.agg [.il .i64 0, .s (⟨#[]⟩ : ByteArray)]), some [none, none], none⟩ := ⟨by kernel_rfl, by kernel_rfl, by kernel_rfl, fun z h => some_all (p := fun z => zeroT Tryz.prog 88 = some (denA G z)) (by kernel_rfl) h, ⟨by kernel_rfl, fun l h => (by kernel_rfl : fieldsT Tryz.prog 88 = fieldsK G [(0, 2), (1, 9)]).trans h⟩, fun l h => some_all (p := fun l => cellKs Tryz.prog 8 88 = some (l.map (Option.map G.w))) (by kernel_rfl) h, fun l h => none_all h⟩
theorem ti102 : TiOk Tryz.prog G 102 ⟨1, false, 24, .slice 5 7, some (.nil), some [some 7], none⟩ := ⟨by kernel_rfl, by kernel_rfl, by kernel_rfl, fun z h => some_all (p := fun z => zeroT Tryz.prog 102 = some (denA G z)) (by kernel_rfl) h, (by kernel_rfl : Tryz.prog.underlying 102 = some (.slice 5)), fun l h => some_all (p := fun l => cellKs Tryz.prog 8 102 = some (l.map (Option.map G.w))) (by kernel_rfl) h, fun l h => none_all h⟩
theorem ti111 : TiOk Tryz.prog G 111 ⟨1, false, 4, .int .u32, some (.il .u32 0), some [none], none⟩ := ⟨by kernel_rfl, by kernel_rfl, by kernel_rfl, fun z h => some_all (p := fun z => zeroT Tryz.prog 111 = some (denA G z)) (by kernel_rfl) h, (by kernel_rfl : Tryz.prog.underlying 111 = some (.int .u32)), fun l h => some_all (p := fun l => cellKs Tryz.prog 8 111 = some (l.map (Option.map G.w))) (by kernel_rfl) h, fun l h => none_all h⟩
theorem ti122 : TiOk Tryz.prog G 122 ⟨1, false, 8, .int .u64, some (.il .u64 0), some [none], none⟩ := ⟨by kernel_rfl, by kernel_rfl, by kernel_rfl, fun z h => some_all (p := fun z => zeroT Tryz.prog 122 = some (denA G z)) (by kernel_rfl) h, (by kernel_rfl : Tryz.prog.underlying 122 = some (.int .u64)), fun l h => some_all (p := fun l => cellKs Tryz.prog 8 122 = some (l.map (Option.map G.w))) (by kernel_rfl) h, fun l h => none_all h⟩
theorem ti126 : TiOk Tryz.prog G 126 ⟨0, true, 0, .struct [], some (.agg []), some [], none⟩ := ⟨by kernel_rfl, by kernel_rfl, by kernel_rfl, fun z h => some_all (p := fun z => zeroT Tryz.prog 126 = some (denA G z)) (by kernel_rfl) h, ⟨by kernel_rfl, fun l h => (by kernel_rfl : fieldsT Tryz.prog 126 = fieldsK G []).trans h⟩, fun l h => some_all (p := fun l => cellKs Tryz.prog 8 126 = some (l.map (Option.map G.w))) (by kernel_rfl) h, fun l h => none_all h⟩
theorem tis_ok : TisOk Tryz.prog G tis := (tis_cons ti2 (tis_cons ti3 (tis_cons ti4 (tis_cons ti5 (tis_cons ti9 (tis_cons ti22 (tis_cons ti23 (tis_cons ti25 (tis_cons ti26 (tis_cons ti29 (tis_cons ti30 (tis_cons ti32 (tis_cons ti36 (tis_cons ti47 (tis_cons ti50 (tis_cons ti58 (tis_cons ti61 (tis_cons ti63 (tis_cons ti75 (tis_cons ti77 (tis_cons ti82 (tis_cons ti88 (tis_cons ti102 (tis_cons ti111 (tis_cons ti122 (tis_cons ti126 tis_nil))))))))))))))))))))))))))
theorem G_mk : ∀ t cs x, G.mkE t cs = some x → cs.map (den1 G) = (G.cells t x).map (den1 G)
  | 0 => fun cs x h => by
    match cs, h with
    | [c0, c1], h => have h : (cS c0 fun a0 => cS c1 fun a1 => some (⟨a0, a1⟩ : S75) : Option (S75)) = some x := h; obtain ⟨a0, e0, h⟩ := cS_some h; obtain ⟨a1, e1, h⟩ := cS_some h; obtain rfl := Option.some.inj h; simp only [List.map_cons, List.map_nil, e0, e1]; rfl
    | [], h => cases h
    | _ :: _ :: _ :: _, h => cases h
    | [_], h => cases h
  | 1 => fun cs x h => by
    match cs, h with
    | [c0, c1, c2, c3], h => have h : (cI .i64 c0 fun a0 => cS c1 fun a1 => cS c2 fun a2 => cS c3 fun a3 => some (⟨a0, a1, a2, a3⟩ : S77) : Option (S77)) = some x := h; obtain ⟨a0, e0, h⟩ := cI_some h; obtain ⟨a1, e1, h⟩ := cS_some h; obtain ⟨a2, e2, h⟩ := cS_some h; obtain ⟨a3, e3, h⟩ := cS_some h; obtain rfl := Option.some.inj h; simp only [List.map_cons, List.map_nil, e0, e1, e2, e3]; rfl
    | [], h => cases h
    | _ :: _ :: _ :: _ :: _ :: _, h => cases h
    | [_], h => cases h
    | [_, _], h => cases h
    | [_, _, _], h => cases h
  | 2 => fun cs x h => by
    match cs, h with
    | [c0, c1, c2], h => have h : (cI .i64 c0 fun a0 => cI .i64 c1 fun a1 => cS c2 fun a2 => some (⟨a0, a1, a2⟩ : S47) : Option (S47)) = some x := h; obtain ⟨a0, e0, h⟩ := cI_some h; obtain ⟨a1, e1, h⟩ := cI_some h; obtain ⟨a2, e2, h⟩ := cS_some h; obtain rfl := Option.some.inj h; simp only [List.map_cons, List.map_nil, e0, e1, e2]; rfl
    | [], h => cases h
    | _ :: _ :: _ :: _ :: _, h => cases h
    | [_], h => cases h
    | [_, _], h => cases h
  | 3 => fun cs x h => by
    match cs, h with
    | [c0, c1], h => have h : (cS c0 fun a0 => cS c1 fun a1 => some (⟨a0, a1⟩ : S58) : Option (S58)) = some x := h; obtain ⟨a0, e0, h⟩ := cS_some h; obtain ⟨a1, e1, h⟩ := cS_some h; obtain rfl := Option.some.inj h; simp only [List.map_cons, List.map_nil, e0, e1]; rfl
    | [], h => cases h
    | _ :: _ :: _ :: _, h => cases h
    | [_], h => cases h
  | 4 => fun cs x h => by
    match cs, h with
    | [c0, c1, c2, c3], h => have h : (cI .i64 c0 fun a0 => cS c1 fun a1 => cS c2 fun a2 => cS c3 fun a3 => some (⟨a0, a1, a2, a3⟩ : S63) : Option (S63)) = some x := h; obtain ⟨a0, e0, h⟩ := cI_some h; obtain ⟨a1, e1, h⟩ := cS_some h; obtain ⟨a2, e2, h⟩ := cS_some h; obtain ⟨a3, e3, h⟩ := cS_some h; obtain rfl := Option.some.inj h; simp only [List.map_cons, List.map_nil, e0, e1, e2, e3]; rfl
    | [], h => cases h
    | _ :: _ :: _ :: _ :: _ :: _, h => cases h
    | [_], h => cases h
    | [_, _], h => cases h
    | [_, _, _], h => cases h
  | 5 => fun cs x h => by
    match cs, h with
    | [c0, c1, c2], h => have h : (cI .i64 c0 fun a0 => cI .i64 c1 fun a1 => cS c2 fun a2 => some (⟨a0, a1, a2⟩ : S61) : Option (S61)) = some x := h; obtain ⟨a0, e0, h⟩ := cI_some h; obtain ⟨a1, e1, h⟩ := cI_some h; obtain ⟨a2, e2, h⟩ := cS_some h; obtain rfl := Option.some.inj h; simp only [List.map_cons, List.map_nil, e0, e1, e2]; rfl
    | [], h => cases h
    | _ :: _ :: _ :: _ :: _, h => cases h
    | [_], h => cases h
    | [_, _], h => cases h
  | 6 => fun cs x h => by
    match cs, h with
    | [c0, c1], h => have h : (cI .i64 c0 fun a0 => cS c1 fun a1 => some (⟨a0, a1⟩ : S88) : Option (S88)) = some x := h; obtain ⟨a0, e0, h⟩ := cI_some h; obtain ⟨a1, e1, h⟩ := cS_some h; obtain rfl := Option.some.inj h; simp only [List.map_cons, List.map_nil, e0, e1]; rfl
    | [], h => cases h
    | _ :: _ :: _ :: _, h => cases h
    | [_], h => cases h
  | 7 => fun cs x h => by
    match cs, h with
    | [c0], h => have h : (cI .u8 c0 fun a0 => some (a0 : Int) : Option (Int)) = some x := h; obtain ⟨a0, e0, h⟩ := cI_some h; obtain rfl := Option.some.inj h; simp only [List.map_cons, List.map_nil, e0]; rfl
    | [], h => cases h
    | _ :: _ :: _, h => cases h
  | _ + 8 => fun cs x h => by cases h
theorem G_ok : SgOk Tryz.prog G where
  enc := fun t => match t with | 0 => fun _ => rfl | 1 => fun _ => rfl | 2 => fun _ => rfl | 3 => fun _ => rfl | 4 => fun _ => rfl | 5 => fun _ => rfl | 6 => fun _ => rfl | 7 => fun _ => rfl | _ + 8 => fun _ => rfl
  len := fun t => match t with | 0 => fun _ => rfl | 1 => fun _ => rfl | 2 => fun _ => rfl | 3 => fun _ => rfl | 4 => fun _ => rfl | 5 => fun _ => rfl | 6 => fun _ => rfl | 7 => fun _ => rfl | _ + 8 => fun _ => rfl
  agg1 := fun t => match t with | 0 => fun h => by cases h | 1 => fun h => by cases h | 2 => fun h => by cases h | 3 => fun h => by cases h | 4 => fun h => by cases h | 5 => fun h => by cases h | 6 => fun h => by cases h | 7 => fun _ => rfl | _ + 8 => fun h => by cases h
  mkC := G_mk
  ofStr := fun t => match t with | 0 => fun _ _ h => by cases h | 1 => fun _ _ h => by cases h | 2 => fun _ _ h => by cases h | 3 => fun _ _ h => by cases h | 4 => fun _ _ h => by cases h | 5 => fun _ _ h => by cases h | 6 => fun _ _ h => by cases h | 7 => fun s xs h => by obtain rfl := Option.some.inj h; exact ofStr_u8 s | _ + 8 => fun _ _ h => by cases h
  toStr := fun t => match t with | 0 => fun _ _ h => by cases h | 1 => fun _ _ h => by cases h | 2 => fun _ _ h => by cases h | 3 => fun _ _ h => by cases h | 4 => fun _ _ h => by cases h | 5 => fun _ _ h => by cases h | 6 => fun _ _ h => by cases h | 7 => fun xs s h => by obtain rfl := Option.some.inj h; exact toStr_u8 xs | _ + 8 => fun _ _ h => by cases h
  flat := fun t => match t with | 0 => fun _ _ => rfl | 1 => fun _ _ => rfl | 2 => fun _ _ => rfl | 3 => fun _ _ => rfl | 4 => fun _ _ => rfl | 5 => fun _ _ => rfl | 6 => fun _ _ => rfl | 7 => fun _ _ => rfl | _ + 8 => fun _ _ => rfl
  ti := tis_ok
def FOk (n : Nat) (a : List (V El)) (o : List (O El)) (r : V El × List (O El)) : Prop := callT Tryz.prog CC0 P0 n (List.map (denV G) a) (List.map (denO G) o) = some (denV G r.1, List.map (denO G) r.2)
theorem fok {n : Nat} {fn : Func} {R Lb : Type} {D : Nat → Lb → Option R} {start : PT R Lb} {o : R → V El × List (O El)} {args : List (V El)} {objs : List (O El)} {k : Nat} {r : R} (l : List (Pk Tryz.prog CC0 P0 G)) (h0 : H) (stt : Lb → Nat × S El) (hint : Lb → H) (blk : Nat → Lb → PT R Lb)
    (hf : Tryz.prog.funcs[n]? = some fn) (h : start.run (D k) = some r) (kt : Nat → Nat → Nat := fun _ _ => 0) (hp : P0 n = none := by kernel_rfl) (hb : fn.body = some fn.body.get! := by kernel_rfl) (ho : okCode (CC0 n) fn.body.get! = true := by kernel_rfl) (hids : PN.distinct (PN.ids fn.body.get!) = true := by kernel_rfl) (hn : Nat.ble args.length fn.ntmps = true := by kernel_rfl)
    (D0 : ∀ x, D 0 x = none := by intro x; rfl) (DS : ∀ k x, D (k + 1) x = (blk k x).run (D k) := by intro k x; rfl)
    (hT : ∀ k x, resume ⟨G, evK l k, CC0 n, kt⟩ (stt x).1 fn.body.get! (stt x).2 (hint x) (endK ⟨G, evK l k, CC0 n, kt⟩ fn objs.length) = some ((blk k x).lay (outL o) (jumpL stt)) := by intro k x; cases x <;> kernel_rfl)
    (h0T : PN.exec ⟨G, evK l k, CC0 n, kt⟩ fn.body.get! (startS fn.ntmps args objs) h0 (endK ⟨G, evK l k, CC0 n, kt⟩ fn objs.length) = start.lay (outL o) (jumpL stt) := by kernel_rfl) : FOk n args objs (o r) :=
  fn_ok (D := D) (blk := blk) G_ok (fun k => evK_ok l k) hp hf hb ho hids rfl (Nat.le_of_ble_eq_true hn) D0 DS hT h0T h
theorem fok0 {n : Nat} {fn : Func} {R : Type} {start : PT R Empty} {o : R → V El × List (O El)} {args : List (V El)} {objs : List (O El)} {k : Nat} {r : R} (l : List (Pk Tryz.prog CC0 P0 G)) (h0 : H)
    (hf : Tryz.prog.funcs[n]? = some fn) (h : start.run Empty.elim = some r) (kt : Nat → Nat → Nat := fun _ _ => 0) (hp : P0 n = none := by kernel_rfl) (hb : fn.body = some fn.body.get! := by kernel_rfl) (ho : okCode (CC0 n) fn.body.get! = true := by kernel_rfl) (hids : PN.distinct (PN.ids fn.body.get!) = true := by kernel_rfl) (hn : Nat.ble args.length fn.ntmps = true := by kernel_rfl)
    (h0T : PN.exec ⟨G, evK l k, CC0 n, kt⟩ fn.body.get! (startS fn.ntmps args objs) h0 (endK ⟨G, evK l k, CC0 n, kt⟩ fn objs.length) = start.lay (outL o) (jumpL (Empty.elim : Empty → Nat × S El)) := by kernel_rfl) : FOk n args objs (o r) :=
  fn_ok0 (k := k) (E := evK l) G_ok (fun k => evK_ok l k) hp hf hb ho hids rfl (Nat.le_of_ble_eq_true hn) h0T h
end Go.Proofs.YtopnfhlgaiocpaaGreat.P
namespace Go.Proofs.YtopnfhlgaiocpaaGreat.P
open Go Go.Proofs.YtopnfhlgaiocpaaGreat.PM Go.Proofs.YtopnfhlgaiocpaaGreat.PN Go.Proofs
set_option maxRecDepth 100000
set_option linter.unusedVariables false
theorem f66_ok {k a b c d r} (h : f66 k a b c d = some r) : FOk 66 [.agg [.s a, .s b], .agg [.s c, .s d]] [] (f66.o r) :=
 fok0 [] .all (k := k) (o := f66.o) Tryz.func66 ((by kernel_rfl : (f66.start k a b c d).run Empty.elim = f66 k a b c d).trans h)
def pf66 : Pk Tryz.prog CC0 P0 G := ⟨66, sf66, fun k => sum_auto (@f66_ok k)⟩
end Go.Proofs.YtopnfhlgaiocpaaGreat.P
namespace Go.Proofs.YtopnfhlgaiocpaaGreat.P
open Go Go.Proofs.YtopnfhlgaiocpaaGreat.PM Go.Proofs.YtopnfhlgaiocpaaGreat.PN Go.Proofs
set_option maxRecDepth 100000
set_option linter.unusedVariables false
theorem f32_ok {k a b r} (h : f32 k a b = some r) : FOk 32 [.sl 3 a [], .sl 3 b []] [] (f32.o r) :=
 fok [pf66] .all f32.st (fun _ => .all) (D := f32.D) f32.blk (o := f32.o) Tryz.func32 ((by kernel_rfl : (f32.start k a b).run (f32.D k) = f32 k a b).trans h) (D0 := fun x => by cases x <;> kernel_rfl) (DS := fun k x => by cases x <;> kernel_rfl)
def pf32 : Pk Tryz.prog CC0 P0 G := ⟨32, sf32, fun k => sum_auto (@f32_ok k)⟩
end Go.Proofs.YtopnfhlgaiocpaaGreat.P
namespace Go.Proofs.YtopnfhlgaiocpaaGreat.P
open Go Go.Proofs.YtopnfhlgaiocpaaGreat.PM Go.Proofs.YtopnfhlgaiocpaaGreat.PN Go.Proofs
set_option maxRecDepth 100000
set_option linter.unusedVariables false
theorem f67_ok {k a b c d e g i j r} (h : f67 k a b c d e g i j = some r) : FOk 67 [.agg [.id .i64 0 a, .s b, .s c, .s d], .agg [.id .i64 0 e, .s g, .s i, .s j]] [] (f67.o r) :=
 fok0 [] .all (k := k) (o := f67.o) Tryz.func67 ((by kernel_rfl : (f67.start k a b c d e g i j).run Empty.elim = f67 k a b c d e g i j).trans h)
def pf67 : Pk Tryz.prog CC0 P0 G := ⟨67, sf67, fun k => sum_auto (@f67_ok k)⟩
end Go.Proofs.YtopnfhlgaiocpaaGreat.P
namespace Go.Proofs.YtopnfhlgaiocpaaGreat.P
open Go Go.Proofs.YtopnfhlgaiocpaaGreat.PM Go.Proofs.YtopnfhlgaiocpaaGreat.PN Go.Proofs
set_option maxRecDepth 100000
set_option linter.unusedVariables false
theorem f33_ok {k a b r} (h : f33 k a b = some r) : FOk 33 [.sl 4 a [], .sl 4 b []] [] (f33.o r) :=
 fok [pf67] .all f33.st (fun _ => .all) (D := f33.D) f33.blk (o := f33.o) Tryz.func33 ((by kernel_rfl : (f33.start k a b).run (f33.D k) = f33 k a b).trans h) (D0 := fun x => by cases x <;> kernel_rfl) (DS := fun k x => by cases x <;> kernel_rfl)
def pf33 : Pk Tryz.prog CC0 P0 G := ⟨33, sf33, fun k => sum_auto (@f33_ok k)⟩
end Go.Proofs.YtopnfhlgaiocpaaGreat.P
namespace Go.Proofs.YtopnfhlgaiocpaaGreat.P
open Go Go.Proofs.YtopnfhlgaiocpaaGreat.PM Go.Proofs.YtopnfhlgaiocpaaGreat.PN Go.Proofs
set_option maxRecDepth 100000
set_option linter.unusedVariables false
theorem f10_ok {k a b c d e g r} (h : f10 k a b c d e g = some r) : FOk 10 [.agg [.sl 3 a [], .sl 3 b [], .sl 4 c []], .agg [.sl 3 d [], .sl 3 e [], .sl 4 g []]] [] (f10.o r) :=
 fok0 [pf32, pf33] .all (k := k) (o := f10.o) Tryz.func10 ((by kernel_rfl : (f10.start k a b c d e g).run Empty.elim = f10 k a b c d e g).trans h)
def pf10 : Pk Tryz.prog CC0 P0 G := ⟨10, sf10, fun k => sum_auto (@f10_ok k)⟩
end Go.Proofs.YtopnfhlgaiocpaaGreat.P
namespace Go.Proofs.YtopnfhlgaiocpaaGreat.P
open Go Go.Proofs.YtopnfhlgaiocpaaGreat.PM Go.Proofs.YtopnfhlgaiocpaaGreat.PN Go.Proofs
set_option maxRecDepth 100000
set_option linter.unusedVariables false
theorem f34_ok {k a b c d e g r} (h : f34 k a b c d e g = some r) : FOk 34 [.agg [.id .i64 0 a, .id .i64 0 b, .s c], .agg [.id .i64 0 d, .id .i64 0 e, .s g]] [] (f34.o r) :=
 fok0 [] .all (k := k) (o := f34.o) Tryz.func34 ((by kernel_rfl : (f34.start k a b c d e g).run Empty.elim = f34 k a b c d e g).trans h)
def pf34 : Pk Tryz.prog CC0 P0 G := ⟨34, sf34, fun k => sum_auto (@f34_ok k)⟩
end Go.Proofs.YtopnfhlgaiocpaaGreat.P
namespace Go.Proofs.YtopnfhlgaiocpaaGreat.P
open Go Go.Proofs.YtopnfhlgaiocpaaGreat.PM Go.Proofs.YtopnfhlgaiocpaaGreat.PN Go.Proofs
set_option maxRecDepth 100000
set_option linter.unusedVariables false
theorem f11_ok {k a b r} (h : f11 k a b = some r) : FOk 11 [.sl 5 a [], .sl 5 b []] [] (f11.o r) :=
 fok [pf34] .all f11.st (fun _ => .all) (D := f11.D) f11.blk (o := f11.o) Tryz.func11 ((by kernel_rfl : (f11.start k a b).run (f11.D k) = f11 k a b).trans h) (D0 := fun x => by cases x <;> kernel_rfl) (DS := fun k x => by cases x <;> kernel_rfl)
def pf11 : Pk Tryz.prog CC0 P0 G := ⟨11, sf11, fun k => sum_auto (@f11_ok k)⟩
end Go.Proofs.YtopnfhlgaiocpaaGreat.P
namespace Go.Proofs.YtopnfhlgaiocpaaGreat.P
open Go Go.Proofs.YtopnfhlgaiocpaaGreat.PM Go.Proofs.YtopnfhlgaiocpaaGreat.PN Go.Proofs
set_option maxRecDepth 100000
set_option linter.unusedVariables false
theorem f37_ok {k a r} (h : f37 k a = some r) : FOk 37 [.id .i64 1 a] [] (f37.o r) :=
 fok [] .all f37.st (fun _ => .all) (D := f37.D) f37.blk (o := f37.o) Tryz.func37 ((by kernel_rfl : (f37.start k a).run (f37.D k) = f37 k a).trans h) (D0 := fun x => by cases x <;> kernel_rfl) (DS := fun k x => by cases x <;> kernel_rfl)
def pf37 : Pk Tryz.prog CC0 P0 G := ⟨37, sf37, fun k => sum_auto (@f37_ok k)⟩
end Go.Proofs.YtopnfhlgaiocpaaGreat.P
namespace Go.Proofs.YtopnfhlgaiocpaaGreat.P
open Go Go.Proofs.YtopnfhlgaiocpaaGreat.PM Go.Proofs.YtopnfhlgaiocpaaGreat.PN Go.Proofs
set_option maxRecDepth 100000
set_option linter.unusedVariables false
theorem f35_ok {k a o0 r} (h : f35 k a o0 = some r) : FOk 35 [.win 0 true (.l 0) (.d 0 o0.length), .id .i64 2 a] [.row true true true 0 3 o0 none] (f35.o r) :=
 fok [pf37] .all f35.st (fun _ => .all) (D := f35.D) f35.blk (o := f35.o) Tryz.func35 ((by kernel_rfl : (f35.start k a o0).run (f35.D k) = f35 k a o0).trans h) (D0 := fun x => by cases x <;> kernel_rfl) (DS := fun k x => by cases x <;> kernel_rfl)
def pf35 : Pk Tryz.prog CC0 P0 G := ⟨35, sf35, fun k => sum_auto (@f35_ok k)⟩
end Go.Proofs.YtopnfhlgaiocpaaGreat.P
namespace Go.Proofs.YtopnfhlgaiocpaaGreat.P
open Go Go.Proofs.YtopnfhlgaiocpaaGreat.PM Go.Proofs.YtopnfhlgaiocpaaGreat.PN Go.Proofs
set_option maxRecDepth 100000
set_option linter.unusedVariables false
theorem f36_ok {k a o0 r} (h : f36 k a o0 = some r) : FOk 36 [.win 0 true (.l 0) (.d 0 o0.length), .id .i64 2 a] [.row true true true 0 4 o0 none] (f36.o r) :=
 fok [pf37] .all f36.st (fun _ => .all) (D := f36.D) f36.blk (o := f36.o) Tryz.func36 ((by kernel_rfl : (f36.start k a o0).run (f36.D k) = f36 k a o0).trans h) (D0 := fun x => by cases x <;> kernel_rfl) (DS := fun k x => by cases x <;> kernel_rfl)
def pf36 : Pk Tryz.prog CC0 P0 G := ⟨36, sf36, fun k => sum_auto (@f36_ok k)⟩
end Go.Proofs.YtopnfhlgaiocpaaGreat.P
namespace Go.Proofs.YtopnfhlgaiocpaaGreat.P
open Go Go.Proofs.YtopnfhlgaiocpaaGreat.PM Go.Proofs.YtopnfhlgaiocpaaGreat.PN Go.Proofs
set_option maxRecDepth 100000
set_option linter.unusedVariables false
theorem f12_ok {k a o0 o1 o2 r} (h : f12 k a o0 o1 o2 = some r) : FOk 12 [.agg [.win 0 true (.l 0) (.d 0 o0.length), .win 1 true (.l 0) (.d 0 o1.length), .win 2 true (.l 0) (.d 0 o2.length)], .id .i64 2 a] [.row true true true 0 3 o0 none, .row true true true 0 3 o1 none, .row true true true 0 4 o2 none] (f12.o r) :=
 fok0 [pf35, pf36] .all (k := k) (o := f12.o) Tryz.func12 ((by kernel_rfl : (f12.start k a o0 o1 o2).run Empty.elim = f12 k a o0 o1 o2).trans h)
def pf12 : Pk Tryz.prog CC0 P0 G := ⟨12, sf12, fun k => sum_auto (@f12_ok k)⟩
end Go.Proofs.YtopnfhlgaiocpaaGreat.P
namespace Go.Proofs.YtopnfhlgaiocpaaGreat.P
open Go Go.Proofs.YtopnfhlgaiocpaaGreat.PM Go.Proofs.YtopnfhlgaiocpaaGreat.PN Go.Proofs
set_option maxRecDepth 100000
set_option linter.unusedVariables false
theorem f13_ok {k a o0 r} (h : f13 k a o0 = some r) : FOk 13 [.win 0 true (.l 0) (.d 0 o0.length), .id .i64 2 a] [.row true true true 0 5 o0 none] (f13.o r) :=
 fok [pf37] .all f13.st (fun _ => .all) (D := f13.D) f13.blk (o := f13.o) Tryz.func13 ((by kernel_rfl : (f13.start k a o0).run (f13.D k) = f13 k a o0).trans h) (D0 := fun x => by cases x <;> kernel_rfl) (DS := fun k x => by cases x <;> kernel_rfl)
def pf13 : Pk Tryz.prog CC0 P0 G := ⟨13, sf13, fun k => sum_auto (@f13_ok k)⟩
end Go.Proofs.YtopnfhlgaiocpaaGreat.P
namespace Go.Proofs.YtopnfhlgaiocpaaGreat.P
open Go Go.Proofs.YtopnfhlgaiocpaaGreat.PM Go.Proofs.YtopnfhlgaiocpaaGreat.PN Go.Proofs
set_option maxRecDepth 100000
set_option linter.unusedVariables false
theorem f38_ok {k a b r} (h : f38 k a b = some r) : FOk 38 [.sl 3 a [], .id .i64 2 b] [] (f38.o r) :=
 fok [pf37] .all f38.st (fun _ => .all) (D := f38.D) f38.blk (o := f38.o) Tryz.func38 ((by kernel_rfl : (f38.start k a b).run (f38.D k) = f38 k a b).trans h) (D0 := fun x => by cases x <;> kernel_rfl) (DS := fun k x => by cases x <;> kernel_rfl)
def pf38 : Pk Tryz.prog CC0 P0 G := ⟨38, sf38, fun k => sum_auto (@f38_ok k)⟩
end Go.Proofs.YtopnfhlgaiocpaaGreat.P
namespace Go.Proofs.YtopnfhlgaiocpaaGreat.P
open Go Go.Proofs.YtopnfhlgaiocpaaGreat.PM Go.Proofs.YtopnfhlgaiocpaaGreat.PN Go.Proofs
set_option maxRecDepth 100000
set_option linter.unusedVariables false
theorem f39_ok {k a b r} (h : f39 k a b = some r) : FOk 39 [.sl 4 a [], .id .i64 2 b] [] (f39.o r) :=
 fok [pf37] .all f39.st (fun _ => .all) (D := f39.D) f39.blk (o := f39.o) Tryz.func39 ((by kernel_rfl : (f39.start k a b).run (f39.D k) = f39 k a b).trans h) (D0 := fun x => by cases x <;> kernel_rfl) (DS := fun k x => by cases x <;> kernel_rfl)
def pf39 : Pk Tryz.prog CC0 P0 G := ⟨39, sf39, fun k => sum_auto (@f39_ok k)⟩
end Go.Proofs.YtopnfhlgaiocpaaGreat.P
namespace Go.Proofs.YtopnfhlgaiocpaaGreat.P
open Go Go.Proofs.YtopnfhlgaiocpaaGreat.PM Go.Proofs.YtopnfhlgaiocpaaGreat.PN Go.Proofs
set_option maxRecDepth 100000
set_option linter.unusedVariables false
theorem f14_ok {k a b c d r} (h : f14 k a b c d = some r) : FOk 14 [.agg [.sl 3 a [], .sl 3 b [], .sl 4 c []], .id .i64 2 d] [] (f14.o r) :=
 fok0 [pf38, pf39] .all (k := k) (o := f14.o) Tryz.func14 ((by kernel_rfl : (f14.start k a b c d).run Empty.elim = f14 k a b c d).trans h)
def pf14 : Pk Tryz.prog CC0 P0 G := ⟨14, sf14, fun k => sum_auto (@f14_ok k)⟩
end Go.Proofs.YtopnfhlgaiocpaaGreat.P
namespace Go.Proofs.YtopnfhlgaiocpaaGreat.P
open Go Go.Proofs.YtopnfhlgaiocpaaGreat.PM Go.Proofs.YtopnfhlgaiocpaaGreat.PN Go.Proofs
set_option maxRecDepth 100000
set_option linter.unusedVariables false
theorem f40_ok {k a b c r} (h : f40 k a b c = some r) : FOk 40 [.agg [.s a, .s b], .id .i64 2 c] [] (f40.o r) :=
 fok0 [] .all (k := k) (o := f40.o) Tryz.func40 ((by kernel_rfl : (f40.start k a b c).run Empty.elim = f40 k a b c).trans h)
def pf40 : Pk Tryz.prog CC0 P0 G := ⟨40, sf40, fun k => sum_auto (@f40_ok k)⟩
end Go.Proofs.YtopnfhlgaiocpaaGreat.P
namespace Go.Proofs.YtopnfhlgaiocpaaGreat.P
open Go Go.Proofs.YtopnfhlgaiocpaaGreat.PM Go.Proofs.YtopnfhlgaiocpaaGreat.PN Go.Proofs
set_option maxRecDepth 100000
set_option linter.unusedVariables false
theorem f15_ok {k a b r} (h : f15 k a b = some r) : FOk 15 [.sl 0 a [], .id .i64 2 b] [] (f15.o r) :=
 fok [pf40] .all f15.st (fun _ => .all) (D := f15.D) f15.blk (o := f15.o) Tryz.func15 ((by kernel_rfl : (f15.start k a b).run (f15.D k) = f15 k a b).trans h) (D0 := fun x => by cases x <;> kernel_rfl) (DS := fun k x => by cases x <;> kernel_rfl)
def pf15 : Pk Tryz.prog CC0 P0 G := ⟨15, sf15, fun k => sum_auto (@f15_ok k)⟩
end Go.Proofs.YtopnfhlgaiocpaaGreat.P
namespace Go.Proofs.YtopnfhlgaiocpaaGreat.P
open Go Go.Proofs.YtopnfhlgaiocpaaGreat.PM Go.Proofs.YtopnfhlgaiocpaaGreat.PN Go.Proofs
set_option maxRecDepth 100000
set_option linter.unusedVariables false
theorem f41_ok {k a b c d e r} (h : f41 k a b c d e = some r) : FOk 41 [.agg [.id .i64 0 a, .s b, .s c, .s d], .id .i64 2 e] [] (f41.o r) :=
 fok0 [] .all (k := k) (o := f41.o) Tryz.func41 ((by kernel_rfl : (f41.start k a b c d e).run Empty.elim = f41 k a b c d e).trans h)
def pf41 : Pk Tryz.prog CC0 P0 G := ⟨41, sf41, fun k => sum_auto (@f41_ok k)⟩
end Go.Proofs.YtopnfhlgaiocpaaGreat.P
namespace Go.Proofs.YtopnfhlgaiocpaaGreat.P
open Go Go.Proofs.YtopnfhlgaiocpaaGreat.PM Go.Proofs.YtopnfhlgaiocpaaGreat.PN Go.Proofs
set_option maxRecDepth 100000
set_option linter.unusedVariables false
theorem f16_ok {k a b r} (h : f16 k a b = some r) : FOk 16 [.sl 1 a [], .id .i64 2 b] [] (f16.o r) :=
 fok [pf41] .all f16.st (fun _ => .all) (D := f16.D) f16.blk (o := f16.o) Tryz.func16 ((by kernel_rfl : (f16.start k a b).run (f16.D k) = f16 k a b).trans h) (D0 := fun x => by cases x <;> kernel_rfl) (DS := fun k x => by cases x <;> kernel_rfl)
def pf16 : Pk Tryz.prog CC0 P0 G := ⟨16, sf16, fun k => sum_auto (@f16_ok k)⟩
end Go.Proofs.YtopnfhlgaiocpaaGreat.P
namespace Go.Proofs.YtopnfhlgaiocpaaGreat.P
open Go Go.Proofs.YtopnfhlgaiocpaaGreat.PM Go.Proofs.YtopnfhlgaiocpaaGreat.PN Go.Proofs
set_option maxRecDepth 100000
set_option linter.unusedVariables false
theorem f4_ok {k a b c d r} (h : f4 k a b c d = some r) : FOk 4 [.agg [.sl 0 a [], .sl 0 b [], .sl 1 c []], .id .i64 2 d] [] (f4.o r) :=
 fok0 [pf15, pf16] .all (k := k) (o := f4.o) Tryz.func4 ((by kernel_rfl : (f4.start k a b c d).run Empty.elim = f4 k a b c d).trans h)
def pf4 : Pk Tryz.prog CC0 P0 G := ⟨4, sf4, fun k => sum_auto (@f4_ok k)⟩
end Go.Proofs.YtopnfhlgaiocpaaGreat.P
namespace Go.Proofs.YtopnfhlgaiocpaaGreat.P
open Go Go.Proofs.YtopnfhlgaiocpaaGreat.PM Go.Proofs.YtopnfhlgaiocpaaGreat.PN Go.Proofs
set_option maxRecDepth 100000
set_option linter.unusedVariables false
theorem f17_ok {k a b c d r} (h : f17 k a b c d = some r) : FOk 17 [.agg [.id .i64 0 a, .id .i64 0 b, .s c], .id .i64 2 d] [] (f17.o r) :=
 fok0 [] .all (k := k) (o := f17.o) Tryz.func17 ((by kernel_rfl : (f17.start k a b c d).run Empty.elim = f17 k a b c d).trans h)
def pf17 : Pk Tryz.prog CC0 P0 G := ⟨17, sf17, fun k => sum_auto (@f17_ok k)⟩
end Go.Proofs.YtopnfhlgaiocpaaGreat.P
namespace Go.Proofs.YtopnfhlgaiocpaaGreat.P
open Go Go.Proofs.YtopnfhlgaiocpaaGreat.PM Go.Proofs.YtopnfhlgaiocpaaGreat.PN Go.Proofs
set_option maxRecDepth 100000
set_option linter.unusedVariables false
theorem f5_ok {k a b r} (h : f5 k a b = some r) : FOk 5 [.sl 2 a [], .id .i64 2 b] [] (f5.o r) :=
 fok [pf17] .all f5.st (fun _ => .all) (D := f5.D) f5.blk (o := f5.o) Tryz.func5 ((by kernel_rfl : (f5.start k a b).run (f5.D k) = f5 k a b).trans h) (D0 := fun x => by cases x <;> kernel_rfl) (DS := fun k x => by cases x <;> kernel_rfl)
def pf5 : Pk Tryz.prog CC0 P0 G := ⟨5, sf5, fun k => sum_auto (@f5_ok k)⟩
end Go.Proofs.YtopnfhlgaiocpaaGreat.P
namespace Go.Proofs.YtopnfhlgaiocpaaGreat.P
open Go Go.Proofs.YtopnfhlgaiocpaaGreat.PM Go.Proofs.YtopnfhlgaiocpaaGreat.PN Go.Proofs
set_option maxRecDepth 100000
set_option linter.unusedVariables false
theorem f68_ok {k a r} (h : f68 k a = some r) : FOk 68 [.s a] [] (f68.o r) :=
 fok0 [] (.both (.l (.l (.l .all))) (.r (.r (.r .all)))) (k := k) (o := f68.o) Tryz.func68 ((by kernel_rfl : (f68.start k a).run Empty.elim = f68 k a).trans h)
def pf68 : Pk Tryz.prog CC0 P0 G := ⟨68, sf68, fun k => sum_auto (@f68_ok k)⟩
end Go.Proofs.YtopnfhlgaiocpaaGreat.P
namespace Go.Proofs.YtopnfhlgaiocpaaGreat.P
open Go Go.Proofs.YtopnfhlgaiocpaaGreat.PM Go.Proofs.YtopnfhlgaiocpaaGreat.PN Go.Proofs
set_option maxRecDepth 100000
set_option linter.unusedVariables false
theorem f42_ok {k a r} (h : f42 k a = some r) : FOk 42 [.sl 3 a []] [] (f42.o r) :=
 fok [pf68] .all f42.st f42.hint (D := f42.D) f42.blk (o := f42.o) Tryz.func42 ((by kernel_rfl : (f42.start k a).run (f42.D k) = f42 k a).trans h) (D0 := fun x => by cases x <;> kernel_rfl) (DS := fun k x => by cases x <;> kernel_rfl)
def pf42 : Pk Tryz.prog CC0 P0 G := ⟨42, sf42, fun k => sum_auto (@f42_ok k)⟩
end Go.Proofs.YtopnfhlgaiocpaaGreat.P
namespace Go.Proofs.YtopnfhlgaiocpaaGreat.P
open Go Go.Proofs.YtopnfhlgaiocpaaGreat.PM Go.Proofs.YtopnfhlgaiocpaaGreat.PN Go.Proofs
set_option maxRecDepth 100000
set_option linter.unusedVariables false
theorem f23_ok {k a b r} (h : f23 k a b = some r) : FOk 23 [.sl 3 a [], .s b] [] (f23.o r) :=
 fok [] .all f23.st (fun _ => .all) (D := f23.D) f23.blk (o := f23.o) Tryz.func23 ((by kernel_rfl : (f23.start k a b).run (f23.D k) = f23 k a b).trans h) (D0 := fun x => by cases x <;> kernel_rfl) (DS := fun k x => by cases x <;> kernel_rfl)
def pf23 : Pk Tryz.prog CC0 P0 G := ⟨23, sf23, fun k => sum_auto (@f23_ok k)⟩
end Go.Proofs.YtopnfhlgaiocpaaGreat.P
namespace Go.Proofs.YtopnfhlgaiocpaaGreat.P
open Go Go.Proofs.YtopnfhlgaiocpaaGreat.PM Go.Proofs.YtopnfhlgaiocpaaGreat.PN Go.Proofs
set_option maxRecDepth 100000
set_option linter.unusedVariables false
theorem f69_ok {k a b c r} (h : f69 k a b c = some r) : FOk 69 [.sl 3 a [], .s b, .s c] [] (f69.o r) :=
 fok [] .all f69.st f69.hint (D := f69.D) f69.blk (o := f69.o) Tryz.func69 ((by kernel_rfl : (f69.start k a b c).run (f69.D k) = f69 k a b c).trans h) (D0 := fun x => by cases x <;> kernel_rfl) (DS := fun k x => by cases x <;> kernel_rfl)
def pf69 : Pk Tryz.prog CC0 P0 G := ⟨69, sf69, fun k => sum_auto (@f69_ok k)⟩
end Go.Proofs.YtopnfhlgaiocpaaGreat.P
namespace Go.Proofs.YtopnfhlgaiocpaaGreat.P
open Go Go.Proofs.YtopnfhlgaiocpaaGreat.PM Go.Proofs.YtopnfhlgaiocpaaGreat.PN Go.Proofs
set_option maxRecDepth 100000
set_option linter.unusedVariables false
theorem f70_ok {k a b r} (h : f70 k a b = some r) : FOk 70 [.sl 3 a [], .s b] [] (f70.o r) :=
 fok [] .all f70.st (fun _ => .all) (D := f70.D) f70.blk (o := f70.o) Tryz.func70 ((by kernel_rfl : (f70.start k a b).run (f70.D k) = f70 k a b).trans h) (D0 := fun x => by cases x <;> kernel_rfl) (DS := fun k x => by cases x <;> kernel_rfl)
def pf70 : Pk Tryz.prog CC0 P0 G := ⟨70, sf70, fun k => sum_auto (@f70_ok k)⟩
end Go.Proofs.YtopnfhlgaiocpaaGreat.P
namespace Go.Proofs.YtopnfhlgaiocpaaGreat.P
open Go Go.Proofs.YtopnfhlgaiocpaaGreat.PM Go.Proofs.YtopnfhlgaiocpaaGreat.PN Go.Proofs
set_option maxRecDepth 100000
set_option linter.unusedVariables false
theorem f43_ok {k a b c d e r} (h : f43 k a b c d e = some r) : FOk 43 [.sl 3 a [], .agg [.id .i64 0 b, .s c, .s d, .s e]] [] (f43.o r) :=
 fok0 [pf23, pf69, pf70] .all (k := k) (o := f43.o) Tryz.func43 ((by kernel_rfl : (f43.start k a b c d e).run Empty.elim = f43 k a b c d e).trans h)
def pf43 : Pk Tryz.prog CC0 P0 G := ⟨43, sf43, fun k => sum_auto (@f43_ok k)⟩
end Go.Proofs.YtopnfhlgaiocpaaGreat.P
namespace Go.Proofs.YtopnfhlgaiocpaaGreat.P
open Go Go.Proofs.YtopnfhlgaiocpaaGreat.PM Go.Proofs.YtopnfhlgaiocpaaGreat.PN Go.Proofs
set_option maxRecDepth 100000
set_option linter.unusedVariables false
theorem f20_ok {k a b c r} (h : f20 k a b c = some r) : FOk 20 [.id .i64 1 a, .id .i64 2 b, .id .i64 3 c] [] (f20.o r) :=
 fok0 [] (.both (.l (.l (.l .all))) (.r (.r (.r .all)))) (k := k) (o := f20.o) Tryz.func20 ((by kernel_rfl : (f20.start k a b c).run Empty.elim = f20 k a b c).trans h)
def pf20 : Pk Tryz.prog CC0 P0 G := ⟨20, sf20, fun k => sum_auto (@f20_ok k)⟩
end Go.Proofs.YtopnfhlgaiocpaaGreat.P
namespace Go.Proofs.YtopnfhlgaiocpaaGreat.P
open Go Go.Proofs.YtopnfhlgaiocpaaGreat.PM Go.Proofs.YtopnfhlgaiocpaaGreat.PN Go.Proofs
set_option maxRecDepth 100000
set_option linter.unusedVariables false
theorem f44_ok {k a b c d r} (h : f44 k a b c d = some r) : FOk 44 [.agg [.id .i64 0 a, .s b, .s c, .s d]] [] (f44.o r) :=
 fok0 [pf20, pf68] (.skip (.both (.l (.l (.skip (.l (.l (.both (.both (.skip (.both (.l (.l (.l .all))) (.r (.r (.r .all))))) (.both (.l (.l (.l (.both (.l (.l (.l (.l (.l .all))))) (.r (.r (.l (.r (.l .all))))))))) (.r (.r (.r (.r (.r .all))))))) .all)))))) (.r (.r (.r (.r .all)))))) (k := k) (o := f44.o) Tryz.func44 ((by kernel_rfl : (f44.start k a b c d).run Empty.elim = f44 k a b c d).trans h)
def pf44 : Pk Tryz.prog CC0 P0 G := ⟨44, sf44, fun k => sum_auto (@f44_ok k)⟩
end Go.Proofs.YtopnfhlgaiocpaaGreat.P
namespace Go.Proofs.YtopnfhlgaiocpaaGreat.P
open Go Go.Proofs.YtopnfhlgaiocpaaGreat.PM Go.Proofs.YtopnfhlgaiocpaaGreat.PN Go.Proofs
set_option maxRecDepth 100000
set_option linter.unusedVariables false
theorem f45_ok {k a b r} (h : f45 k a b = some r) : FOk 45 [.sl 3 a [], .sl 3 b []] [] (f45.o r) :=
 fok [] .all f45.st (fun _ => .all) (D := f45.D) f45.blk (o := f45.o) Tryz.func45 ((by kernel_rfl : (f45.start k a b).run (f45.D k) = f45 k a b).trans h) (D0 := fun x => by cases x <;> kernel_rfl) (DS := fun k x => by cases x <;> kernel_rfl)
def pf45 : Pk Tryz.prog CC0 P0 G := ⟨45, sf45, fun k => sum_auto (@f45_ok k)⟩
end Go.Proofs.YtopnfhlgaiocpaaGreat.P
namespace Go.Proofs.YtopnfhlgaiocpaaGreat.P
open Go Go.Proofs.YtopnfhlgaiocpaaGreat.PM Go.Proofs.YtopnfhlgaiocpaaGreat.PN Go.Proofs
set_option maxRecDepth 100000
set_option linter.unusedVariables false
theorem f18_ok {k a b c r} (h : f18 k a b c = some r) : FOk 18 [.agg [.sl 3 a [], .sl 3 b [], .sl 4 c []]] [] (f18.o r) :=
 fok [pf42, pf43, pf44, pf45] (.skip (.both (.l (.l (.skip (.l (.l (.both (.l (.l (.l (.l .all)))) (.r (.r (.r (.r .all)))))))))) (.r (.r (.r (.r .all)))))) f18.st f18.hint (D := f18.D) f18.blk (o := f18.o) Tryz.func18 ((by kernel_rfl : (f18.start k a b c).run (f18.D k) = f18 k a b c).trans h) (kt := fun rid q => if rid = 5 ∧ q = 3 then 3 else 0) (D0 := fun x => by cases x <;> kernel_rfl) (DS := fun k x => by cases x <;> kernel_rfl)
def pf18 : Pk Tryz.prog CC0 P0 G := ⟨18, sf18, fun k => sum_auto (@f18_ok k)⟩
end Go.Proofs.YtopnfhlgaiocpaaGreat.P
namespace Go.Proofs.YtopnfhlgaiocpaaGreat.P
open Go Go.Proofs.YtopnfhlgaiocpaaGreat.PM Go.Proofs.YtopnfhlgaiocpaaGreat.PN Go.Proofs
set_option maxRecDepth 100000
set_option linter.unusedVariables false
theorem f74_ok {k a r} (h : f74 k a = some r) : FOk 74 [.s a] [] (f74.o r) :=
 fok [] .all f74.st (fun _ => .all) (D := f74.D) f74.blk (o := f74.o) Tryz.func74 ((by kernel_rfl : (f74.start k a).run (f74.D k) = f74 k a).trans h) (D0 := fun x => by cases x <;> kernel_rfl) (DS := fun k x => by cases x <;> kernel_rfl)
def pf74 : Pk Tryz.prog CC0 P0 G := ⟨74, sf74, fun k => sum_auto (@f74_ok k)⟩
end Go.Proofs.YtopnfhlgaiocpaaGreat.P
namespace Go.Proofs.YtopnfhlgaiocpaaGreat.P
open Go Go.Proofs.YtopnfhlgaiocpaaGreat.PM Go.Proofs.YtopnfhlgaiocpaaGreat.PN Go.Proofs
set_option maxRecDepth 100000
set_option linter.unusedVariables false
theorem f91_ok {k a r} (h : f91 k a = some r) : FOk 91 [.s a] [] (f91.o r) :=
 fok0 [] .all (k := k) (o := f91.o) Tryz.func91 ((by kernel_rfl : (f91.start k a).run Empty.elim = f91 k a).trans h)
def pf91 : Pk Tryz.prog CC0 P0 G := ⟨91, sf91, fun k => sum_auto (@f91_ok k)⟩
end Go.Proofs.YtopnfhlgaiocpaaGreat.P
namespace Go.Proofs.YtopnfhlgaiocpaaGreat.P
open Go Go.Proofs.YtopnfhlgaiocpaaGreat.PM Go.Proofs.YtopnfhlgaiocpaaGreat.PN Go.Proofs
set_option maxRecDepth 100000
set_option linter.unusedVariables false
theorem f71_ok {k a r} (h : f71 k a = some r) : FOk 71 [.s a] [] (f71.o r) :=
 fok0 [pf20, pf74, pf91] .all (k := k) (o := f71.o) Tryz.func71 ((by kernel_rfl : (f71.start k a).run Empty.elim = f71 k a).trans h)
def pf71 : Pk Tryz.prog CC0 P0 G := ⟨71, sf71, fun k => sum_auto (@f71_ok k)⟩
end Go.Proofs.YtopnfhlgaiocpaaGreat.P
namespace Go.Proofs.YtopnfhlgaiocpaaGreat.P
open Go Go.Proofs.YtopnfhlgaiocpaaGreat.PM Go.Proofs.YtopnfhlgaiocpaaGreat.PN Go.Proofs
set_option maxRecDepth 100000
set_option linter.unusedVariables false
theorem f46_ok {k a r} (h : f46 k a = some r) : FOk 46 [.s a] [] (f46.o r) :=
 fok [pf71] .all f46.st (fun _ => .all) (D := f46.D) f46.blk (o := f46.o) Tryz.func46 ((by kernel_rfl : (f46.start k a).run (f46.D k) = f46 k a).trans h) (D0 := fun x => by cases x <;> kernel_rfl) (DS := fun k x => by cases x <;> kernel_rfl)
def pf46 : Pk Tryz.prog CC0 P0 G := ⟨46, sf46, fun k => sum_auto (@f46_ok k)⟩
end Go.Proofs.YtopnfhlgaiocpaaGreat.P
namespace Go.Proofs.YtopnfhlgaiocpaaGreat.P
open Go Go.Proofs.YtopnfhlgaiocpaaGreat.PM Go.Proofs.YtopnfhlgaiocpaaGreat.PN Go.Proofs
set_option maxRecDepth 100000
set_option linter.unusedVariables false
theorem f47_ok {k a r} (h : f47 k a = some r) : FOk 47 [.s a] [] (f47.o r) :=
 fok [] .all f47.st f47.hint (D := f47.D) f47.blk (o := f47.o) Tryz.func47 ((by kernel_rfl : (f47.start k a).run (f47.D k) = f47 k a).trans h) (D0 := fun x => by cases x <;> kernel_rfl) (DS := fun k x => by cases x <;> kernel_rfl)
def pf47 : Pk Tryz.prog CC0 P0 G := ⟨47, sf47, fun k => sum_auto (@f47_ok k)⟩
end Go.Proofs.YtopnfhlgaiocpaaGreat.P
namespace Go.Proofs.YtopnfhlgaiocpaaGreat.P
open Go Go.Proofs.YtopnfhlgaiocpaaGreat.PM Go.Proofs.YtopnfhlgaiocpaaGreat.PN Go.Proofs
set_option maxRecDepth 100000
set_option linter.unusedVariables false
theorem f49_ok {k a b c r} (h : f49 k a b c = some r) : FOk 49 [.agg [.id .i64 0 a, .id .i64 0 b, .s c]] [] (f49.o r) :=
 fok0 [pf20] (.skip (.both (.l (.l (.skip (.l (.both (.l (.l (.l (.l .all)))) (.r (.r (.r (.r .all))))))))) (.r (.r (.r .all))))) (k := k) (o := f49.o) Tryz.func49 ((by kernel_rfl : (f49.start k a b c).run Empty.elim = f49 k a b c).trans h)
def pf49 : Pk Tryz.prog CC0 P0 G := ⟨49, sf49, fun k => sum_auto (@f49_ok k)⟩
end Go.Proofs.YtopnfhlgaiocpaaGreat.P
namespace Go.Proofs.YtopnfhlgaiocpaaGreat.P
open Go Go.Proofs.YtopnfhlgaiocpaaGreat.PM Go.Proofs.YtopnfhlgaiocpaaGreat.PN Go.Proofs
set_option maxRecDepth 100000
set_option linter.unusedVariables false
theorem f73_ok {k a r} (h : f73 k a = some r) : FOk 73 [.id .u32 1 a] [] (f73.o r) :=
 fok0 [] .all (k := k) (o := f73.o) Tryz.func73 ((by kernel_rfl : (f73.start k a).run Empty.elim = f73 k a).trans h)
def pf73 : Pk Tryz.prog CC0 P0 G := ⟨73, sf73, fun k => sum_auto (@f73_ok k)⟩
end Go.Proofs.YtopnfhlgaiocpaaGreat.P
namespace Go.Proofs.YtopnfhlgaiocpaaGreat.P
open Go Go.Proofs.YtopnfhlgaiocpaaGreat.PM Go.Proofs.YtopnfhlgaiocpaaGreat.PN Go.Proofs
set_option maxRecDepth 100000
set_option linter.unusedVariables false
theorem f50_ok {k a b r} (h : f50 k a b = some r) : FOk 50 [.agg [.id .i64 0 a, .s b]] [] (f50.o r) :=
 fok0 [pf20, pf73, pf74] (.skip (.both (.l (.l (.l (.l .all)))) (.r (.r (.r (.r .all)))))) (k := k) (o := f50.o) Tryz.func50 ((by kernel_rfl : (f50.start k a b).run Empty.elim = f50 k a b).trans h)
def pf50 : Pk Tryz.prog CC0 P0 G := ⟨50, sf50, fun k => sum_auto (@f50_ok k)⟩
end Go.Proofs.YtopnfhlgaiocpaaGreat.P
namespace Go.Proofs.YtopnfhlgaiocpaaGreat.P
open Go Go.Proofs.YtopnfhlgaiocpaaGreat.PM Go.Proofs.YtopnfhlgaiocpaaGreat.PN Go.Proofs
set_option maxRecDepth 100000
set_option linter.unusedVariables false
theorem f51_ok {k a r} (h : f51 k a = some r) : FOk 51 [.id .i64 1 a] [] (f51.o r) :=
 fok [pf20] .all f51.st (fun _ => .all) (D := f51.D) f51.blk (o := f51.o) Tryz.func51 ((by kernel_rfl : (f51.start k a).run (f51.D k) = f51 k a).trans h) (D0 := fun x => by cases x <;> kernel_rfl) (DS := fun k x => by cases x <;> kernel_rfl)
def pf51 : Pk Tryz.prog CC0 P0 G := ⟨51, sf51, fun k => sum_auto (@f51_ok k)⟩
end Go.Proofs.YtopnfhlgaiocpaaGreat.P
namespace Go.Proofs.YtopnfhlgaiocpaaGreat.P
open Go Go.Proofs.YtopnfhlgaiocpaaGreat.PM Go.Proofs.YtopnfhlgaiocpaaGreat.PN Go.Proofs
set_option maxRecDepth 100000
set_option linter.unusedVariables false
theorem f52_ok {k a r} (h : f52 k a = some r) : FOk 52 [.s a] [] (f52.o r) :=
 fok0 [pf51] .all (k := k) (o := f52.o) Tryz.func52 ((by kernel_rfl : (f52.start k a).run Empty.elim = f52 k a).trans h)
def pf52 : Pk Tryz.prog CC0 P0 G := ⟨52, sf52, fun k => sum_auto (@f52_ok k)⟩
end Go.Proofs.YtopnfhlgaiocpaaGreat.P
namespace Go.Proofs.YtopnfhlgaiocpaaGreat.P
open Go Go.Proofs.YtopnfhlgaiocpaaGreat.PM Go.Proofs.YtopnfhlgaiocpaaGreat.PN Go.Proofs
set_option maxRecDepth 100000
set_option linter.unusedVariables false
theorem f25_ok {k a b c r} (h : f25 k a b c = some r) : FOk 25 [.agg [.id .i64 0 a, .id .i64 0 b, .s c]] [] (f25.o r) :=
 fok0 [pf49, pf50, pf51, pf52] .all (k := k) (o := f25.o) Tryz.func25 ((by kernel_rfl : (f25.start k a b c).run Empty.elim = f25 k a b c).trans h)
def pf25 : Pk Tryz.prog CC0 P0 G := ⟨25, sf25, fun k => sum_auto (@f25_ok k)⟩
end Go.Proofs.YtopnfhlgaiocpaaGreat.P
namespace Go.Proofs.YtopnfhlgaiocpaaGreat.P
open Go Go.Proofs.YtopnfhlgaiocpaaGreat.PM Go.Proofs.YtopnfhlgaiocpaaGreat.PN Go.Proofs
set_option maxRecDepth 100000
set_option linter.unusedVariables false
theorem f92_ok {k a r} (h : f92 k a = some r) : FOk 92 [.s a] [] (f92.o r) :=
 fok0 [pf47] (.skip (.both (.l (.l (.both (.l (.l (.l (.l .all)))) (.r (.r (.r (.r .all))))))) (.r (.r .all)))) (k := k) (o := f92.o) Tryz.func92 ((by kernel_rfl : (f92.start k a).run Empty.elim = f92 k a).trans h)
def pf92 : Pk Tryz.prog CC0 P0 G := ⟨92, sf92, fun k => sum_auto (@f92_ok k)⟩
end Go.Proofs.YtopnfhlgaiocpaaGreat.P
namespace Go.Proofs.YtopnfhlgaiocpaaGreat.P
open Go Go.Proofs.YtopnfhlgaiocpaaGreat.PM Go.Proofs.YtopnfhlgaiocpaaGreat.PN Go.Proofs
set_option maxRecDepth 100000
set_option linter.unusedVariables false
theorem f72_ok {k a b r} (h : f72 k a b = some r) : FOk 72 [.agg [.id .i64 0 a, .s b]] [] (f72.o r) :=
 fok0 [pf47, pf49, pf92] (.skip (.skip (.skip (.both (.l (.both (.l (.both (.l (.both (.l (.l (.both (.l (.skip (.l .all))) (.r (.r .all))))) (.r (.r .all)))) (.r .all))) (.r .all))) (.r .all))))) (k := k) (o := f72.o) Tryz.func72 ((by kernel_rfl : (f72.start k a b).run Empty.elim = f72 k a b).trans h)
def pf72 : Pk Tryz.prog CC0 P0 G := ⟨72, sf72, fun k => sum_auto (@f72_ok k)⟩
end Go.Proofs.YtopnfhlgaiocpaaGreat.P
namespace Go.Proofs.YtopnfhlgaiocpaaGreat.P
open Go Go.Proofs.YtopnfhlgaiocpaaGreat.PM Go.Proofs.YtopnfhlgaiocpaaGreat.PN Go.Proofs
set_option maxRecDepth 100000
set_option linter.unusedVariables false
theorem f48_ok {k a b r} (h : f48 k a b = some r) : FOk 48 [.s a, .id .i64 2 b] [] (f48.o r) :=
 fok [pf25, pf46, pf72] .all f48.st f48.hint (D := f48.D) f48.blk (o := f48.o) Tryz.func48 ((by kernel_rfl : (f48.start k a b).run (f48.D k) = f48 k a b).trans h) (D0 := fun x => by cases x <;> kernel_rfl) (DS := fun k x => by cases x <;> kernel_rfl)
def pf48 : Pk Tryz.prog CC0 P0 G := ⟨48, sf48, fun k => sum_auto (@f48_ok k)⟩
end Go.Proofs.YtopnfhlgaiocpaaGreat.P
namespace Go.Proofs.YtopnfhlgaiocpaaGreat.P
open Go Go.Proofs.YtopnfhlgaiocpaaGreat.PM Go.Proofs.YtopnfhlgaiocpaaGreat.PN Go.Proofs
set_option maxRecDepth 100000
set_option linter.unusedVariables false
theorem f19_ok {k a b c r} (h : f19 k a b c = some r) : FOk 19 [.agg [.sl 3 a [], .sl 3 b [], .sl 4 c []]] [] (f19.o r) :=
 fok0 [pf23, pf46, pf47, pf48] (.skip (.both (.skip (.both (.l (.l (.l (.both (.skip (.skip (.both (.l (.l (.both (.l (.l (.both (.l (.l .all)) (.r (.r .all))))) (.r (.r .all))))) (.r (.r .all))))) .all)))) (.r (.r (.r .all))))) .all)) (k := k) (o := f19.o) Tryz.func19 ((by kernel_rfl : (f19.start k a b c).run Empty.elim = f19 k a b c).trans h)
def pf19 : Pk Tryz.prog CC0 P0 G := ⟨19, sf19, fun k => sum_auto (@f19_ok k)⟩
end Go.Proofs.YtopnfhlgaiocpaaGreat.P
namespace Go.Proofs.YtopnfhlgaiocpaaGreat.P
open Go Go.Proofs.YtopnfhlgaiocpaaGreat.PM Go.Proofs.YtopnfhlgaiocpaaGreat.PN Go.Proofs
set_option maxRecDepth 100000
set_option linter.unusedVariables false
theorem f21_ok {k a b c r} (h : f21 k a b c = some r) : FOk 21 [.agg [.sl 3 a [], .sl 3 b [], .sl 4 c []]] [] (f21.o r) :=
 fok0 [] .all (k := k) (o := f21.o) Tryz.func21 ((by kernel_rfl : (f21.start k a b c).run Empty.elim = f21 k a b c).trans h)
def pf21 : Pk Tryz.prog CC0 P0 G := ⟨21, sf21, fun k => sum_auto (@f21_ok k)⟩
end Go.Proofs.YtopnfhlgaiocpaaGreat.P
namespace Go.Proofs.YtopnfhlgaiocpaaGreat.P
open Go Go.Proofs.YtopnfhlgaiocpaaGreat.PM Go.Proofs.YtopnfhlgaiocpaaGreat.PN Go.Proofs
set_option maxRecDepth 100000
set_option linter.unusedVariables false
theorem f22_ok {k a b c r} (h : f22 k a b c = some r) : FOk 22 [.agg [.id .i64 0 a, .id .i64 0 b, .sl 5 c []]] [] (f22.o r) :=
 fok [pf20, pf49] (.skip (.both (.l (.l (.skip (.l (.l (.both (.l (.l (.l (.l .all)))) (.r (.r (.r (.r .all)))))))))) (.r (.r (.r (.r .all)))))) f22.st f22.hint (D := f22.D) f22.blk (o := f22.o) Tryz.func22 ((by kernel_rfl : (f22.start k a b c).run (f22.D k) = f22 k a b c).trans h) (D0 := fun x => by cases x <;> kernel_rfl) (DS := fun k x => by cases x <;> kernel_rfl)
def pf22 : Pk Tryz.prog CC0 P0 G := ⟨22, sf22, fun k => sum_auto (@f22_ok k)⟩
end Go.Proofs.YtopnfhlgaiocpaaGreat.P
namespace Go.Proofs.YtopnfhlgaiocpaaGreat.P
open Go Go.Proofs.YtopnfhlgaiocpaaGreat.PM Go.Proofs.YtopnfhlgaiocpaaGreat.PN Go.Proofs
set_option maxRecDepth 100000
set_option linter.unusedVariables false
theorem f24_ok {k a b c d e g i r} (h : f24 k a b c d e g i = some r) : FOk 24 [.agg [.sl 3 a [], .sl 3 b [], .sl 4 c []], .agg [.id .i64 0 d, .s e, .s g, .s i]] [] (f24.o r) :=
 fok0 [pf21, pf42, pf43, pf44] (.skip (.both (.skip (.both (.both (.l (.l (.l .all))) (.r (.skip (.r (.r .all))))) .all)) .all)) (k := k) (o := f24.o) Tryz.func24 ((by kernel_rfl : (f24.start k a b c d e g i).run Empty.elim = f24 k a b c d e g i).trans h)
def pf24 : Pk Tryz.prog CC0 P0 G := ⟨24, sf24, fun k => sum_auto (@f24_ok k)⟩
end Go.Proofs.YtopnfhlgaiocpaaGreat.P
namespace Go.Proofs.YtopnfhlgaiocpaaGreat.P
open Go Go.Proofs.YtopnfhlgaiocpaaGreat.PM Go.Proofs.YtopnfhlgaiocpaaGreat.PN Go.Proofs
set_option maxRecDepth 100000
set_option linter.unusedVariables false
theorem f26_ok {k a b c d e r} (h : f26 k a b c d e = some r) : FOk 26 [.agg [.sl 3 a [], .sl 3 b [], .sl 4 c []], .s d, .s e] [] (f26.o r) :=
 fok0 [pf18, pf21, pf23, pf24] (.skip (.both (.skip (.both (.skip (.both (.skip (.both .all (.r .all))) (.r (.r .all)))) (.skip (.both .all (.r .all))))) .all)) (k := k) (o := f26.o) Tryz.func26 ((by kernel_rfl : (f26.start k a b c d e).run Empty.elim = f26 k a b c d e).trans h)
def pf26 : Pk Tryz.prog CC0 P0 G := ⟨26, sf26, fun k => sum_auto (@f26_ok k)⟩
end Go.Proofs.YtopnfhlgaiocpaaGreat.P
namespace Go.Proofs.YtopnfhlgaiocpaaGreat.P
open Go Go.Proofs.YtopnfhlgaiocpaaGreat.PM Go.Proofs.YtopnfhlgaiocpaaGreat.PN Go.Proofs
set_option maxRecDepth 100000
set_option linter.unusedVariables false
theorem f27_ok {k a b c r} (h : f27 k a b c = some r) : FOk 27 [.agg [.sl 3 a [], .sl 3 b [], .sl 4 c []]] [] (f27.o r) :=
 fok0 [pf18] .all (k := k) (o := f27.o) Tryz.func27 ((by kernel_rfl : (f27.start k a b c).run Empty.elim = f27 k a b c).trans h)
def pf27 : Pk Tryz.prog CC0 P0 G := ⟨27, sf27, fun k => sum_auto (@f27_ok k)⟩
end Go.Proofs.YtopnfhlgaiocpaaGreat.P
namespace Go.Proofs.YtopnfhlgaiocpaaGreat.P
open Go Go.Proofs.YtopnfhlgaiocpaaGreat.PM Go.Proofs.YtopnfhlgaiocpaaGreat.PN Go.Proofs
set_option maxRecDepth 100000
set_option linter.unusedVariables false
theorem f6_ok {k a b c d e r} (h : f6 k a b c d e = some r) : FOk 6 [.agg [.sl 3 a [], .sl 3 b [], .sl 4 c []], .id .i64 2 d, .sl 5 e []] [] (f6.o r) :=
 fok [pf18, pf19, pf20, pf21, pf22, pf23, pf24, pf25, pf26, pf27] (.skip (.both (.skip (.both (.l (.l (.l (.l (.skip (.l (.l (.both (.l (.l (.l (.both .all (.skip (.both (.skip (.both (.both (.l (.l (.l (.l .all)))) (.r (.r (.r (.r .all))))) (.both (.l (.l (.l (.l .all)))) (.r (.r (.r (.r .all))))))) .all)))))) (.r (.r (.r .all))))))))))) (.r (.r (.r (.r (.r (.r .all)))))))) .all)) f6.st f6.hint (D := f6.D) f6.blk (o := f6.o) Tryz.func6 ((by kernel_rfl : (f6.start k a b c d e).run (f6.D k) = f6 k a b c d e).trans h) (D0 := fun x => by cases x <;> kernel_rfl) (DS := fun k x => by cases x <;> kernel_rfl)
def pf6 : Pk Tryz.prog CC0 P0 G := ⟨6, sf6, fun k => sum_auto (@f6_ok k)⟩
end Go.Proofs.YtopnfhlgaiocpaaGreat.P
namespace Go.Proofs.YtopnfhlgaiocpaaGreat.P
open Go Go.Proofs.YtopnfhlgaiocpaaGreat.PM Go.Proofs.YtopnfhlgaiocpaaGreat.PN Go.Proofs
set_option maxRecDepth 100000
set_option linter.unusedVariables false
theorem f53_ok {k a b r} (h : f53 k a b = some r) : FOk 53 [.agg [.s a, .s b]] [] (f53.o r) :=
 fok0 [] .all (k := k) (o := f53.o) Tryz.func53 ((by kernel_rfl : (f53.start k a b).run Empty.elim = f53 k a b).trans h)
def pf53 : Pk Tryz.prog CC0 P0 G := ⟨53, sf53, fun k => sum_auto (@f53_ok k)⟩
end Go.Proofs.YtopnfhlgaiocpaaGreat.P
namespace Go.Proofs.YtopnfhlgaiocpaaGreat.P
open Go Go.Proofs.YtopnfhlgaiocpaaGreat.PM Go.Proofs.YtopnfhlgaiocpaaGreat.PN Go.Proofs
set_option maxRecDepth 100000
set_option linter.unusedVariables false
theorem f28_ok {k a r} (h : f28 k a = some r) : FOk 28 [.sl 0 a []] [] (f28.o r) :=
 fok [pf53] .all f28.st (fun _ => .all) (D := f28.D) f28.blk (o := f28.o) Tryz.func28 ((by kernel_rfl : (f28.start k a).run (f28.D k) = f28 k a).trans h) (D0 := fun x => by cases x <;> kernel_rfl) (DS := fun k x => by cases x <;> kernel_rfl)
def pf28 : Pk Tryz.prog CC0 P0 G := ⟨28, sf28, fun k => sum_auto (@f28_ok k)⟩
end Go.Proofs.YtopnfhlgaiocpaaGreat.P
namespace Go.Proofs.YtopnfhlgaiocpaaGreat.P
open Go Go.Proofs.YtopnfhlgaiocpaaGreat.PM Go.Proofs.YtopnfhlgaiocpaaGreat.PN Go.Proofs
set_option maxRecDepth 100000
set_option linter.unusedVariables false
theorem f54_ok {k a b c d r} (h : f54 k a b c d = some r) : FOk 54 [.agg [.id .i64 0 a, .s b, .s c, .s d]] [] (f54.o r) :=
 fok0 [] .all (k := k) (o := f54.o) Tryz.func54 ((by kernel_rfl : (f54.start k a b c d).run Empty.elim = f54 k a b c d).trans h)
def pf54 : Pk Tryz.prog CC0 P0 G := ⟨54, sf54, fun k => sum_auto (@f54_ok k)⟩
end Go.Proofs.YtopnfhlgaiocpaaGreat.P
namespace Go.Proofs.YtopnfhlgaiocpaaGreat.P
open Go Go.Proofs.YtopnfhlgaiocpaaGreat.PM Go.Proofs.YtopnfhlgaiocpaaGreat.PN Go.Proofs
set_option maxRecDepth 100000
set_option linter.unusedVariables false
theorem f29_ok {k a r} (h : f29 k a = some r) : FOk 29 [.sl 1 a []] [] (f29.o r) :=
 fok [pf54] .all f29.st (fun _ => .all) (D := f29.D) f29.blk (o := f29.o) Tryz.func29 ((by kernel_rfl : (f29.start k a).run (f29.D k) = f29 k a).trans h) (D0 := fun x => by cases x <;> kernel_rfl) (DS := fun k x => by cases x <;> kernel_rfl)
def pf29 : Pk Tryz.prog CC0 P0 G := ⟨29, sf29, fun k => sum_auto (@f29_ok k)⟩
end Go.Proofs.YtopnfhlgaiocpaaGreat.P
namespace Go.Proofs.YtopnfhlgaiocpaaGreat.P
open Go Go.Proofs.YtopnfhlgaiocpaaGreat.PM Go.Proofs.YtopnfhlgaiocpaaGreat.PN Go.Proofs
set_option maxRecDepth 100000
set_option linter.unusedVariables false
theorem f7_ok {k a b c r} (h : f7 k a b c = some r) : FOk 7 [.agg [.sl 0 a [], .sl 0 b [], .sl 1 c []]] [] (f7.o r) :=
 fok0 [pf28, pf29] .all (k := k) (o := f7.o) Tryz.func7 ((by kernel_rfl : (f7.start k a b c).run Empty.elim = f7 k a b c).trans h)
def pf7 : Pk Tryz.prog CC0 P0 G := ⟨7, sf7, fun k => sum_auto (@f7_ok k)⟩
end Go.Proofs.YtopnfhlgaiocpaaGreat.P
namespace Go.Proofs.YtopnfhlgaiocpaaGreat.P
open Go Go.Proofs.YtopnfhlgaiocpaaGreat.PM Go.Proofs.YtopnfhlgaiocpaaGreat.PN Go.Proofs
set_option maxRecDepth 100000
set_option linter.unusedVariables false
theorem f30_ok {k a b c r} (h : f30 k a b c = some r) : FOk 30 [.agg [.id .i64 0 a, .id .i64 0 b, .s c]] [] (f30.o r) :=
 fok0 [] .all (k := k) (o := f30.o) Tryz.func30 ((by kernel_rfl : (f30.start k a b c).run Empty.elim = f30 k a b c).trans h)
def pf30 : Pk Tryz.prog CC0 P0 G := ⟨30, sf30, fun k => sum_auto (@f30_ok k)⟩
end Go.Proofs.YtopnfhlgaiocpaaGreat.P
namespace Go.Proofs.YtopnfhlgaiocpaaGreat.P
open Go Go.Proofs.YtopnfhlgaiocpaaGreat.PM Go.Proofs.YtopnfhlgaiocpaaGreat.PN Go.Proofs
set_option maxRecDepth 100000
set_option linter.unusedVariables false
theorem f8_ok {k a r} (h : f8 k a = some r) : FOk 8 [.sl 2 a []] [] (f8.o r) :=
 fok [pf30] .all f8.st (fun _ => .all) (D := f8.D) f8.blk (o := f8.o) Tryz.func8 ((by kernel_rfl : (f8.start k a).run (f8.D k) = f8 k a).trans h) (D0 := fun x => by cases x <;> kernel_rfl) (DS := fun k x => by cases x <;> kernel_rfl)
def pf8 : Pk Tryz.prog CC0 P0 G := ⟨8, sf8, fun k => sum_auto (@f8_ok k)⟩
end Go.Proofs.YtopnfhlgaiocpaaGreat.P
namespace Go.Proofs.YtopnfhlgaiocpaaGreat.P
open Go Go.Proofs.YtopnfhlgaiocpaaGreat.PM Go.Proofs.YtopnfhlgaiocpaaGreat.PN Go.Proofs
set_option maxRecDepth 100000
set_option linter.unusedVariables false
theorem f93_ok {k a r} (h : f93 k a = some r) : FOk 93 [.s a] [] (f93.o r) :=
 fok0 [] (.both (.l (.l (.l .all))) (.r (.r (.r .all)))) (k := k) (o := f93.o) Tryz.func93 ((by kernel_rfl : (f93.start k a).run Empty.elim = f93 k a).trans h)
def pf93 : Pk Tryz.prog CC0 P0 G := ⟨93, sf93, fun k => sum_auto (@f93_ok k)⟩
end Go.Proofs.YtopnfhlgaiocpaaGreat.P
namespace Go.Proofs.YtopnfhlgaiocpaaGreat.P
open Go Go.Proofs.YtopnfhlgaiocpaaGreat.PM Go.Proofs.YtopnfhlgaiocpaaGreat.PN Go.Proofs
set_option maxRecDepth 100000
set_option linter.unusedVariables false
theorem f75_ok {k a r} (h : f75 k a = some r) : FOk 75 [.sl 3 a []] [] (f75.o r) :=
 fok [pf93] .all f75.st f75.hint (D := f75.D) f75.blk (o := f75.o) Tryz.func75 ((by kernel_rfl : (f75.start k a).run (f75.D k) = f75 k a).trans h) (D0 := fun x => by cases x <;> kernel_rfl) (DS := fun k x => by cases x <;> kernel_rfl)
def pf75 : Pk Tryz.prog CC0 P0 G := ⟨75, sf75, fun k => sum_auto (@f75_ok k)⟩
end Go.Proofs.YtopnfhlgaiocpaaGreat.P
namespace Go.Proofs.YtopnfhlgaiocpaaGreat.P
open Go Go.Proofs.YtopnfhlgaiocpaaGreat.PM Go.Proofs.YtopnfhlgaiocpaaGreat.PN Go.Proofs
set_option maxRecDepth 100000
set_option linter.unusedVariables false
theorem f76_ok {k a b c d r} (h : f76 k a b c d = some r) : FOk 76 [.agg [.id .i64 0 a, .s b, .s c, .s d]] [] (f76.o r) :=
 fok0 [pf93] (.both (.skip (.both (.l (.l (.l .all))) (.r (.r (.r .all))))) (.both (.skip (.both (.l (.l (.skip (.l (.both (.l (.l (.l .all))) (.r (.r (.r .all)))))))) (.r (.r (.r .all))))) (.both (.skip (.both (.l (.l (.l (.both (.l (.l (.l .all))) (.r (.r (.r .all))))))) (.r (.r (.r .all))))) .all))) (k := k) (o := f76.o) Tryz.func76 ((by kernel_rfl : (f76.start k a b c d).run Empty.elim = f76 k a b c d).trans h)
def pf76 : Pk Tryz.prog CC0 P0 G := ⟨76, sf76, fun k => sum_auto (@f76_ok k)⟩
end Go.Proofs.YtopnfhlgaiocpaaGreat.P
namespace Go.Proofs.YtopnfhlgaiocpaaGreat.P
open Go Go.Proofs.YtopnfhlgaiocpaaGreat.PM Go.Proofs.YtopnfhlgaiocpaaGreat.PN Go.Proofs
set_option maxRecDepth 100000
set_option linter.unusedVariables false
theorem f86_ok {k a b o0_0 r} (h : f86 k a b o0_0 = some r) : FOk 86 [.agg [.s a, .s b], .ptr 0 (.l 0) 0] [.box true true 0 1 false [.s o0_0]] (f86.o o0_0 r) :=
 fok0 [] .all (k := k) (o := (f86.o o0_0)) Tryz.func86 ((by kernel_rfl : (f86.start k a b o0_0).run Empty.elim = f86 k a b o0_0).trans h)
def pf86 : Pk Tryz.prog CC0 P0 G := ⟨86, sf86, fun k => sum_auto (@f86_ok k)⟩
end Go.Proofs.YtopnfhlgaiocpaaGreat.P
namespace Go.Proofs.YtopnfhlgaiocpaaGreat.P
open Go Go.Proofs.YtopnfhlgaiocpaaGreat.PM Go.Proofs.YtopnfhlgaiocpaaGreat.PN Go.Proofs
set_option maxRecDepth 100000
set_option linter.unusedVariables false
theorem f85_ok {k a o0_0 r} (h : f85 k a o0_0 = some r) : FOk 85 [.sl 3 a [], .fn 86 [.ptr 0 (.l 0) 0]] [.box true true 0 1 false [.s o0_0]] (f85.o r) :=
 fok [pf86] .all f85.st (fun _ => .all) (D := f85.D) f85.blk (o := f85.o) Tryz.func85 ((by kernel_rfl : (f85.start k a o0_0).run (f85.D k) = f85 k a o0_0).trans h) (D0 := fun x => by cases x <;> kernel_rfl) (DS := fun k x => by cases x <;> kernel_rfl)
def pf85 : Pk Tryz.prog CC0 P0 G := ⟨85, sf85, fun k => sum_auto (@f85_ok k)⟩
end Go.Proofs.YtopnfhlgaiocpaaGreat.P
namespace Go.Proofs.YtopnfhlgaiocpaaGreat.P
open Go Go.Proofs.YtopnfhlgaiocpaaGreat.PM Go.Proofs.YtopnfhlgaiocpaaGreat.PN Go.Proofs
set_option maxRecDepth 100000
set_option linter.unusedVariables false
theorem f60_ok {k a b r} (h : f60 k a b = some r) : FOk 60 [.sl 3 a [], .s b] [] (f60.o r) :=
 fok0 [pf85] .all (k := k) (o := f60.o) Tryz.func60 ((by kernel_rfl : (f60.start k a b).run Empty.elim = f60 k a b).trans h)
def pf60 : Pk Tryz.prog CC0 P0 G := ⟨60, sf60, fun k => sum_auto (@f60_ok k)⟩
end Go.Proofs.YtopnfhlgaiocpaaGreat.P
namespace Go.Proofs.YtopnfhlgaiocpaaGreat.P
open Go Go.Proofs.YtopnfhlgaiocpaaGreat.PM Go.Proofs.YtopnfhlgaiocpaaGreat.PN Go.Proofs
set_option maxRecDepth 100000
set_option linter.unusedVariables false
theorem f82_ok {k a r} (h : f82 k a = some r) : FOk 82 [.sl 3 a []] [] (f82.o r) :=
 fok0 [] .all (k := k) (o := f82.o) Tryz.func82 ((by kernel_rfl : (f82.start k a).run Empty.elim = f82 k a).trans h)
def pf82 : Pk Tryz.prog CC0 P0 G := ⟨82, sf82, fun k => sum_auto (@f82_ok k)⟩
end Go.Proofs.YtopnfhlgaiocpaaGreat.P
namespace Go.Proofs.YtopnfhlgaiocpaaGreat.P
open Go Go.Proofs.YtopnfhlgaiocpaaGreat.PM Go.Proofs.YtopnfhlgaiocpaaGreat.PN Go.Proofs
set_option maxRecDepth 100000
set_option linter.unusedVariables false
theorem f107_ok {k : Nat} {a0_0 : ByteArray} {a1_0 : ByteArray} {r : Int} (h : f107 k a0_0 a1_0 = some r) : callT Tryz.prog CC0 P0 107 [T.sc (.string a0_0), T.sc (.string a1_0)] [] = some (T.sc (.int .i64 r), []) := by
 unfold f107 at h
 obtain rfl := Option.some.inj h
 exact callT_prim (d := cmpD) rfl rfl
def pf107 : Pk Tryz.prog CC0 P0 G := ⟨107, sf107, fun k => sum_auto (@f107_ok k)⟩
end Go.Proofs.YtopnfhlgaiocpaaGreat.P
namespace Go.Proofs.YtopnfhlgaiocpaaGreat.P
open Go Go.Proofs.YtopnfhlgaiocpaaGreat.PM Go.Proofs.YtopnfhlgaiocpaaGreat.PN Go.Proofs
set_option maxRecDepth 100000
set_option linter.unusedVariables false
theorem f104_ok {k a b r} (h : f104 k a b = some r) : FOk 104 [.s a, .s b] [] (f104.o r) :=
 fok0 [pf107] .all (k := k) (o := f104.o) Tryz.func104 ((by kernel_rfl : (f104.start k a b).run Empty.elim = f104 k a b).trans h)
def pf104 : Pk Tryz.prog CC0 P0 G := ⟨104, sf104, fun k => sum_auto (@f104_ok k)⟩
end Go.Proofs.YtopnfhlgaiocpaaGreat.P
namespace Go.Proofs.YtopnfhlgaiocpaaGreat.P
open Go Go.Proofs.YtopnfhlgaiocpaaGreat.PM Go.Proofs.YtopnfhlgaiocpaaGreat.PN Go.Proofs
set_option maxRecDepth 100000
set_option linter.unusedVariables false
theorem f103_ok {k a b c r} (h : f103 k a b c = some r) : FOk 103 [.agg [.s a, .s b], .s c] [] (f103.o r) :=
 fok0 [pf104] .all (k := k) (o := f103.o) Tryz.func103 ((by kernel_rfl : (f103.start k a b c).run Empty.elim = f103 k a b c).trans h)
def pf103 : Pk Tryz.prog CC0 P0 G := ⟨103, sf103, fun k => sum_auto (@f103_ok k)⟩
end Go.Proofs.YtopnfhlgaiocpaaGreat.P
namespace Go.Proofs.YtopnfhlgaiocpaaGreat.P
open Go Go.Proofs.YtopnfhlgaiocpaaGreat.PM Go.Proofs.YtopnfhlgaiocpaaGreat.PN Go.Proofs
set_option maxRecDepth 100000
set_option linter.unusedVariables false
theorem f102_ok {k a b r} (h : f102 k a b = some r) : FOk 102 [.sl 3 a [], .s b, .fn 103 []] [] (f102.o r) :=
 fok [pf103] .all f102.st f102.hint (D := f102.D) f102.blk (o := f102.o) Tryz.func102 ((by kernel_rfl : (f102.start k a b).run (f102.D k) = f102 k a b).trans h) (D0 := fun x => by cases x <;> kernel_rfl) (DS := fun k x => by cases x <;> kernel_rfl)
def pf102 : Pk Tryz.prog CC0 P0 G := ⟨102, sf102, fun k => sum_auto (@f102_ok k)⟩
end Go.Proofs.YtopnfhlgaiocpaaGreat.P
namespace Go.Proofs.YtopnfhlgaiocpaaGreat.P
open Go Go.Proofs.YtopnfhlgaiocpaaGreat.PM Go.Proofs.YtopnfhlgaiocpaaGreat.PN Go.Proofs
set_option maxRecDepth 100000
set_option linter.unusedVariables false
theorem f105_ok {k : Nat} {a1_0 : Int} {o0 : List S58} {o1 : List S58} {r : (List S58)} (h : f105 k a1_0 o0 o1 = some r) : callT Tryz.prog CC0 P0 105 [T.win 0 0 o0.length, T.sc (.int .i64 a1_0), T.win 1 0 o1.length] [Ob.mkRow 2 (List.map e58 o0), Ob.mkRow 2 (List.map e58 o1)] = some (T.win 2 0 r.length, [(⟨true, false, true, true, 0, 2, List.map e58 o0⟩ : Ob), Ob.mkRow 2 (List.map e58 o1), Ob.mkRow 2 (List.map e58 r)]) := by
 unfold f105 at h
 obtain ⟨⟨h0, h1, h2, h3, h4⟩, h⟩ := ite_l h
 obtain rfl := Option.some.inj h
 obtain ⟨y, rfl⟩ := List.length_eq_one_iff.1 h2
 refine callT_prim (d := insD 2 32) rfl ?_
 have hl : (o0.take a1_0.toNat ++ ([y] ++ o0.drop a1_0.toNat)).length = o0.length + 1 := by simp only [List.length_append, List.length_take, List.length_cons, List.length_nil, List.length_drop]; omega
 show insD 2 32 [.win 0 0 o0.length, .sc (.int .i64 a1_0), .win 1 0 1] [Ob.mkRow 2 (o0.map e58), Ob.mkRow 2 [e58 y]] = _
 rw [insD_eq, if_pos (by simp only [w58, beq_self_eq_true, Bool.true_and, List.length_map, Bool.and_eq_true, decide_eq_true_eq]; exact ⟨by simp [e58, T.width, T.cells], h0, by omega, by trivial, by unfold most; omega, by unfold most; omega⟩), hl]
 simp [Ob.mkRow]
def pf105 : Pk Tryz.prog CC0 P0 G := ⟨105, sf105, fun k => sum_auto (@f105_ok k)⟩
end Go.Proofs.YtopnfhlgaiocpaaGreat.P
namespace Go.Proofs.YtopnfhlgaiocpaaGreat.P
open Go Go.Proofs.YtopnfhlgaiocpaaGreat.PM Go.Proofs.YtopnfhlgaiocpaaGreat.PN Go.Proofs
set_option maxRecDepth 100000
set_option linter.unusedVariables false
theorem f94_ok {k a b c r} (h : f94 k a b c = some r) : FOk 94 [.sl 3 a [], .agg [.s b, .s c]] [] (f94.o r) :=
 fok0 [pf82, pf102, pf105] .all (k := k) (o := f94.o) Tryz.func94 ((by kernel_rfl : (f94.start k a b c).run Empty.elim = f94 k a b c).trans h)
def pf94 : Pk Tryz.prog CC0 P0 G := ⟨94, sf94, fun k => sum_auto (@f94_ok k)⟩
end Go.Proofs.YtopnfhlgaiocpaaGreat.P
namespace Go.Proofs.YtopnfhlgaiocpaaGreat.P
open Go Go.Proofs.YtopnfhlgaiocpaaGreat.PM Go.Proofs.YtopnfhlgaiocpaaGreat.PN Go.Proofs
set_option maxRecDepth 100000
set_option linter.unusedVariables false
theorem f95_ok {k : Nat} {a1_0 : Int} {a2_0 : Int} {o0 : List S58} {r : (List S58)} (h : f95 k a1_0 a2_0 o0 = some r) : callT Tryz.prog CC0 P0 95 [T.win 0 0 o0.length, T.sc (.int .i64 a1_0), T.sc (.int .i64 a2_0)] [Ob.mkRow 2 (List.map e58 o0)] = some (T.win 1 0 r.length, [(⟨true, false, true, true, 0, 2, List.map e58 o0⟩ : Ob), Ob.mkRow 2 (List.map e58 r)]) := by
 unfold f95 at h
 obtain ⟨⟨h0, h1, h2⟩, h⟩ := ite_l h
 obtain rfl := Option.some.inj h
 refine callT_prim (d := delD 2) rfl ?_
 have hl : (o0.take a1_0.toNat ++ o0.drop (a1_0.toNat + 1)).length = o0.length - 1 := by simp only [List.length_append, List.length_take, List.length_drop]; omega
 simp only [delD, List.length_map]
 rw [if_pos (by simp; omega), hl]
 simp [Ob.dead, Ob.mkRow]
def pf95 : Pk Tryz.prog CC0 P0 G := ⟨95, sf95, fun k => sum_auto (@f95_ok k)⟩
end Go.Proofs.YtopnfhlgaiocpaaGreat.P
namespace Go.Proofs.YtopnfhlgaiocpaaGreat.P
open Go Go.Proofs.YtopnfhlgaiocpaaGreat.PM Go.Proofs.YtopnfhlgaiocpaaGreat.PN Go.Proofs
set_option maxRecDepth 100000
set_option linter.unusedVariables false
theorem f77_ok {k a b c d e r} (h : f77 k a b c d e = some r) : FOk 77 [.agg [.id .i64 0 a, .s b, .s c, .s d], .sl 3 e []] [] (f77.o r) :=
 fok0 [pf60, pf82, pf94, pf95] .all (k := k) (o := f77.o) Tryz.func77 ((by kernel_rfl : (f77.start k a b c d e).run Empty.elim = f77 k a b c d e).trans h)
def pf77 : Pk Tryz.prog CC0 P0 G := ⟨77, sf77, fun k => sum_auto (@f77_ok k)⟩
end Go.Proofs.YtopnfhlgaiocpaaGreat.P
namespace Go.Proofs.YtopnfhlgaiocpaaGreat.P
open Go Go.Proofs.YtopnfhlgaiocpaaGreat.PM Go.Proofs.YtopnfhlgaiocpaaGreat.PN Go.Proofs
set_option maxRecDepth 100000
set_option linter.unusedVariables false
theorem f78_ok {k a b r} (h : f78 k a b = some r) : FOk 78 [.sl 3 a [], .sl 3 b []] [] (f78.o r) :=
 fok [] .all f78.st (fun _ => .all) (D := f78.D) f78.blk (o := f78.o) Tryz.func78 ((by kernel_rfl : (f78.start k a b).run (f78.D k) = f78 k a b).trans h) (D0 := fun x => by cases x <;> kernel_rfl) (DS := fun k x => by cases x <;> kernel_rfl)
def pf78 : Pk Tryz.prog CC0 P0 G := ⟨78, sf78, fun k => sum_auto (@f78_ok k)⟩
end Go.Proofs.YtopnfhlgaiocpaaGreat.P
namespace Go.Proofs.YtopnfhlgaiocpaaGreat.P
open Go Go.Proofs.YtopnfhlgaiocpaaGreat.PM Go.Proofs.YtopnfhlgaiocpaaGreat.PN Go.Proofs
set_option maxRecDepth 100000
set_option linter.unusedVariables false
theorem f55_ok {k a b c r} (h : f55 k a b c = some r) : FOk 55 [.agg [.sl 3 a [], .sl 3 b [], .sl 4 c []]] [] (f55.o r) :=
 fok [pf75, pf76, pf77, pf78] (.skip (.both (.l (.l (.skip (.l (.l (.both (.l (.l (.l (.l .all)))) (.r (.r (.r (.r .all)))))))))) (.r (.r (.r (.r .all)))))) f55.st (fun _ => .all) (D := f55.D) f55.blk (o := f55.o) Tryz.func55 ((by kernel_rfl : (f55.start k a b c).run (f55.D k) = f55 k a b c).trans h) (kt := fun rid q => if rid = 5 ∧ q = 3 then 3 else 0) (D0 := fun x => by cases x <;> kernel_rfl) (DS := fun k x => by cases x <;> kernel_rfl)
def pf55 : Pk Tryz.prog CC0 P0 G := ⟨55, sf55, fun k => sum_auto (@f55_ok k)⟩
end Go.Proofs.YtopnfhlgaiocpaaGreat.P
namespace Go.Proofs.YtopnfhlgaiocpaaGreat.P
open Go Go.Proofs.YtopnfhlgaiocpaaGreat.PM Go.Proofs.YtopnfhlgaiocpaaGreat.PN Go.Proofs
set_option maxRecDepth 100000
set_option linter.unusedVariables false
theorem f96_ok {k a r} (h : f96 k a = some r) : FOk 96 [.agg [], .sl 7 a []] [] (f96.o r) :=
 fok0 [] .all (k := k) (o := f96.o) Tryz.func96 ((by kernel_rfl : (f96.start k a).run Empty.elim = f96 k a).trans h)
def pf96 : Pk Tryz.prog CC0 P0 G := ⟨96, sf96, fun k => sum_auto (@f96_ok k)⟩
end Go.Proofs.YtopnfhlgaiocpaaGreat.P
namespace Go.Proofs.YtopnfhlgaiocpaaGreat.P
open Go Go.Proofs.YtopnfhlgaiocpaaGreat.PM Go.Proofs.YtopnfhlgaiocpaaGreat.PN Go.Proofs
set_option maxRecDepth 100000
set_option linter.unusedVariables false
theorem f97_ok {k a r} (h : f97 k a = some r) : FOk 97 [.s a] [] (f97.o r) :=
 fok [] .all f97.st (fun _ => .all) (D := f97.D) f97.blk (o := f97.o) Tryz.func97 ((by kernel_rfl : (f97.start k a).run (f97.D k) = f97 k a).trans h) (D0 := fun x => by cases x <;> kernel_rfl) (DS := fun k x => by cases x <;> kernel_rfl)
def pf97 : Pk Tryz.prog CC0 P0 G := ⟨97, sf97, fun k => sum_auto (@f97_ok k)⟩
end Go.Proofs.YtopnfhlgaiocpaaGreat.P
namespace Go.Proofs.YtopnfhlgaiocpaaGreat.P
open Go Go.Proofs.YtopnfhlgaiocpaaGreat.PM Go.Proofs.YtopnfhlgaiocpaaGreat.PN Go.Proofs
set_option maxRecDepth 100000
set_option linter.unusedVariables false
theorem f79_ok {k a r} (h : f79 k a = some r) : FOk 79 [.s a] [] (f79.o r) :=
 fok [pf96, pf97] .all f79.st f79.hint (D := f79.D) f79.blk (o := f79.o) Tryz.func79 ((by kernel_rfl : (f79.start k a).run (f79.D k) = f79 k a).trans h) (D0 := fun x => by cases x <;> kernel_rfl) (DS := fun k x => by cases x <;> kernel_rfl)
def pf79 : Pk Tryz.prog CC0 P0 G := ⟨79, sf79, fun k => sum_auto (@f79_ok k)⟩
end Go.Proofs.YtopnfhlgaiocpaaGreat.P
namespace Go.Proofs.YtopnfhlgaiocpaaGreat.P
open Go Go.Proofs.YtopnfhlgaiocpaaGreat.PM Go.Proofs.YtopnfhlgaiocpaaGreat.PN Go.Proofs
set_option maxRecDepth 100000
set_option linter.unusedVariables false
theorem f57_ok {k a b c r} (h : f57 k a b c = some r) : FOk 57 [.id .i64 1 a, .id .i64 2 b, .id .i64 3 c] [] (f57.o r) :=
 fok0 [] (.both (.l (.l (.l .all))) (.r (.r (.r .all)))) (k := k) (o := f57.o) Tryz.func57 ((by kernel_rfl : (f57.start k a b c).run Empty.elim = f57 k a b c).trans h)
def pf57 : Pk Tryz.prog CC0 P0 G := ⟨57, sf57, fun k => sum_auto (@f57_ok k)⟩
end Go.Proofs.YtopnfhlgaiocpaaGreat.P
namespace Go.Proofs.YtopnfhlgaiocpaaGreat.P
open Go Go.Proofs.YtopnfhlgaiocpaaGreat.PM Go.Proofs.YtopnfhlgaiocpaaGreat.PN Go.Proofs
set_option maxRecDepth 100000
set_option linter.unusedVariables false
theorem f83_ok {k a r} (h : f83 k a = some r) : FOk 83 [.id .i64 1 a] [] (f83.o r) :=
 fok0 [pf57] .all (k := k) (o := f83.o) Tryz.func83 ((by kernel_rfl : (f83.start k a).run Empty.elim = f83 k a).trans h)
def pf83 : Pk Tryz.prog CC0 P0 G := ⟨83, sf83, fun k => sum_auto (@f83_ok k)⟩
end Go.Proofs.YtopnfhlgaiocpaaGreat.P
namespace Go.Proofs.YtopnfhlgaiocpaaGreat.P
open Go Go.Proofs.YtopnfhlgaiocpaaGreat.PM Go.Proofs.YtopnfhlgaiocpaaGreat.PN Go.Proofs
set_option maxRecDepth 100000
set_option linter.unusedVariables false
theorem f80_ok {k a r} (h : f80 k a = some r) : FOk 80 [.s a] [] (f80.o r) :=
 fok [pf83] .all f80.st f80.hint (D := f80.D) f80.blk (o := f80.o) Tryz.func80 ((by kernel_rfl : (f80.start k a).run (f80.D k) = f80 k a).trans h) (D0 := fun x => by cases x <;> kernel_rfl) (DS := fun k x => by cases x <;> kernel_rfl)
def pf80 : Pk Tryz.prog CC0 P0 G := ⟨80, sf80, fun k => sum_auto (@f80_ok k)⟩
end Go.Proofs.YtopnfhlgaiocpaaGreat.P
namespace Go.Proofs.YtopnfhlgaiocpaaGreat.P
open Go Go.Proofs.YtopnfhlgaiocpaaGreat.PM Go.Proofs.YtopnfhlgaiocpaaGreat.PN Go.Proofs
set_option maxRecDepth 100000
set_option linter.unusedVariables false
theorem f84_ok {k a b c r} (h : f84 k a b c = some r) : FOk 84 [.agg [.id .i64 0 a, .id .i64 0 b, .s c]] [] (f84.o r) :=
 fok0 [pf57] (.skip (.both (.l (.l (.skip (.l (.both (.l (.l (.l (.l .all)))) (.r (.r (.r (.r .all))))))))) (.r (.r (.r .all))))) (k := k) (o := f84.o) Tryz.func84 ((by kernel_rfl : (f84.start k a b c).run Empty.elim = f84 k a b c).trans h)
def pf84 : Pk Tryz.prog CC0 P0 G := ⟨84, sf84, fun k => sum_auto (@f84_ok k)⟩
end Go.Proofs.YtopnfhlgaiocpaaGreat.P
namespace Go.Proofs.YtopnfhlgaiocpaaGreat.P
open Go Go.Proofs.YtopnfhlgaiocpaaGreat.PM Go.Proofs.YtopnfhlgaiocpaaGreat.PN Go.Proofs
set_option maxRecDepth 100000
set_option linter.unusedVariables false
theorem f98_ok {k a r} (h : f98 k a = some r) : FOk 98 [.s a] [] (f98.o r) :=
 fok0 [pf80] (.skip (.both (.l (.l (.both (.l (.l (.l (.l .all)))) (.r (.r (.r (.r .all))))))) (.r (.r .all)))) (k := k) (o := f98.o) Tryz.func98 ((by kernel_rfl : (f98.start k a).run Empty.elim = f98 k a).trans h)
def pf98 : Pk Tryz.prog CC0 P0 G := ⟨98, sf98, fun k => sum_auto (@f98_ok k)⟩
end Go.Proofs.YtopnfhlgaiocpaaGreat.P
namespace Go.Proofs.YtopnfhlgaiocpaaGreat.P
open Go Go.Proofs.YtopnfhlgaiocpaaGreat.PM Go.Proofs.YtopnfhlgaiocpaaGreat.PN Go.Proofs
set_option maxRecDepth 100000
set_option linter.unusedVariables false
theorem f81_ok {k a b r} (h : f81 k a b = some r) : FOk 81 [.agg [.id .i64 0 a, .s b]] [] (f81.o r) :=
 fok0 [pf80, pf84, pf98] (.skip (.skip (.skip (.both (.l (.l (.both (.l (.l (.both (.l (.l (.both (.l (.l (.both (.l (.skip (.l (.l .all)))) (.r (.r (.r .all)))))) (.r (.r .all))))) (.r (.r .all))))) (.r (.r .all))))) (.r (.r .all)))))) (k := k) (o := f81.o) Tryz.func81 ((by kernel_rfl : (f81.start k a b).run Empty.elim = f81 k a b).trans h)
def pf81 : Pk Tryz.prog CC0 P0 G := ⟨81, sf81, fun k => sum_auto (@f81_ok k)⟩
end Go.Proofs.YtopnfhlgaiocpaaGreat.P
