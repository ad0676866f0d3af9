/- Part of proofs of this seat: no statement of its own. -/
import Derived.IntWalk
import Derived.Lib.Bytealg
import Derived.Lib.Strings
import Derived.Test.YtfjoamlgbegpgaaDB
set_option linter.unusedVariables false
set_option linter.unusedSimpArgs false
namespace Go.Proofs.Ytfjoamlgbegpgaa.P
open Go Go.Proofs.Ytfjoamlgbegpgaa.PM Go.Proofs
theorem rdF_nat (l : List S80) (i : Nat) (h : i < l.length) : at' l (i : Int) = l[i] := at_nat l i h
theorem rdO_nat (l : List S73) (i : Nat) (h : i < l.length) : at' l (i : Int) = l[i] := at_nat l i h
theorem wr {n : Int} (h1 : -9223372036854775808 ≤ n) (h2 : n ≤ 9223372036854775807) : IntKind.i64.wrap n = n := wrap_i64 h1 h2
theorem bless_lt : ∀ (x y : List UInt8), Op.bytesLess x y = decide (x < y)
  | [], [] => by simp [Op.bytesLess]
  | [], _ :: _ => by simp [Op.bytesLess]
  | _ :: _, [] => by simp [Op.bytesLess]
  | a :: x, b :: y => by
    rw [Op.bytesLess, bless_lt x y]
    rw [Bool.eq_iff_iff]
    simp [List.cons_lt_cons_iff]
theorem bless_irrefl (x : List UInt8) : Op.bytesLess x x = false := by
  rw [bless_lt]
  exact decide_eq_false (List.lt_irrefl x)
theorem bless_trans {x y z : List UInt8} (h : Op.bytesLess x y = true) (k : Op.bytesLess y z = true) : Op.bytesLess x z = true := by
  rw [bless_lt, decide_eq_true_eq] at *
  exact List.lt_trans h k
theorem bless_asymm {x y : List UInt8} (h : Op.bytesLess x y = true) : Op.bytesLess y x = false := by
  rw [bless_lt, decide_eq_true_eq] at h
  rw [bless_lt]
  exact decide_eq_false (List.lt_asymm h)
theorem bless_tri (x y : List UInt8) : Op.bytesLess x y = true ∨ x = y ∨ Op.bytesLess y x = true := by
  rw [bless_lt, bless_lt, decide_eq_true_eq, decide_eq_true_eq]
  by_cases h : x < y
  · exact .inl h
  · rcases List.le_iff_lt_or_eq.1 (List.not_lt.1 h) with h | h
    · exact .inr (.inr h)
    · exact .inr (.inl h.symm)
theorem cmp_neg (a b : List UInt8) : Lib.compareBytes a b < 0 ↔ Op.bytesLess a b = true := by
  induction a generalizing b with
  | nil => cases b <;> simp [Lib.compareBytes, Op.bytesLess]
  | cons x a ih =>
    cases b with
    | nil => simp [Lib.compareBytes, Op.bytesLess]
    | cons y b =>
      have := ih b
      rw [Op.bytesLess, Lib.compareBytes]
      by_cases h1 : x < y
      · simp [h1]
      · by_cases h2 : x = y
        · subst h2
          simpa [h1] using this
        · have h3 : y < x := by
            rw [UInt8.lt_iff_toNat_lt] at h1 ⊢
            have : x.toNat ≠ y.toNat := fun h => h2 (UInt8.toNat_inj.1 h)
            omega
          simp [h1, h2, h3]
theorem cmp_zero (a b : List UInt8) : Lib.compareBytes a b = 0 ↔ a = b := by
  induction a generalizing b with
  | nil => cases b <;> simp [Lib.compareBytes]
  | cons x a ih =>
    cases b with
    | nil => simp [Lib.compareBytes]
    | cons y b =>
      have := ih b
      rw [Lib.compareBytes]
      by_cases h1 : x < y
      · have : x ≠ y := fun h => by subst h; exact absurd h1 (by rw [UInt8.lt_iff_toNat_lt]; omega)
        simp [h1, this]
      · by_cases h3 : y < x
        · have : x ≠ y := fun h => by subst h; exact absurd h3 (by rw [UInt8.lt_iff_toNat_lt]; omega)
          simp [h1, h3, this]
        · have h2 : x = y := by
            rw [UInt8.lt_iff_toNat_lt] at h1 h3
            exact UInt8.toNat_inj.1 (by omega)
          subst h2
          simp [h1, this]
theorem bs_toList (s : ByteArray) : s.toList = s.data.toList := ByteArray.toList_eq s
theorem bs_inj {a b : ByteArray} : a.toList = b.toList ↔ a = b := by
  constructor
  · intro h
    rw [bs_toList, bs_toList] at h
    exact ByteArray.ext (Array.toList_inj.1 h)
  · rintro rfl
    rfl
def idxP {α : Type} (p : α → Bool) (xs : List α) : Int := match xs.findIdx? p with
  | some i => (i : Int)
  | none => -1
theorem idxP_any {α : Type} (p : α → Bool) (xs : List α) : decide (0 ≤ idxP p xs) = xs.any p := by
  unfold idxP
  cases h : xs.findIdx? p with
  | none =>
    rw [List.findIdx?_eq_none_iff] at h
    have : xs.any p = false := by
      rw [List.any_eq_false]
      intro x hx
      simp [h x hx]
    rw [this]
    rfl
  | some i =>
    rw [List.findIdx?_eq_some_iff_getElem] at h
    obtain ⟨hi, hp, _⟩ := h
    have : xs.any p = true := List.any_eq_true.2 ⟨_, List.getElem_mem hi, hp⟩
    rw [this]
    exact decide_eq_true (by show (0 : Int) ≤ (i : Int); omega)
theorem getD_mem {α : Type} (z : α) (xs : List α) (i : Int) (h0 : 0 ≤ i) (h1 : i < xs.length) : xs.getD i.toNat z ∈ xs := by
  have h : i.toNat < xs.length := by omega
  rw [List.getD_eq_getElem?_getD, List.getElem?_eq_getElem h]
  exact List.getElem_mem h
theorem idxG_hit {α : Type} (z : α) (p : α → Bool) (xs : List α) (i : Int) (h0 : 0 ≤ i) (h1 : i < xs.length) (hp : p (xs.getD i.toNat z) = true) (hn : ∀ j : Nat, j < i.toNat → p (xs.getD j z) = false) : idxP p xs = i := by
  have h : i.toNat < xs.length := by omega
  have e : xs.findIdx? p = some i.toNat := by
    rw [List.findIdx?_eq_some_iff_getElem]
    refine ⟨h, ?_, ?_⟩
    · rw [List.getD_eq_getElem?_getD, List.getElem?_eq_getElem h] at hp
      exact hp
    · intro j hj
      have := hn j hj
      rw [List.getD_eq_getElem?_getD, List.getElem?_eq_getElem (by omega)] at this
      simp at this ⊢
      exact this
  unfold idxP
  rw [e]
  show ((i.toNat : Nat) : Int) = i
  omega
theorem idxG_miss {α : Type} (z : α) (p : α → Bool) (xs : List α) (i : Int) (h1 : (xs.length : Int) ≤ i) (hn : ∀ j : Nat, j < i.toNat → p (xs.getD j z) = false) : idxP p xs = -1 := by
  have e : xs.findIdx? p = none := by
    rw [List.findIdx?_eq_none_iff]
    intro x hx
    obtain ⟨j, hj, rfl⟩ := List.getElem_of_mem hx
    have := hn j (by omega)
    rw [List.getD_eq_getElem?_getD, List.getElem?_eq_getElem hj] at this
    exact this
  unfold idxP
  rw [e]
theorem missG_step {α : Type} (z : α) (p : α → Bool) (xs : List α) (i : Int) (h0 : 0 ≤ i) (hp : p (xs.getD i.toNat z) = false) (hn : ∀ j : Nat, j < i.toNat → p (xs.getD j z) = false) : ∀ j : Nat, j < (i + 1).toNat → p (xs.getD j z) = false := by
  intro j hj
  by_cases e : (j : Int) = i
  · rw [show j = i.toNat by omega]; exact hp
  · exact hn j (by omega)
def cntLt {α : Type} (cf : α → Int) (xs : List α) : Nat := xs.countP (fun x => decide (cf x < 0))
def hitAt {α : Type} (z : α) (cf : α → Int) (xs : List α) : Bool := decide (cntLt cf xs < xs.length) && decide (cf (xs.getD (cntLt cf xs) z) = 0)
theorem countP_bound {α : Type} (p : α → Bool) (z : α) (l : List α) (i : Nat) (hi : i ≤ l.length) (h1 : ∀ t, t < i → p (l.getD t z) = true) (h2 : ∀ t, i ≤ t → t < l.length → p (l.getD t z) = false) : l.countP p = i := by
  conv => lhs; rw [← List.take_append_drop i l]
  rw [List.countP_append]
  have e1 : (l.take i).countP p = i := by
    rw [List.countP_eq_length.2]
    · rw [List.length_take]; omega
    · intro a ha
      obtain ⟨t, ht, rfl⟩ := List.getElem_of_mem ha
      rw [List.length_take] at ht
      have := h1 t (by omega)
      rw [List.getD_eq_getElem?_getD, List.getElem?_eq_getElem (by omega)] at this
      rw [List.getElem_take]
      exact this
  have e2 : (l.drop i).countP p = 0 := by
    rw [List.countP_eq_zero]
    intro a ha
    obtain ⟨t, ht, rfl⟩ := List.getElem_of_mem ha
    rw [List.length_drop] at ht
    have := h2 (i + t) (by omega) (by omega)
    rw [List.getD_eq_getElem?_getD, List.getElem?_eq_getElem (by omega)] at this
    rw [List.getElem_drop]
    simpa using this
  omega
def nameIs (n : ByteArray) (x : S80) : Bool := x.f0.toList == n.toList
def nameCmp (n : ByteArray) (x : S80) : Int := Lib.compareBytes x.f0.data.toList n.data.toList
def risesF (l : List S80) : Prop := l.Pairwise (fun a b => Op.bytesLess a.f0.toList b.f0.toList = true)
instance (l : List S80) : Decidable (risesF l) := by unfold risesF; infer_instance
def putF (l : List S80) (n d : ByteArray) : List S80 :=
  if hitAt (default : S80) (nameCmp n) l = true then l.set (cntLt (nameCmp n) l) ⟨n, d⟩ else l.take (cntLt (nameCmp n) l) ++ (⟨n, d⟩ :: l.drop (cntLt (nameCmp n) l))
theorem risesF_mono {l : List S80} (h : risesF l) (n : ByteArray) (a b : Nat) (hab : a ≤ b) (hb : b < l.length) (hlt : nameCmp n (l.getD b (default : S80)) < 0) : nameCmp n (l.getD a (default : S80)) < 0 := by
  by_cases he : a = b
  · rw [he]; exact hlt
  · have ha : a < l.length := by omega
    have hp := List.pairwise_iff_getElem.1 h a b ha hb (by omega)
    unfold nameCmp at hlt ⊢
    rw [cmp_neg] at hlt ⊢
    rw [List.getD_eq_getElem?_getD, List.getElem?_eq_getElem hb] at hlt
    rw [List.getD_eq_getElem?_getD, List.getElem?_eq_getElem ha]
    rw [bs_toList, bs_toList] at hp
    exact bless_trans hp hlt
theorem cntLt_le {α : Type} (cf : α → Int) (l : List α) : cntLt cf l ≤ l.length := List.countP_le_length
def onF (l : List S80) (k : Int) (n t d : ByteArray) : List S80 × Bool :=
  if k = 1 then (putF l n (if 0 ≤ idxP (nameIs n) l then (at' l (idxP (nameIs n) l)).f1 ++ d else d), true)
  else if 0 ≤ idxP (nameIs n) l then
    if k = 3 then (l.take (idxP (nameIs n) l).toNat ++ l.drop ((idxP (nameIs n) l).toNat + 1), true)
    else (putF (l.take (idxP (nameIs n) l).toNat ++ l.drop ((idxP (nameIs n) l).toNat + 1)) t (at' l (idxP (nameIs n) l)).f1, true)
  else (l, false)
theorem idxP_lt {α : Type} (p : α → Bool) (l : List α) : idxP p l < (l.length : Int) := by
  unfold idxP
  cases h : l.findIdx? p with
  | none => simp <;> omega
  | some i =>
    rw [List.findIdx?_eq_some_iff_getElem] at h
    obtain ⟨hi, _⟩ := h
    simpa using hi
theorem idxP_ge {α : Type} (p : α → Bool) (l : List α) : -1 ≤ idxP p l := by
  unfold idxP
  cases h : l.findIdx? p with
  | none => simp
  | some i => simp <;> omega
theorem idxP_at {α : Type} (p : α → Bool) (z : α) (l : List α) (h : 0 ≤ idxP p l) : p (l.getD (idxP p l).toNat z) = true := by
  unfold idxP at h ⊢
  cases hf : l.findIdx? p with
  | none => rw [hf] at h; simp at h
  | some i =>
    rw [List.findIdx?_eq_some_iff_getElem] at hf
    obtain ⟨hi, hp, _⟩ := hf
    simp only [Int.toNat_natCast]
    rw [List.getD_eq_getElem?_getD, List.getElem?_eq_getElem hi]
    exact hp
theorem risesF_cut {l : List S80} (h : risesF l) (i : Nat) : risesF (l.take i ++ l.drop (i + 1)) := by
  refine List.Pairwise.sublist ?_ h
  conv => rhs; rw [← List.take_append_drop i l]
  refine List.Sublist.append (List.Sublist.refl _) ?_
  rw [← List.drop_drop]
  exact List.drop_sublist _ _
def nameB (n : ByteArray) : Bool := decide (1 ≤ n.size) && decide (n.size ≤ 100)
def upB : Option ByteArray → ByteArray → Bool
  | none, _ => true
  | some q, n => Op.bytesLess q.toList n.toList
def namesB (p : Option ByteArray) : List S80 → Bool
  | [] => true
  | x :: r => nameB x.f0 && (upB p x.f0 && namesB (some x.f0) r)
def sumF (l : List S80) : Nat := (l.map (fun x => x.f1.size)).sum
def filesB (l : List S80) : Bool := namesB none l && (decide (sumF l ≤ 200000) && decide (l.length ≤ 60))
def smallF (l : List S80) : Prop := ∀ x ∈ l, x.f1.size ≤ 1099511627776
def prevF (l : List S80) (i : Nat) : Option ByteArray := if i = 0 then none else some (at' l ((i - 1 : Nat) : Int)).f0
theorem prevF_succ (l : List S80) (i : Nat) (h : i < l.length) : prevF l (i + 1) = some l[i].f0 := by
  unfold prevF
  rw [if_neg (by omega), Nat.add_sub_cancel, rdF_nat l i h]
theorem namesB_step (l : List S80) (i : Nat) (h : i < l.length) : namesB (prevF l i) (l.drop i) = (nameB l[i].f0 && ((if i = 0 then true else Op.bytesLess (at' l ((i - 1 : Nat) : Int)).f0.toList l[i].f0.toList) && namesB (prevF l (i + 1)) (l.drop (i + 1)))) := by
  rw [List.drop_eq_getElem_cons h, namesB, prevF_succ l i h]
  unfold prevF
  by_cases hi : i = 0
  · rw [if_pos hi, if_pos hi]
    rfl
  · rw [if_neg hi, if_neg hi]
    rfl
theorem sumF_step (l : List S80) (i : Nat) (h : i < l.length) : sumF (l.drop i) = l[i].f1.size + sumF (l.drop (i + 1)) := by
  rw [List.drop_eq_getElem_cons h]
  unfold sumF
  rw [List.map_cons, List.sum_cons]
theorem sumF_end (l : List S80) (i : Nat) (h : l.length ≤ i) : sumF (l.drop i) = 0 := by
  rw [List.drop_of_length_le h]
  rfl
theorem namesB_end (l : List S80) (i : Nat) (h : l.length ≤ i) : namesB (prevF l i) (l.drop i) = true := by
  rw [List.drop_of_length_le h]
  rfl
theorem namesB_rise : ∀ (l : List S80) (p : Option ByteArray), namesB p l = true → risesF l ∧ ∀ q, p = some q → ∀ x ∈ l, Op.bytesLess q.toList x.f0.toList = true
  | [], p, _ => ⟨List.Pairwise.nil, fun _ _ x hx => by cases hx⟩
  | x :: r, p, h => by
    rw [namesB, Bool.and_eq_true, Bool.and_eq_true] at h
    obtain ⟨_, h1, h2⟩ := h
    obtain ⟨i1, i2⟩ := namesB_rise r _ h2
    refine ⟨List.Pairwise.cons (fun y hy => i2 _ rfl y hy) i1, ?_⟩
    rintro q rfl y hy
    rcases List.mem_cons.1 hy with rfl | hy
    · exact h1
    · exact bless_trans h1 (i2 _ rfl y hy)
theorem mem_sumF (l : List S80) (x : S80) (hx : x ∈ l) : x.f1.size ≤ sumF l := by
  induction l with
  | nil => cases hx
  | cons y r ih =>
    unfold sumF at ih ⊢
    rw [List.map_cons, List.sum_cons]
    rcases List.mem_cons.1 hx with rfl | hx
    · omega
    · have := ih hx
      omega
theorem filesB_said {l : List S80} (h : filesB l = true) : risesF l ∧ l.length ≤ 60 ∧ ∀ x ∈ l, x.f1.size ≤ 200000 := by
  unfold filesB at h
  rw [Bool.and_eq_true, Bool.and_eq_true, decide_eq_true_eq, decide_eq_true_eq] at h
  exact ⟨(namesB_rise l none h.1).1, h.2.2, fun x hx => by have := mem_sumF l x hx; omega⟩
def eqF (a b : S80) : Bool := (a.f0.toList == b.f0.toList) && (a.f1.toList == b.f1.toList)
def sameF : List S80 → List S80 → Bool
  | [], [] => true
  | a :: l, b :: m => eqF a b && sameF l m
  | _, _ => false
theorem sameF_iff : ∀ (l m : List S80), sameF l m = true ↔ l = m
  | [], [] => by simp [sameF]
  | [], _ :: _ => by simp [sameF]
  | _ :: _, [] => by simp [sameF]
  | a :: l, b :: m => by
    rw [sameF, Bool.and_eq_true, sameF_iff l m]
    unfold eqF
    rw [Bool.and_eq_true, beq_iff_eq, beq_iff_eq, bs_inj, bs_inj]
    constructor
    · rintro ⟨⟨h1, h2⟩, rfl⟩
      cases a
      cases b
      simp_all
    · intro h
      injection h with h1 h2
      subst h1
      exact ⟨⟨rfl, rfl⟩, h2⟩
theorem sameF_len : ∀ (l m : List S80), l.length ≠ m.length → sameF l m = false
  | [], [], h => absurd rfl h
  | [], _ :: _, _ => rfl
  | _ :: _, [], _ => rfl
  | a :: l, b :: m, h => by rw [sameF, sameF_len l m (by simpa using h), Bool.and_false]
theorem sameF_step (l m : List S80) (i : Nat) (h : i < l.length) (h' : i < m.length) : sameF (l.drop i) (m.drop i) = (eqF l[i] m[i] && sameF (l.drop (i + 1)) (m.drop (i + 1))) := by
  rw [List.drop_eq_getElem_cons h, List.drop_eq_getElem_cons h', sameF]
def emptyB (s : ByteArray) : Bool := s.toList == ([] : List UInt8)
def formB (k : Int) (n t d : ByteArray) : Bool :=
  if k = 1 then nameB n && emptyB t else if k = 2 then nameB n && (nameB t && emptyB d) else if k = 3 then nameB n && (emptyB t && emptyB d) else false
def putS (n d : ByteArray) : Bool → List S80 → List S80
  | done, [] => if done then [] else [⟨n, d⟩]
  | done, x :: r => (if !done && !(Op.bytesLess x.f0.toList n.toList) then [⟨n, d⟩] else []) ++ ((if nameIs n x then [] else [x]) ++ putS n d (done || !(Op.bytesLess x.f0.toList n.toList)) r)
def runB (live : List S80) : List S80 → List S73 → Bool
  | now, [] => sameF now live
  | now, op :: r => formB op.f0 op.f1 op.f2 op.f3 && ((onF now op.f0 op.f1 op.f2 op.f3).2 && (filesB (onF now op.f0 op.f1 op.f2 op.f3).1 && runB live (onF now op.f0 op.f1 op.f2 op.f3).1 r))
def diskB (live safe : List S80) (ops : List S73) : Bool := filesB live && (filesB safe && (decide (ops.length ≤ 200) && runB live safe ops))
theorem onF_small {now : List S80} (hn : ∀ x ∈ now, x.f1.size ≤ 200000) (k : Int) (n t d : ByteArray) (hd : d.size ≤ 1099511627776) : (onF now k n t d).2 = true → ∀ x ∈ (onF now k n t d).1, x.f1.size ≤ 1099512000000 := by
  have hput : ∀ (l : List S80) (m e : ByteArray), (∀ x ∈ l, x.f1.size ≤ 200000) → e.size ≤ 1099512000000 → ∀ x ∈ putF l m e, x.f1.size ≤ 1099512000000 := by
    intro l m e hl he x hx
    unfold putF at hx
    split at hx
    · rcases List.mem_or_eq_of_mem_set hx with hx | rfl
      · have := hl x hx; omega
      · exact he
    · rcases List.mem_append.1 hx with hx | hx
      · have := hl x (List.mem_of_mem_take hx); omega
      · rcases List.mem_cons.1 hx with rfl | hx
        · exact he
        · have := hl x (List.mem_of_mem_drop hx); omega
  have hcut : ∀ x ∈ now.take (idxP (nameIs n) now).toNat ++ now.drop ((idxP (nameIs n) now).toNat + 1), x.f1.size ≤ 200000 := by
    intro x hx
    rcases List.mem_append.1 hx with hx | hx
    · exact hn x (List.mem_of_mem_take hx)
    · exact hn x (List.mem_of_mem_drop hx)
  have hat : 0 ≤ idxP (nameIs n) now → (at' now (idxP (nameIs n) now)).f1.size ≤ 200000 := fun h => hn _ (getD_mem (default : S80) now _ h (idxP_lt _ _))
  unfold onF
  split
  · intro _
    refine hput now n _ hn ?_
    split
    · rw [ByteArray.size_append]
      have := hat (by assumption)
      omega
    · omega
  · split
    · split
      · intro _ x hx
        have := hcut x hx
        omega
      · intro _
        refine hput _ t _ hcut ?_
        have := hat (by assumption)
        omega
    · intro h
      cases h
theorem putS_true (n d : ByteArray) : ∀ l : List S80, putS n d true l = l.filter (fun x => !nameIs n x)
  | [] => rfl
  | x :: r => by
    rw [putS, List.filter_cons, Bool.true_or, putS_true n d r]
    cases nameIs n x <;> simp
theorem nameIs_iff (n : ByteArray) (x : S80) : nameIs n x = true ↔ x.f0 = n := by
  unfold nameIs
  rw [beq_iff_eq, bs_inj]
theorem nameCmp_neg (n : ByteArray) (x : S80) : nameCmp n x < 0 ↔ Op.bytesLess x.f0.toList n.toList = true := by
  unfold nameCmp
  rw [cmp_neg, bs_toList, bs_toList]
theorem nameCmp_zero (n : ByteArray) (x : S80) : nameCmp n x = 0 ↔ x.f0 = n := by
  unfold nameCmp
  rw [cmp_zero, ← bs_toList, ← bs_toList, bs_inj]
theorem cntLt_none {l : List S80} (n : ByteArray) (h : ∀ y ∈ l, Op.bytesLess y.f0.toList n.toList = false) : cntLt (nameCmp n) l = 0 := by
  unfold cntLt
  rw [List.countP_eq_zero]
  intro y hy
  have := h y hy
  simp only [decide_eq_true_eq, nameCmp_neg, this]
  simp
theorem filter_above {l : List S80} (n : ByteArray) (h : ∀ y ∈ l, Op.bytesLess n.toList y.f0.toList = true) : l.filter (fun x => !nameIs n x) = l := by
  rw [List.filter_eq_self]
  intro y hy
  have := h y hy
  rw [Bool.not_eq_true', Bool.eq_false_iff]
  intro he
  rw [nameIs_iff] at he
  rw [he, bless_irrefl] at this
  cases this
theorem putS_putF (n d : ByteArray) : ∀ l : List S80, risesF l → putS n d false l = putF l n d
  | [], _ => by
    unfold putF cntLt hitAt
    simp [putS]
  | x :: r, h => by
    have hr : risesF r := (List.pairwise_cons.1 h).2
    have hx := (List.pairwise_cons.1 h).1
    rw [putS]
    cases hl : Op.bytesLess x.f0.toList n.toList with
    | true =>
      have hni : nameIs n x = false := by
        rw [Bool.eq_false_iff]
        intro he
        rw [nameIs_iff] at he
        rw [he, bless_irrefl] at hl
        cases hl
      have hc : cntLt (nameCmp n) (x :: r) = cntLt (nameCmp n) r + 1 := by
        unfold cntLt
        exact List.countP_cons_of_pos (p := fun y => decide (nameCmp n y < 0)) (decide_eq_true ((nameCmp_neg n x).2 hl))
      have hh : hitAt (default : S80) (nameCmp n) (x :: r) = hitAt (default : S80) (nameCmp n) r := by
        unfold hitAt
        rw [hc, List.getD_cons_succ, List.length_cons]
        congr 1
        exact decide_eq_decide.2 (by omega)
      rw [hni, show (false || !true) = false from rfl, putS_putF n d r hr]
      unfold putF
      rw [hh, hc]
      cases hitAt (default : S80) (nameCmp n) r <;> simp
    | false =>
      have hnone : ∀ y ∈ r, Op.bytesLess y.f0.toList n.toList = false := by
        intro y hy
        rw [Bool.eq_false_iff]
        intro hlt
        have := bless_trans (hx y hy) hlt
        rw [hl] at this
        cases this
      have hc : cntLt (nameCmp n) (x :: r) = 0 := cntLt_none n (fun y hy => by
        rcases List.mem_cons.1 hy with rfl | hy
        · exact hl
        · exact hnone y hy)
      have hh : hitAt (default : S80) (nameCmp n) (x :: r) = nameIs n x := by
        unfold hitAt
        rw [hc, List.getD_cons_zero, decide_eq_true (by simp), Bool.true_and, Bool.eq_iff_iff, decide_eq_true_eq, nameCmp_zero, nameIs_iff]
      have hab : ∀ y ∈ r, Op.bytesLess n.toList y.f0.toList = true := by
        intro y hy
        rcases bless_tri x.f0.toList n.toList with h1 | h1 | h1
        · rw [hl] at h1; cases h1
        · rw [← h1]; exact hx y hy
        · exact bless_trans h1 (hx y hy)
      have hput : putS n d true r = r := by rw [putS_true, filter_above n hab]
      unfold putF
      rw [hh, hc]
      simp only [Bool.not_false, Bool.false_or, Bool.true_and, if_true, hput]
      cases nameIs n x <;> simp
theorem cut_filter (n : ByteArray) (l : List S80) (h : risesF l) (h0 : 0 ≤ idxP (nameIs n) l) : l.filter (fun x => !nameIs n x) = l.take (idxP (nameIs n) l).toNat ++ l.drop ((idxP (nameIs n) l).toNat + 1) := by
  have hlt : (idxP (nameIs n) l).toNat < l.length := by
    have := idxP_lt (nameIs n) l
    omega
  have hat := idxP_at (nameIs n) (default : S80) l h0
  generalize (idxP (nameIs n) l).toNat = i at *
  rw [List.getD_eq_getElem?_getD, List.getElem?_eq_getElem hlt] at hat
  change nameIs n l[i] = true at hat
  rw [nameIs_iff] at hat
  have e : l = l.take i ++ (l[i] :: l.drop (i + 1)) := by rw [← List.drop_eq_getElem_cons hlt, List.take_append_drop]
  have hp : risesF (l.take i ++ (l[i] :: l.drop (i + 1))) := by rw [← e]; exact h
  obtain ⟨_, p2, p3⟩ := List.pairwise_append.1 hp
  have q := (List.pairwise_cons.1 p2).1
  conv => lhs; rw [e]
  rw [List.filter_append, List.filter_cons, show nameIs n l[i] = true from (nameIs_iff n _).2 hat]
  have e1 : (l.take i).filter (fun x => !nameIs n x) = l.take i := by
    rw [List.filter_eq_self]
    intro y hy
    have := p3 y hy l[i] List.mem_cons_self
    rw [Bool.not_eq_true', Bool.eq_false_iff]
    intro he
    rw [nameIs_iff] at he
    rw [he, hat, bless_irrefl] at this
    cases this
  have e2 : (l.drop (i + 1)).filter (fun x => !nameIs n x) = l.drop (i + 1) := filter_above n (fun y hy => by rw [← hat]; exact q y hy)
  rw [e1]
  simp only [Bool.not_true]
  rw [if_neg (by simp), e2]
def doS (l : List S80) (k : Int) (n t d : ByteArray) : List S80 × Bool :=
  if k = 1 then (putF l n (if 0 ≤ idxP (nameIs n) l then (at' l (idxP (nameIs n) l)).f1 ++ d else d), true)
  else if 0 ≤ idxP (nameIs n) l then
    if k = 2 then (putF (l.take (idxP (nameIs n) l).toNat ++ l.drop ((idxP (nameIs n) l).toNat + 1)) t (at' l (idxP (nameIs n) l)).f1, true)
    else (l.take (idxP (nameIs n) l).toNat ++ l.drop ((idxP (nameIs n) l).toNat + 1), true)
  else (l, false)
theorem doS_onF (l : List S80) (k : Int) (n t d : ByteArray) (h : formB k n t d = true) : doS l k n t d = onF l k n t d := by
  have hk : k = 1 ∨ k = 2 ∨ k = 3 := by
    unfold formB at h
    by_cases h1 : k = 1
    · exact .inl h1
    · by_cases h2 : k = 2
      · exact .inr (.inl h2)
      · by_cases h3 : k = 3
        · exact .inr (.inr h3)
        · rw [if_neg h1, if_neg h2, if_neg h3] at h
          cases h
  unfold doS onF
  rcases hk with rfl | rfl | rfl <;> simp
theorem doS_ok (l : List S80) (k : Int) (n t d : ByteArray) : (doS l k n t d).2 = (onF l k n t d).2 := by
  unfold doS onF
  by_cases h1 : k = 1
  · simp [h1]
  · by_cases h : 0 ≤ idxP (nameIs n) l
    · by_cases h2 : k = 2 <;> by_cases h3 : k = 3 <;> simp [h1, h, h2, h3]
    · simp [h1, h]
theorem doS_small {now : List S80} (hn : ∀ x ∈ now, x.f1.size ≤ 200000) (k : Int) (n t d : ByteArray) (hf : formB k n t d = true) (hd : d.size ≤ 1099511627776) (ho : (doS now k n t d).2 = true) : ∀ x ∈ (doS now k n t d).1, x.f1.size ≤ 1099512000000 := by
  rw [doS_onF now k n t d hf] at ho ⊢
  exact onF_small hn k n t d hd ho
end Go.Proofs.Ytfjoamlgbegpgaa.P
namespace Go.Proofs.Ytfjoamlgbegpgaa.P
open Go Go.Proofs.Ytfjoamlgbegpgaa.PM Go.Proofs
theorem strLt_eq (a b : ByteArray) : strLt a b = Op.bytesLess a.toList b.toList := rfl
theorem isFileName_ev (n : ByteArray) : Ev (fun k => f101 k n) (nameB n) := by
  unfold f101 nameB
  refine Ev.ite (fun h => Ev.ret' ?_) (fun h => Ev.ret' ?_)
  · rw [decide_eq_true (by omega : 1 ≤ n.size), Bool.true_and]
    exact decide_eq_decide.2 (by omega)
  · rw [decide_eq_false (by omega : ¬ 1 ≤ n.size), Bool.false_and]
theorem l4Name_ev (n : ByteArray) : Ev (fun k => f84 k n) (nameB n) := isFileName_ev n
theorem areFiles_loop (l : List S80) (hs : ∀ x ∈ l, x.f1.size ≤ 1099512000000) (hl : l.length ≤ 4611686018427387904) (d : Nat) : ∀ (i b : Nat), l.length - i = d → i ≤ l.length → b ≤ 200000 →
    Ev (fun k => f62.l3 k l (b : Int) l (l.length : Int) (i : Int)) (namesB (prevF l i) (l.drop i) && (decide (b + sumF (l.drop i) ≤ 200000) && decide (l.length ≤ 60))) := by
  induction d with
  | zero =>
    intro i b hd hi hb
    refine Ev.step (fun k => by rw [f62.l3]) (Ev.neg (by omega) (Ev.ret' ?_))
    rw [namesB_end l i (by omega), sumF_end l i (by omega), Bool.true_and, Nat.add_zero, decide_eq_true hb, Bool.true_and]
    exact decide_eq_decide.2 (by omega)
  | succ d ih =>
    intro i b hd hi hb
    have hlt : i < l.length := by omega
    have hsz := hs _ (List.getElem_mem hlt)
    refine Ev.step (fun k => by rw [f62.l3]) (Ev.pos (by omega) (Ev.pos (by omega) (Ev.pos (by omega) ?_)))
    rw [namesB_step l i hlt, sumF_step l i hlt, rdF_nat l i hlt]
    refine Ev.bind (isFileName_ev _) ?_
    cases hn : nameB l[i].f0 with
    | false => exact Ev.neg (by simp) (Ev.ret' (by simp))
    | true =>
      refine Ev.pos rfl ?_
      rw [wr (n := (b : Int) + (l[i].f1.size : Int)) (by omega) (by omega)]
      by_cases hbig : 200000 < (b : Int) + (l[i].f1.size : Int)
      · refine Ev.pos hbig (Ev.ret' ?_)
        rw [decide_eq_false (by omega : ¬ b + (l[i].f1.size + sumF (l.drop (i + 1))) ≤ 200000)]
        simp
      · refine Ev.neg hbig ?_
        have hih := ih (i + 1) (b + l[i].f1.size) (by omega) (by omega) (by omega)
        rw [show ((b + l[i].f1.size : Nat) : Int) = (b : Int) + (l[i].f1.size : Int) by omega, Nat.add_assoc] at hih
        rw [show ((i + 1 : Nat) : Int) = IntKind.i64.wrap ((i : Int) + 1) by rw [wr (by omega) (by omega)]; omega] at hih
        by_cases h0 : (0 : Int) < (i : Int)
        · refine Ev.pos h0 ?_
          have e1 : IntKind.i64.wrap ((i : Int) - 1) = ((i - 1 : Nat) : Int) := by rw [wr (by omega) (by omega)]; omega
          rw [e1, if_neg (by omega)]
          refine Ev.pos (by omega) (Ev.pos (by omega) ?_)
          rw [strLt_eq]
          cases hc : Op.bytesLess (at' l ((i - 1 : Nat) : Int)).f0.toList l[i].f0.toList with
          | true => exact Ev.pos rfl (Ev.eq hih (by simp))
          | false => exact Ev.neg (by simp) (Ev.ret' (by simp))
        · refine Ev.neg h0 ?_
          rw [if_pos (by omega)]
          exact Ev.eq hih (by simp)
theorem areFiles_ev (l : List S80) (hs : ∀ x ∈ l, x.f1.size ≤ 1099512000000) (hl : l.length ≤ 4611686018427387904) : Ev (fun k => f62 k l) (filesB l) := by
  have := areFiles_loop l hs hl _ 0 0 rfl (Nat.zero_le _) (by omega)
  rw [Nat.zero_add] at this
  exact this
theorem l4Files_loop (l : List S80) (hs : ∀ x ∈ l, x.f1.size ≤ 1099512000000) (hl : l.length ≤ 60) (d : Nat) : ∀ (i b : Nat), l.length - i = d → i ≤ l.length → b ≤ i * 1099512000000 →
    Ev (fun k => f43.l5 k l (b : Int) (i : Int)) (namesB (prevF l i) (l.drop i) && decide (b + sumF (l.drop i) ≤ 200000)) := by
  induction d with
  | zero =>
    intro i b hd hi hb
    refine Ev.step (fun k => by rw [f43.l5]) (Ev.neg (by omega) (Ev.ret' ?_))
    rw [namesB_end l i (by omega), sumF_end l i (by omega), Bool.true_and, Nat.add_zero]
    exact decide_eq_decide.2 (by omega)
  | succ d ih =>
    intro i b hd hi hb
    have hlt : i < l.length := by omega
    have hsz := hs _ (List.getElem_mem hlt)
    refine Ev.step (fun k => by rw [f43.l5]) (Ev.pos (by omega) (Ev.pos (by omega) ?_))
    rw [namesB_step l i hlt, sumF_step l i hlt, rdF_nat l i hlt]
    refine Ev.bind (l4Name_ev _) ?_
    cases hn : nameB l[i].f0 with
    | false => exact Ev.neg (by simp) (Ev.ret' (by simp))
    | true =>
      refine Ev.pos rfl ?_
      rw [wr (n := (b : Int) + (l[i].f1.size : Int)) (by omega) (by omega)]
      have hih := ih (i + 1) (b + l[i].f1.size) (by omega) (by omega) (by omega)
      rw [show ((b + l[i].f1.size : Nat) : Int) = (b : Int) + (l[i].f1.size : Int) by omega, Nat.add_assoc] at hih
      rw [show ((i + 1 : Nat) : Int) = IntKind.i64.wrap ((i : Int) + 1) by rw [wr (by omega) (by omega)]; omega] at hih
      by_cases h0 : (0 : Int) < (i : Int)
      · refine Ev.pos h0 ?_
        have e1 : IntKind.i64.wrap ((i : Int) - 1) = ((i - 1 : Nat) : Int) := by rw [wr (by omega) (by omega)]; omega
        rw [e1, if_neg (by omega)]
        refine Ev.pos (by omega) (Ev.pos (by omega) ?_)
        have hor : (strLt l[i].f0 (at' l ((i - 1 : Nat) : Int)).f0 || strEq l[i].f0 (at' l ((i - 1 : Nat) : Int)).f0) = !(Op.bytesLess (at' l ((i - 1 : Nat) : Int)).f0.toList l[i].f0.toList) := by
          generalize (at' l ((i - 1 : Nat) : Int)).f0 = p
          generalize l[i].f0 = q
          rw [strLt_eq]
          rcases bless_tri p.toList q.toList with h | h | h
          · rw [h, bless_asymm h]
            have : strEq q p = false := by
              rw [Bool.eq_false_iff]; intro e
              rw [(strEq_iff _ _).1 e, bless_irrefl] at h; cases h
            rw [this]; rfl
          · rw [bs_inj] at h; subst h
            rw [bless_irrefl, strEq_self]; rfl
          · rw [h, bless_asymm h]; rfl
        rw [hor]
        cases hc : Op.bytesLess (at' l ((i - 1 : Nat) : Int)).f0.toList l[i].f0.toList with
        | true => exact Ev.neg (by simp) (Ev.eq hih (by simp))
        | false => exact Ev.pos rfl (Ev.ret' (by simp))
      · refine Ev.neg h0 ?_
        rw [if_pos (by omega)]
        exact Ev.eq hih (by simp)
theorem l4Files_ev (l : List S80) (hs : ∀ x ∈ l, x.f1.size ≤ 1099512000000) : Ev (fun k => f43 k l) (filesB l) := by
  unfold f43 filesB
  by_cases h : 60 < (l.length : Int)
  · refine Ev.pos h (Ev.ret' ?_)
    rw [decide_eq_false (by omega : ¬ l.length ≤ 60)]
    simp
  · refine Ev.neg h ?_
    have := l4Files_loop l hs (by omega) _ 0 0 rfl (Nat.zero_le _) (by omega)
    rw [Nat.zero_add] at this
    exact Ev.eq this (by rw [decide_eq_true (by omega : l.length ≤ 60), Bool.and_true]; rfl)
theorem eqF_eq (a b : S80) : (strEq a.f0 b.f0 && strEq a.f1 b.f1) = eqF a b := rfl
theorem equal_loop (l m : List S80) (hm : l.length = m.length) (hl : l.length ≤ 4611686018427387904) (d : Nat) : ∀ i : Nat, l.length - i = d → i ≤ l.length → Ev (fun k => f90.l4 k l m (l.length : Int) (i : Int)) (sameF (l.drop i) (m.drop i)) := by
  induction d with
  | zero =>
    intro i hd hi
    refine Ev.step (fun k => by rw [f90.l4]) (Ev.neg (by omega) (Ev.ret' ?_))
    rw [List.drop_of_length_le (by omega), List.drop_of_length_le (by omega), sameF]
  | succ d ih =>
    intro i hd hi
    have h1 : i < l.length := by omega
    have h2 : i < m.length := by omega
    refine Ev.step (fun k => by rw [f90.l4]) (Ev.pos (by omega) (Ev.pos (by omega) (Ev.pos (by omega) (Ev.pos (by omega) ?_))))
    have hn := ih (i + 1) (by omega) (by omega)
    rw [show ((i + 1 : Nat) : Int) = IntKind.i64.wrap ((i : Int) + 1) by rw [wr (by omega) (by omega)]; omega] at hn
    rw [rdF_nat l i h1, rdF_nat m i h2, eqF_eq, sameF_step l m i h1 h2]
    cases he : eqF l[i] m[i] with
    | false => exact Ev.neg (by simp) (Ev.ret' (by simp))
    | true => exact Ev.pos rfl (Ev.eq hn (by simp))
theorem equal_ev (l m : List S80) (hl : l.length ≤ 4611686018427387904) : Ev (fun k => f90 k l m) (sameF l m) := by
  unfold f90
  by_cases h : l.length = m.length
  · exact Ev.pos (by omega) (equal_loop l m h hl _ 0 rfl (Nat.zero_le _))
  · exact Ev.neg (by omega) (Ev.ret' (sameF_len l m h).symm)
theorem l4Same_loop (l m : List S80) (hm : l.length = m.length) (hl : l.length ≤ 4611686018427387904) (d : Nat) : ∀ i : Nat, l.length - i = d → i ≤ l.length → Ev (fun k => f46.l4 k l m (i : Int)) (sameF (l.drop i) (m.drop i)) := by
  induction d with
  | zero =>
    intro i hd hi
    refine Ev.step (fun k => by rw [f46.l4]) (Ev.neg (by omega) (Ev.ret' ?_))
    rw [List.drop_of_length_le (by omega), List.drop_of_length_le (by omega), sameF]
  | succ d ih =>
    intro i hd hi
    have h1 : i < l.length := by omega
    have h2 : i < m.length := by omega
    refine Ev.step (fun k => by rw [f46.l4]) (Ev.pos (by omega) (Ev.pos (by omega) (Ev.pos (by omega) ?_)))
    have hn := ih (i + 1) (by omega) (by omega)
    rw [show ((i + 1 : Nat) : Int) = IntKind.i64.wrap ((i : Int) + 1) by rw [wr (by omega) (by omega)]; omega] at hn
    rw [rdF_nat l i h1, rdF_nat m i h2, eqF_eq, sameF_step l m i h1 h2]
    cases he : eqF l[i] m[i] with
    | false => exact Ev.neg (by simp) (Ev.ret' (by simp))
    | true => exact Ev.pos rfl (Ev.eq hn (by simp))
theorem l4Same_ev (l m : List S80) (hl : l.length ≤ 4611686018427387904) : Ev (fun k => f46 k l m) (sameF l m) := by
  unfold f46
  by_cases h : l.length = m.length
  · exact Ev.pos (by omega) (l4Same_loop l m h hl _ 0 rfl (Nat.zero_le _))
  · exact Ev.neg (by omega) (Ev.ret' (sameF_len l m h).symm)
theorem empty_eq (s : ByteArray) : strEq s (⟨#[]⟩ : ByteArray) = emptyB s := by
  unfold strEq emptyB
  rw [show (⟨#[]⟩ : ByteArray).toList = [] by rw [ByteArray.toList_eq]]
theorem isFormed_ev (k : Int) (n t d : ByteArray) : Ev (fun q => f89 q k n t d) (formB k n t d) := by
  unfold f89 formB
  simp only [empty_eq]
  by_cases h1 : k = 1
  · rw [if_pos h1]
    refine Ev.pos h1 (Ev.bind (isFileName_ev _) ?_)
    cases nameB n
    · exact Ev.neg (by simp) (Ev.ret' rfl)
    · exact Ev.pos rfl (Ev.ret' (by simp))
  rw [if_neg h1]
  by_cases h2 : k = 2
  · rw [if_pos h2]
    refine Ev.neg h1 (Ev.pos h2 (Ev.bind (isFileName_ev _) ?_))
    cases nameB n
    · exact Ev.neg (by simp) (Ev.ret' rfl)
    · refine Ev.pos rfl (Ev.bind (isFileName_ev _) ?_)
      cases nameB t
      · exact Ev.neg (by simp) (Ev.ret' (by simp))
      · exact Ev.pos rfl (Ev.ret' (by simp))
  rw [if_neg h2]
  by_cases h3 : k = 3
  · rw [if_pos h3]
    refine Ev.neg h1 (Ev.neg h2 (Ev.pos h3 (Ev.bind (isFileName_ev _) ?_)))
    cases nameB n
    · exact Ev.neg (by simp) (Ev.ret' rfl)
    · refine Ev.pos rfl ?_
      cases emptyB t
      · exact Ev.neg (by simp) (Ev.ret' (by simp))
      · exact Ev.pos rfl (Ev.ret' (by simp))
  · rw [if_neg h3]
    exact Ev.neg h1 (Ev.neg h2 (Ev.neg h3 (Ev.ret _)))
theorem l4Form_ev (k : Int) (n t d : ByteArray) : Ev (fun q => f45 q k n t d) (formB k n t d) := by
  unfold f45
  simp only [empty_eq]
  have hin : Ev (fun q => f58 q k 1 3) (decide (1 ≤ k) && decide (k ≤ 3)) := by
    unfold f58
    refine Ev.ite (fun h => Ev.ret' ?_) (fun h => Ev.ret' ?_)
    · rw [decide_eq_true h]; rfl
    · rw [decide_eq_false h]; rfl
  refine Ev.bind hin ?_
  by_cases hk : 1 ≤ k ∧ k ≤ 3
  · rw [decide_eq_true hk.1, decide_eq_true hk.2]
    refine Ev.pos rfl (Ev.bind (l4Name_ev _) ?_)
    unfold formB
    have h123 : k = 1 ∨ k = 2 ∨ k = 3 := by omega
    rcases h123 with rfl | rfl | rfl
    · cases nameB n
      · exact Ev.neg (by simp) (Ev.ret' (by simp))
      · refine Ev.pos rfl (Ev.neg (by omega) ?_)
        cases emptyB t
        · exact Ev.neg (by simp) (Ev.ret' (by simp))
        · exact Ev.pos rfl (Ev.pos rfl (Ev.ret' (by simp)))
    · cases nameB n
      · exact Ev.neg (by simp) (Ev.ret' (by simp))
      · refine Ev.pos rfl (Ev.pos rfl (Ev.bind (l4Name_ev _) ?_))
        cases nameB t
        · exact Ev.neg (by simp) (Ev.ret' (by simp))
        · exact Ev.pos rfl (Ev.ret' (by simp))
    · cases nameB n
      · exact Ev.neg (by simp) (Ev.ret' (by simp))
      · refine Ev.pos rfl (Ev.neg (by omega) ?_)
        cases emptyB t
        · exact Ev.neg (by simp) (Ev.ret' (by simp))
        · exact Ev.pos rfl (Ev.neg (by omega) (Ev.ret' (by simp)))
  · have hf : (decide (1 ≤ k) && decide (k ≤ 3)) = false := by
      rw [Bool.and_eq_false_iff, decide_eq_false_iff_not, decide_eq_false_iff_not]
      omega
    rw [hf]
    refine Ev.neg (by simp) (Ev.ret' ?_)
    unfold formB
    rw [if_neg (by omega), if_neg (by omega), if_neg (by omega)]
theorem l4At_loop (l : List S80) (n : ByteArray) (hl : l.length ≤ 4611686018427387904) (d : Nat) : ∀ i : Nat, l.length - i = d → i ≤ l.length → (∀ j : Nat, j < i → nameIs n (l.getD j default) = false) →
    Ev (fun k => f52.l2 k l n (i : Int)) (idxP (nameIs n) l) := by
  induction d with
  | zero =>
    intro i hd hi hn
    refine Ev.step (fun k => by rw [f52.l2]) (Ev.neg (by omega) (Ev.ret' ?_))
    rw [idxG_miss default (nameIs n) l (i : Int) (by omega) (fun j hj => hn j (by omega))]
  | succ d ih =>
    intro i hd hi hn
    have h1 : i < l.length := by omega
    refine Ev.step (fun k => by rw [f52.l2]) (Ev.pos (by omega) (Ev.pos (by omega) ?_))
    have e : at' l (i : Int) = l.getD i default := by unfold at'; rw [Int.toNat_natCast]
    have hs : strEq (at' l (i : Int)).f0 n = nameIs n (l.getD i default) := by rw [e]; rfl
    rw [hs]
    cases hc : nameIs n (l.getD i default) with
    | true =>
      refine Ev.pos rfl (Ev.ret' ?_)
      rw [idxG_hit default (nameIs n) l (i : Int) (by omega) (by omega) (by rw [Int.toNat_natCast]; exact hc) (fun j hj => hn j (by omega))]
    | false =>
      refine Ev.neg (by simp) ?_
      rw [show IntKind.i64.wrap ((i : Int) + 1) = ((i + 1 : Nat) : Int) by rw [wr (by omega) (by omega)]; omega]
      refine ih (i + 1) (by omega) (by omega) (fun j hj => ?_)
      by_cases hji : j = i
      · rw [hji]; exact hc
      · exact hn j (by omega)
theorem l4At_ev (l : List S80) (n : ByteArray) (hl : l.length ≤ 4611686018427387904) : Ev (fun k => f52 k l n) (idxP (nameIs n) l) :=
  l4At_loop l n hl _ 0 rfl (Nat.zero_le _) (fun j hj => absurd hj (Nat.not_lt_zero j))
theorem fileOf_loop (l : List S80) (n : ByteArray) (hl : l.length ≤ 4611686018427387904) (d : Nat) : ∀ i : Nat, l.length - i = d → i ≤ l.length → (∀ j : Nat, j < i → nameIs n (l.getD j default) = false) →
    Ev (fun k => f93.l2 k l (l.length : Int) (i : Int) n) (idxP (nameIs n) l, n) := by
  induction d with
  | zero =>
    intro i hd hi hn
    refine Ev.step (fun k => by rw [f93.l2]) (Ev.neg (by omega) (Ev.ret' ?_))
    rw [idxG_miss default (nameIs n) l (i : Int) (by omega) (fun j hj => hn j (by omega))]
  | succ d ih =>
    intro i hd hi hn
    have h1 : i < l.length := by omega
    refine Ev.step (fun k => by rw [f93.l2]) (Ev.pos (by omega) (Ev.pos (by omega) (Ev.pos (by omega) ?_)))
    have e : at' l (i : Int) = l.getD i default := by unfold at'; rw [Int.toNat_natCast]
    have hs : strEq (at' l (i : Int)).f0 n = nameIs n (l.getD i default) := by rw [e]; rfl
    refine Ev.bind (a := nameIs n (l.getD i default)) (by unfold f94; exact Ev.ret' hs) ?_
    cases hc : nameIs n (l.getD i default) with
    | true =>
      refine Ev.pos rfl (Ev.ret' ?_)
      rw [idxG_hit default (nameIs n) l (i : Int) (by omega) (by omega) (by rw [Int.toNat_natCast]; exact hc) (fun j hj => hn j (by omega))]
    | false =>
      refine Ev.neg (by simp) ?_
      rw [show IntKind.i64.wrap ((i : Int) + 1) = ((i + 1 : Nat) : Int) by rw [wr (by omega) (by omega)]; omega]
      refine ih (i + 1) (by omega) (by omega) (fun j hj => ?_)
      by_cases hji : j = i
      · rw [hji]; exact hc
      · exact hn j (by omega)
theorem fileOf_ev (l : List S80) (n : ByteArray) (hl : l.length ≤ 4611686018427387904) : Ev (fun k => f53 k l n) (idxP (nameIs n) l) := by
  unfold f53 f93
  exact Ev.bind (fileOf_loop l n hl _ 0 rfl (Nat.zero_le _) (fun j hj => absurd hj (Nat.not_lt_zero j))) (Ev.ret _)
theorem l4Cut_loop (l : List S80) (n : ByteArray) (hl : l.length ≤ 1073741824) (d : Nat) : ∀ (i : Nat) (out : List S80), l.length - i = d → i ≤ l.length → out.length ≤ i →
    Ev (fun k => f86.l3 k out l n (i : Int)) (out ++ (l.drop i).filter (fun x => !nameIs n x)) := by
  induction d with
  | zero =>
    intro i out hd hi ho
    refine Ev.step (fun k => by rw [f86.l3]) (Ev.neg (by omega) (Ev.ret' ?_))
    rw [List.drop_of_length_le (by omega)]
    simp
  | succ d ih =>
    intro i out hd hi ho
    have h1 : i < l.length := by omega
    refine Ev.step (fun k => by rw [f86.l3]) (Ev.pos (by omega) (Ev.pos (by omega) ?_))
    rw [rdF_nat l i h1, List.drop_eq_getElem_cons h1, List.filter_cons, show IntKind.i64.wrap ((i : Int) + 1) = ((i + 1 : Nat) : Int) by rw [wr (by omega) (by omega)]; omega]
    have hs : strEq l[i].f0 n = nameIs n l[i] := rfl
    rw [hs]
    cases hc : nameIs n l[i] with
    | true => exact Ev.pos rfl (ih (i + 1) out (by omega) (by omega) (by omega))
    | false =>
      refine Ev.neg (by simp) (Ev.pos (by omega) (Ev.pos (by omega) ?_))
      exact Ev.eq (ih (i + 1) (out ++ [l[i]]) (by omega) (by omega) (by simp; omega)) (by simp)
theorem l4Cut_ev (l : List S80) (n : ByteArray) (hl : l.length ≤ 1073741824) : Ev (fun k => f86 k l n) (l.filter (fun x => !nameIs n x)) :=
  l4Cut_loop l n hl _ 0 [] rfl (Nat.zero_le _) (Nat.le_refl _)
theorem l4Put_loop (l : List S80) (n dd : ByteArray) (hl : l.length ≤ 1073741824) (d : Nat) : ∀ (i : Nat) (out : List S80) (done : Bool), l.length - i = d → i ≤ l.length → out.length ≤ 2 * i →
    Ev (fun k => f85.l4 k out l n dd done (i : Int)) (out ++ putS n dd done (l.drop i)) := by
  induction d with
  | zero =>
    intro i out done hd hi ho
    refine Ev.step (fun k => by rw [f85.l4]) (Ev.neg (by omega) ?_)
    rw [List.drop_of_length_le (by omega), putS]
    cases done with
    | true => exact Ev.pos rfl (Ev.ret' (by simp))
    | false => exact Ev.neg (by simp) (Ev.pos (by omega) (Ev.pos (by omega) (Ev.ret' (by simp))))
  | succ d ih =>
    intro i out done hd hi ho
    have h1 : i < l.length := by omega
    refine Ev.step (fun k => by rw [f85.l4]) (Ev.pos (by omega) ?_)
    rw [rdF_nat l i h1, List.drop_eq_getElem_cons h1, putS, show IntKind.i64.wrap ((i : Int) + 1) = ((i + 1 : Nat) : Int) by rw [wr (by omega) (by omega)]; omega]
    have hs : strEq l[i].f0 n = nameIs n l[i] := rfl
    rw [hs, strLt_eq]
    cases done with
    | true =>
      refine Ev.pos rfl (Ev.pos (by omega) ?_)
      cases hc : nameIs n l[i] with
      | true => exact Ev.pos rfl (Ev.eq (ih (i + 1) out true (by omega) (by omega) (by omega)) (by simp))
      | false => exact Ev.neg (by simp) (Ev.pos (by omega) (Ev.pos (by omega) (Ev.eq (ih (i + 1) (out ++ [l[i]]) true (by omega) (by omega) (by simp; omega)) (by simp))))
    | false =>
      refine Ev.neg (by simp) (Ev.pos (by omega) ?_)
      cases hb : Op.bytesLess l[i].f0.toList n.toList with
      | true =>
        refine Ev.pos rfl ?_
        cases hc : nameIs n l[i] with
        | true => exact Ev.pos rfl (Ev.eq (ih (i + 1) out false (by omega) (by omega) (by omega)) (by simp))
        | false => exact Ev.neg (by simp) (Ev.pos (by omega) (Ev.pos (by omega) (Ev.eq (ih (i + 1) (out ++ [l[i]]) false (by omega) (by omega) (by simp; omega)) (by simp))))
      | false =>
        refine Ev.neg (by simp) (Ev.pos (by omega) (Ev.pos (by omega) ?_))
        cases hc : nameIs n l[i] with
        | true => exact Ev.pos rfl (Ev.eq (ih (i + 1) (out ++ [⟨n, dd⟩]) true (by omega) (by omega) (by simp; omega)) (by simp))
        | false => exact Ev.neg (by simp) (Ev.pos (by omega) (Ev.pos (by omega) (Ev.eq (ih (i + 1) (out ++ [⟨n, dd⟩] ++ [l[i]]) true (by omega) (by omega) (by simp; omega)) (by simp))))
theorem l4Put_ev (l : List S80) (n d : ByteArray) (hl : l.length ≤ 1073741824) : Ev (fun k => f85 k l n d) (putS n d false l) :=
  l4Put_loop l n d hl _ 0 [] false rfl (Nat.zero_le _) (Nat.le_refl _)
end Go.Proofs.Ytfjoamlgbegpgaa.P
namespace Go.Proofs.Ytfjoamlgbegpgaa.P
open Go Go.Proofs.Ytfjoamlgbegpgaa.PM Go.Proofs
theorem mid_eq (s : Nat) (h : s ≤ 4611686018427387904) : IntKind.i64.wrap (shrI .u64 (IntKind.u64.wrap (IntKind.i64.wrap (s : Int))) 1) = ((s / 2 : Nat) : Int) := by
  rw [wr (n := (s : Int)) (by omega) (by omega)]
  have hu : IntKind.u64.wrap (s : Int) = (s : Int) := IntWalk.u64_in _ ⟨by omega, by omega⟩
  rw [hu]
  have : shrI .u64 (s : Int) 1 = ((s / 2 : Nat) : Int) := by
    unfold shrI
    show Int.fdiv (s : Int) (2 ^ (min (1 : Int).toNat 64)) = _
    rw [show (2 : Int) ^ (min (1 : Int).toNat 64) = 2 from rfl, Int.fdiv_eq_ediv_of_nonneg _ (by omega)]
    omega
  rw [this, wr (by omega) (by omega)]
theorem cmp_ev (x : S80) (n : ByteArray) : Ev (fun k => f119 k x.f0 x.f1 n) (nameCmp n x) := by
  unfold f119 f120 f132
  exact Ev.bind (Ev.bind (Ev.ret _) (Ev.ret _)) (Ev.ret' rfl)
theorem at_getD (l : List S80) (i : Nat) : at' l (i : Int) = l.getD i default := by unfold at'; rw [Int.toNat_natCast]
theorem bs_loop (l : List S80) (n : ByteArray) (hr : risesF l) (hl : l.length ≤ 1073741824) (d : Nat) : ∀ lo hi : Nat, hi - lo ≤ d → lo ≤ hi → hi ≤ l.length → (∀ t, t < lo → nameCmp n (l.getD t default) < 0) → (∀ t, hi ≤ t → t < l.length → 0 ≤ nameCmp n (l.getD t default)) →
    Ev (fun k => f118.l3 k l n (l.length : Int) (lo : Int) (hi : Int)) ((cntLt (nameCmp n) l : Nat), hitAt default (nameCmp n) l) := by
  have fin : ∀ lo hi : Nat, lo = hi → hi ≤ l.length → (∀ t, t < lo → nameCmp n (l.getD t default) < 0) → (∀ t, hi ≤ t → t < l.length → 0 ≤ nameCmp n (l.getD t default)) →
      Ev (fun k => f118.l3 k l n (l.length : Int) (lo : Int) (hi : Int)) ((cntLt (nameCmp n) l : Nat), hitAt default (nameCmp n) l) := by
    rintro lo hi rfl hh h1 h2
    have hc : cntLt (nameCmp n) l = lo := countP_bound _ default l lo hh (fun t ht => decide_eq_true (h1 t ht)) (fun t h3 h4 => decide_eq_false (by have := h2 t h3 h4; omega))
    refine Ev.step (fun k => by rw [f118.l3]) (Ev.neg (by omega) ?_)
    unfold hitAt
    rw [hc]
    by_cases hlt : lo < l.length
    · refine Ev.pos (by omega) (Ev.pos (by omega) (Ev.pos (by omega) (Ev.bind (cmp_ev _ n) (Ev.ret' ?_))))
      rw [decide_eq_true hlt, Bool.true_and, at_getD]
    · refine Ev.neg (by omega) (Ev.ret' ?_)
      rw [decide_eq_false hlt, Bool.false_and]
  induction d with
  | zero => intro lo hi hd h1 h2 h3 h4; exact fin lo hi (by omega) h2 h3 h4
  | succ d ih =>
    intro lo hi hd h1 h2 h3 h4
    by_cases he : lo = hi
    · exact fin lo hi he h2 h3 h4
    · refine Ev.step (fun k => by rw [f118.l3]) (Ev.pos (by omega) ?_)
      have hm := mid_eq (lo + hi) (by omega)
      rw [show ((lo + hi : Nat) : Int) = (lo : Int) + (hi : Int) by omega] at hm
      rw [hm]
      generalize hmd : (lo + hi) / 2 = m
      have hm1 : lo ≤ m := by omega
      have hm2 : m < hi := by omega
      refine Ev.pos (by omega) (Ev.pos (by omega) (Ev.bind (cmp_ev _ n) ?_))
      rw [at_getD]
      by_cases hx : nameCmp n (l.getD m default) < 0
      · refine Ev.pos hx ?_
        rw [show IntKind.i64.wrap ((m : Int) + 1) = ((m + 1 : Nat) : Int) by rw [wr (by omega) (by omega)]; omega]
        exact ih (m + 1) hi (by omega) (by omega) h2 (fun t ht => risesF_mono hr n t m (by omega) (by omega) hx) h4
      · refine Ev.neg hx (ih lo m (by omega) hm1 (by omega) h3 (fun t h5 h6 => ?_))
        refine Int.not_lt.1 fun h => hx ?_
        exact risesF_mono hr n m t h5 h6 h
theorem bs_ev (l : List S80) (n : ByteArray) (hr : risesF l) (hl : l.length ≤ 1073741824) : Ev (fun k => f118 k l n) ((cntLt (nameCmp n) l : Nat), hitAt default (nameCmp n) l) := by
  unfold f118
  exact bs_loop l n hr hl _ 0 l.length (Nat.le_refl _) (Nat.zero_le _) (Nat.le_refl _) (fun t ht => absurd ht (Nat.not_lt_zero t)) (fun t h1 h2 => by omega)
theorem copyFiles_ev (l : List S80) (hl : l.length ≤ 1073741824) : Ev (fun k => f59 k l) l := by
  unfold f59
  exact Ev.pos (by omega) (Ev.pos (by omega) (Ev.ret _))
theorem withFile_ev (l : List S80) (n d : ByteArray) (hr : risesF l) (hl : l.length ≤ 1073741824) : Ev (fun k => f99 k l n d) (putF l n d) := by
  unfold f99
  refine Ev.bind (copyFiles_ev l hl) (Ev.bind (bs_ev l n hr hl) ?_)
  have hc : cntLt (nameCmp n) l ≤ l.length := cntLt_le _ _
  unfold putF
  cases hh : hitAt default (nameCmp n) l with
  | true =>
    have hlt : cntLt (nameCmp n) l < l.length := by
      unfold hitAt at hh
      rw [Bool.and_eq_true, decide_eq_true_eq] at hh
      exact hh.1
    exact Ev.pos rfl (Ev.pos (by show (0 : Int) ≤ ((cntLt (nameCmp n) l : Nat) : Int); omega) (Ev.pos (by show ((cntLt (nameCmp n) l : Nat) : Int) < _; omega) (Ev.ret' (by simp))))
  | false =>
    refine Ev.neg (by simp) (Ev.bind (a := l.take (cntLt (nameCmp n) l) ++ (⟨n, d⟩ :: l.drop (cntLt (nameCmp n) l))) ?_ (Ev.ret' (by simp)))
    unfold f121
    exact Ev.pos ⟨by show (0 : Int) ≤ ((cntLt (nameCmp n) l : Nat) : Int); omega, by show ((cntLt (nameCmp n) l : Nat) : Int) ≤ _; omega, rfl, by omega, by omega⟩ (Ev.ret' (by simp))
theorem cut_ev (l : List S80) (i : Int) (h0 : 0 ≤ i) (h1 : i < l.length) (hl : l.length ≤ 1073741824) : Ev (fun k => f100 k i (IntKind.i64.wrap (i + 1)) l) (l.take i.toNat ++ l.drop (i.toNat + 1)) := by
  unfold f100
  rw [wr (n := i + 1) (by omega) (by omega)]
  exact Ev.pos ⟨h0, rfl, by omega⟩ (Ev.ret _)
def onS (l : List S80) (k : Int) (n t d : ByteArray) : List S80 ⊕ List S80 := if (onF l k n t d).2 = true then .inl (onF l k n t d).1 else .inr l
theorem empty_app (d : ByteArray) : (⟨#[]⟩ : ByteArray) ++ d = d := by
  apply ByteArray.ext
  simp [ByteArray.data_append]
theorem at_name (l : List S80) (n : ByteArray) (h : 0 ≤ idxP (nameIs n) l) : (at' l (idxP (nameIs n) l)).f0 = n := by
  have := idxP_at (nameIs n) (default : S80) l h
  rw [nameIs_iff] at this
  exact this
theorem on_ev (l : List S80) (k : Int) (n t d : ByteArray) (hr : risesF l) (hl : l.length ≤ 1073741823) (hs : ∀ x ∈ l, x.f1.size ≤ 1099512000000) (hd : d.size ≤ 1099511627776) : Ev (fun q => f61 q k n t d l) (onS l k n t d) := by
  unfold f61
  refine Ev.bind (fileOf_ev l n (by omega)) ?_
  have hlt := idxP_lt (nameIs n) l
  have hge := idxP_ge (nameIs n) l
  unfold onS onF
  by_cases h1 : k = 1
  · refine Ev.pos h1 ?_
    rw [if_pos h1, if_pos rfl]
    by_cases h0 : 0 ≤ idxP (nameIs n) l
    · have hsz := hs _ (getD_mem default l _ h0 hlt)
      change (at' l (idxP (nameIs n) l)).f1.size ≤ _ at hsz
      rw [if_pos h0]
      refine Ev.pos h0 (Ev.pos hlt (Ev.pos (by omega) ?_))
      rw [at_name l n h0]
      exact Ev.bind (withFile_ev l n _ hr (by omega)) (Ev.ret _)
    · rw [if_neg h0]
      refine Ev.neg h0 (Ev.pos (by omega) ?_)
      rw [empty_app]
      exact Ev.bind (withFile_ev l n _ hr (by omega)) (Ev.ret _)
  · refine Ev.neg h1 ?_
    rw [if_neg h1]
    by_cases h0 : 0 ≤ idxP (nameIs n) l
    · rw [if_pos h0]
      refine Ev.neg (by omega) (Ev.bind (copyFiles_ev l (by omega)) (Ev.bind (cut_ev l _ h0 hlt (by omega)) ?_))
      by_cases h3 : k = 3
      · rw [if_pos h3]
        exact Ev.pos h3 (Ev.ret' (by simp))
      · rw [if_neg h3]
        refine Ev.neg h3 (Ev.pos h0 (Ev.pos hlt (Ev.bind (withFile_ev _ t _ (risesF_cut hr _) ?_) (Ev.ret' (by simp)))))
        rw [List.length_append, List.length_take, List.length_drop]; omega
    · rw [if_neg h0]
      exact Ev.pos (by omega) (Ev.ret' (by simp))
theorem putF_len (l : List S80) (n d : ByteArray) : (putF l n d).length ≤ l.length + 1 := by
  unfold putF
  split
  · rw [List.length_set]; omega
  · have := cntLt_le (nameCmp n) l
    rw [List.length_append, List.length_take, List.length_cons, List.length_drop]; omega
theorem onF_len (l : List S80) (k : Int) (n t d : ByteArray) : (onF l k n t d).1.length ≤ l.length + 1 := by
  have hc : (l.take (idxP (nameIs n) l).toNat ++ l.drop ((idxP (nameIs n) l).toNat + 1)).length ≤ l.length := by
    rw [List.length_append, List.length_take, List.length_drop]; omega
  unfold onF
  split
  · exact putF_len _ _ _
  · split
    · split
      · exact Nat.le_succ_of_le hc
      · exact Nat.le_trans (putF_len _ _ _) (by omega)
    · exact Nat.le_succ _
theorem isDisk_loop (live safe : List S80) (ops : List S73) (ho : ∀ x ∈ ops, x.f3.size ≤ 1099511627776) (hl : ops.length ≤ 200) (d : Nat) : ∀ (i : Nat) (now : List S80), ops.length - i = d → i ≤ ops.length → filesB now = true →
    Ev (fun k => f49.l5 k now ops (ops.length : Int) (i : Int) live safe ops) (runB live now (ops.drop i)) := by
  induction d with
  | zero =>
    intro i now hd hi hf
    obtain ⟨_, h60, _⟩ := filesB_said hf
    refine Ev.step (fun k => by rw [f49.l5]) (Ev.neg (by omega) (Ev.bind (equal_ev now live (by omega)) (Ev.ret' ?_)))
    rw [List.drop_of_length_le (by omega), runB]
  | succ d ih =>
    intro i now hd hi hf
    obtain ⟨hris, h60, hsz⟩ := filesB_said hf
    have h1 : i < ops.length := by omega
    refine Ev.step (fun k => by rw [f49.l5]) (Ev.pos (by omega) (Ev.pos (by omega) (Ev.pos (by omega) ?_)))
    rw [rdO_nat ops i h1, List.drop_eq_getElem_cons h1, runB]
    have hop := ho _ (List.getElem_mem h1)
    generalize ops[i] = op at *
    refine Ev.bind (isFormed_ev _ _ _ _) ?_
    cases hfm : formB op.f0 op.f1 op.f2 op.f3 with
    | false => exact Ev.neg (by simp) (Ev.ret' (by simp))
    | true =>
      refine Ev.pos rfl (Ev.bind (on_ev now op.f0 op.f1 op.f2 op.f3 hris (by omega) (fun x hx => by have := hsz x hx; omega) hop) ?_)
      unfold onS
      cases hok : (onF now op.f0 op.f1 op.f2 op.f3).2 with
      | false => exact Ev.ret' (by simp)
      | true =>
        rw [if_pos rfl]
        have hsm := onF_small hsz op.f0 op.f1 op.f2 op.f3 hop hok
        have hln : (onF now op.f0 op.f1 op.f2 op.f3).1.length ≤ 4611686018427387904 := by
          have := onF_len now op.f0 op.f1 op.f2 op.f3
          omega
        refine Ev.bind (areFiles_ev _ hsm hln) ?_
        cases hfn : filesB (onF now op.f0 op.f1 op.f2 op.f3).1 with
        | false => exact Ev.neg (by simp) (Ev.ret' (by simp))
        | true =>
          refine Ev.pos rfl ?_
          rw [show IntKind.i64.wrap ((i : Int) + 1) = ((i + 1 : Nat) : Int) by rw [wr (by omega) (by omega)]; omega]
          exact Ev.eq (ih (i + 1) _ (by omega) (by omega) hfn) (by simp)
theorem isDisk_ev (live safe : List S80) (ops : List S73) (h0 : smallF live) (h1 : smallF safe) (ho : ∀ x ∈ ops, x.f3.size ≤ 1099511627776) (l0 : live.length ≤ 1048576) (l1 : safe.length ≤ 1048576) : Ev (fun k => f49 k live safe ops) (diskB live safe ops) := by
  unfold f49 diskB
  refine Ev.bind (areFiles_ev live (fun x hx => by have := h0 x hx; omega) (by omega)) ?_
  cases hf0 : filesB live with
  | false => exact Ev.neg (by simp) (Ev.ret' (by simp))
  | true =>
    refine Ev.pos rfl (Ev.bind (areFiles_ev safe (fun x hx => by have := h1 x hx; omega) (by omega)) ?_)
    cases hf1 : filesB safe with
    | false => exact Ev.neg (by simp) (Ev.ret' (by simp))
    | true =>
      refine Ev.pos rfl ?_
      by_cases hl : 200 < (ops.length : Int)
      · exact Ev.pos hl (Ev.ret' (by rw [decide_eq_false (by omega : ¬ ops.length ≤ 200)]; simp))
      · refine Ev.neg hl (Ev.eq (isDisk_loop live safe ops ho (by omega) _ 0 safe rfl (Nat.zero_le _) hf1) ?_)
        rw [decide_eq_true (by omega : ops.length ≤ 200)]; simp
theorem l4Do_ev (l : List S80) (k : Int) (n t d : ByteArray) (hr : risesF l) (hl : l.length ≤ 1073741823) (hs : ∀ x ∈ l, x.f1.size ≤ 1099512000000) (hd : d.size ≤ 1099511627776) : Ev (fun q => f44 q l k n t d) ((doS l k n t d).2, (doS l k n t d).1) := by
  unfold f44
  refine Ev.bind (l4At_ev l n (by omega)) ?_
  unfold doS
  have hlt := idxP_lt (nameIs n) l
  by_cases h1 : k = 1
  · rw [if_pos h1]
    refine Ev.pos h1 ?_
    by_cases h0 : 0 ≤ idxP (nameIs n) l
    · rw [if_pos h0]
      have hsz := hs _ (getD_mem default l _ h0 hlt)
      change (at' l (idxP (nameIs n) l)).f1.size ≤ _ at hsz
      refine Ev.pos h0 (Ev.pos hlt (Ev.pos (by omega) (Ev.bind (l4Put_ev l n _ (by omega)) (Ev.ret' ?_))))
      rw [putS_putF n _ l hr]
    · rw [if_neg h0]
      refine Ev.neg h0 (Ev.bind (l4Put_ev l n _ (by omega)) (Ev.ret' ?_))
      rw [putS_putF n _ l hr]
  · rw [if_neg h1]
    refine Ev.neg h1 ?_
    by_cases h0 : 0 ≤ idxP (nameIs n) l
    · rw [if_pos h0]
      refine Ev.neg (by omega) (Ev.bind (l4Cut_ev l n (by omega)) ?_)
      rw [cut_filter n l hr h0]
      by_cases h2 : k = 2
      · rw [if_pos h2]
        refine Ev.pos h2 (Ev.pos h0 (Ev.pos hlt (Ev.bind (l4Put_ev _ t _ ?_) (Ev.ret' ?_))))
        · rw [List.length_append, List.length_take, List.length_drop]; omega
        · rw [putS_putF t _ _ (risesF_cut hr _)]
      · rw [if_neg h2]
        exact Ev.neg h2 (Ev.ret _)
    · rw [if_neg h0]
      exact Ev.pos (by omega) (Ev.pos (by omega) (Ev.pos (by omega) (Ev.ret _)))
theorem DiskOk_loop (live safe : List S80) (ops : List S73) (ho : ∀ x ∈ ops, x.f3.size ≤ 1099511627776) (hl : ops.length ≤ 200) (d : Nat) : ∀ (i : Nat) (now : List S80), ops.length - i = d → i ≤ ops.length → filesB now = true →
    Ev (fun k => f13.l5 k now (i : Int) live safe ops) (runB live now (ops.drop i)) := by
  induction d with
  | zero =>
    intro i now hd hi hf
    obtain ⟨_, h60, _⟩ := filesB_said hf
    refine Ev.step (fun k => by rw [f13.l5]) (Ev.neg (by omega) (Ev.bind (l4Same_ev now live (by omega)) (Ev.ret' ?_)))
    rw [List.drop_of_length_le (by omega), runB]
  | succ d ih =>
    intro i now hd hi hf
    obtain ⟨hris, h60, hsz⟩ := filesB_said hf
    have h1 : i < ops.length := by omega
    refine Ev.step (fun k => by rw [f13.l5]) (Ev.pos (by omega) (Ev.pos (by omega) ?_))
    rw [rdO_nat ops i h1, List.drop_eq_getElem_cons h1, runB]
    have hop := ho _ (List.getElem_mem h1)
    generalize ops[i] = op at *
    refine Ev.bind (l4Do_ev now op.f0 op.f1 op.f2 op.f3 hris (by omega) (fun x hx => by have := hsz x hx; omega) hop) ?_
    cases hok : (onF now op.f0 op.f1 op.f2 op.f3).2 with
    | false =>
      rw [← doS_ok] at hok
      refine Ev.neg (by rw [hok]; simp) (Ev.ret' ?_)
      simp
    | true =>
      have hok' := hok
      rw [← doS_ok] at hok'
      refine Ev.pos hok' (Ev.bind (l4Form_ev _ _ _ _) ?_)
      cases hfm : formB op.f0 op.f1 op.f2 op.f3 with
      | false => exact Ev.neg (by simp) (Ev.ret' (by simp))
      | true =>
        refine Ev.pos rfl (Ev.bind (l4Files_ev _ (doS_small hsz _ _ _ _ hfm hop hok')) ?_)
        show Ev (fun n => if filesB (doS now op.f0 op.f1 op.f2 op.f3).1 = true then f13.l5 n (doS now op.f0 op.f1 op.f2 op.f3).1 (IntKind.i64.wrap ((i : Int) + 1)) live safe ops else some false) _
        rw [doS_onF now _ _ _ _ hfm]
        cases hfn : filesB (onF now op.f0 op.f1 op.f2 op.f3).1 with
        | false => exact Ev.neg (by simp) (Ev.ret' (by simp))
        | true =>
          refine Ev.pos rfl ?_
          rw [show IntKind.i64.wrap ((i : Int) + 1) = ((i + 1 : Nat) : Int) by rw [wr (by omega) (by omega)]; omega]
          exact Ev.eq (ih (i + 1) _ (by omega) (by omega) hfn) (by simp)
theorem DiskOk_ev (live safe : List S80) (ops : List S73) (h0 : smallF live) (h1 : smallF safe) (ho : ∀ x ∈ ops, x.f3.size ≤ 1099511627776) : Ev (fun k => f13 k live safe ops) (diskB live safe ops) := by
  unfold f13 diskB
  refine Ev.bind (l4Files_ev live (fun x hx => by have := h0 x hx; omega)) ?_
  cases hf0 : filesB live with
  | false => exact Ev.neg (by simp) (Ev.ret' (by simp))
  | true =>
    refine Ev.pos rfl (Ev.bind (l4Files_ev safe (fun x hx => by have := h1 x hx; omega)) ?_)
    cases hf1 : filesB safe with
    | false => exact Ev.neg (by simp) (Ev.ret' (by simp))
    | true =>
      refine Ev.pos rfl ?_
      by_cases hl : 200 < (ops.length : Int)
      · exact Ev.pos hl (Ev.ret' (by rw [decide_eq_false (by omega : ¬ ops.length ≤ 200)]; simp))
      · refine Ev.neg hl (Ev.eq (DiskOk_loop live safe ops ho (by omega) _ 0 safe rfl (Nat.zero_le _) hf1) ?_)
        rw [decide_eq_true (by omega : ops.length ≤ 200)]; simp
end Go.Proofs.Ytfjoamlgbegpgaa.P
namespace Go.Proofs.Ytfjoamlgbegpgaa.P
open Go Go.Proofs.Ytfjoamlgbegpgaa.PM Go.Proofs
theorem cut_point (P : Nat → Bool) : ∀ n : Nat, (∀ a b, a ≤ b → b < n → P b = true → P a = true) → ∃ i, i ≤ n ∧ (∀ t, t < i → P t = true) ∧ ∀ t, i ≤ t → t < n → P t = false
  | 0, _ => ⟨0, Nat.le_refl _, fun t ht => absurd ht (Nat.not_lt_zero t), fun t _ ht => absurd ht (Nat.not_lt_zero t)⟩
  | n + 1, h => by
    cases hp : P n with
    | true => exact ⟨n + 1, Nat.le_refl _, fun t ht => h t n (by omega) (by omega) hp, fun t h1 h2 => by omega⟩
    | false =>
      obtain ⟨i, h1, h2, h3⟩ := cut_point P n (fun a b h1 h2 h3 => h a b h1 (by omega) h3)
      refine ⟨i, by omega, h2, fun t h4 h5 => ?_⟩
      by_cases e : t = n
      · rw [e]; exact hp
      · exact h3 t h4 (by omega)
theorem risesF_put {l : List S80} (hr : risesF l) (n d : ByteArray) : risesF (putF l n d) := by
  obtain ⟨i, h1, h2, h3⟩ := cut_point (fun t => decide (nameCmp n (l.getD t default) < 0)) l.length (fun a b hab hb hp => decide_eq_true (risesF_mono hr n a b hab hb (of_decide_eq_true hp)))
  have hc : cntLt (nameCmp n) l = i := countP_bound _ default l i h1 (fun t ht => h2 t ht) (fun t h4 h5 => h3 t h4 h5)
  have hlow : ∀ t (ht : t < l.length), t < i → Op.bytesLess l[t].f0.toList n.toList = true := fun t ht hti => by
    have := of_decide_eq_true (h2 t hti)
    rw [nameCmp_neg, List.getD_eq_getElem?_getD, List.getElem?_eq_getElem ht] at this
    exact this
  have hnot : ∀ t (ht : t < l.length), i ≤ t → Op.bytesLess l[t].f0.toList n.toList = false := fun t ht hti => by
    have := of_decide_eq_false (h3 t hti ht)
    rw [nameCmp_neg, List.getD_eq_getElem?_getD, List.getElem?_eq_getElem ht] at this
    rw [Bool.eq_false_iff]
    exact this
  unfold putF
  rw [hc]
  cases hh : hitAt default (nameCmp n) l with
  | true =>
    rw [if_pos rfl]
    unfold hitAt at hh
    rw [hc, Bool.and_eq_true, decide_eq_true_eq, decide_eq_true_eq, nameCmp_zero] at hh
    obtain ⟨hi, hn⟩ := hh
    rw [List.getD_eq_getElem?_getD, List.getElem?_eq_getElem hi] at hn
    have hn' : l[i].f0 = n := hn
    have key : ∀ t (ht : t < (l.set i ⟨n, d⟩).length), ((l.set i ⟨n, d⟩)[t]).f0 = (l[t]'(by simpa using ht)).f0 := fun t ht => by
      rw [List.getElem_set]
      split
      · rename_i e; subst e; exact hn'.symm
      · rfl
    unfold risesF
    rw [List.pairwise_iff_getElem]
    intro a b ha hb hab
    rw [key a ha, key b hb]
    exact List.pairwise_iff_getElem.1 hr a b _ _ hab
  | false =>
    rw [if_neg (by simp)]
    have hup : ∀ y ∈ l.drop i, Op.bytesLess n.toList y.f0.toList = true := fun y hy => by
      obtain ⟨t, ht, rfl⟩ := List.getElem_of_mem hy
      rw [List.length_drop] at ht
      rw [List.getElem_drop]
      have hlt : i + t < l.length := by omega
      rcases bless_tri (l[i + t]'hlt).f0.toList n.toList with h | h | h
      · rw [hnot (i + t) hlt (by omega)] at h; cases h
      · exfalso
        rw [bs_inj] at h
        by_cases h0 : t = 0
        · subst h0
          have hi : i < l.length := by omega
          unfold hitAt at hh
          rw [hc, decide_eq_true hi, Bool.true_and, decide_eq_false_iff_not, nameCmp_zero, List.getD_eq_getElem?_getD, List.getElem?_eq_getElem hi] at hh
          exact hh h
        · have hp := List.pairwise_iff_getElem.1 hr i (i + t) (by omega) hlt (by omega)
          rw [h] at hp
          have := hnot i (by omega) (Nat.le_refl _)
          rw [hp] at this; cases this
      · exact h
    have hdn : ∀ x ∈ l.take i, Op.bytesLess x.f0.toList n.toList = true := fun x hx => by
      obtain ⟨t, ht, rfl⟩ := List.getElem_of_mem hx
      rw [List.length_take] at ht
      rw [List.getElem_take]
      exact hlow t (by omega) (by omega)
    unfold risesF
    rw [List.pairwise_append]
    refine ⟨List.Pairwise.sublist (List.take_sublist _ _) hr, List.pairwise_cons.2 ⟨hup, List.Pairwise.sublist (List.drop_sublist _ _) hr⟩, fun x hx y hy => ?_⟩
    rcases List.mem_cons.1 hy with rfl | hy
    · exact hdn x hx
    · exact bless_trans (hdn x hx) (hup y hy)
theorem risesF_on {l : List S80} (hr : risesF l) (k : Int) (n t d : ByteArray) : risesF (onF l k n t d).1 := by
  unfold onF
  split
  · exact risesF_put hr _ _
  · split
    · split
      · exact risesF_cut hr _
      · exact risesF_put (risesF_cut hr _) _ _
    · exact hr
theorem onF_no {l : List S80} {k : Int} {n t d : ByteArray} (h : (onF l k n t d).2 = false) : (onF l k n t d).1 = l := by
  unfold onF at h ⊢
  split at h
  · cases h
  · rename_i h1
    split at h
    · split at h <;> cases h
    · rename_i h0
      rw [if_neg h1, if_neg h0]
theorem put_sizes {l : List S80} {B : Nat} (hs : ∀ x ∈ l, x.f1.size ≤ B) (n d : ByteArray) (hd : d.size ≤ B) : ∀ x ∈ putF l n d, x.f1.size ≤ B := by
  intro x hx
  unfold putF at hx
  split at hx
  · rcases List.mem_or_eq_of_mem_set hx with h | rfl
    · exact hs x h
    · exact hd
  · rcases List.mem_append.1 hx with h | h
    · exact hs x (List.mem_of_mem_take h)
    · rcases List.mem_cons.1 h with rfl | h
      · exact hd
      · exact hs x (List.mem_of_mem_drop h)
theorem on_sizes {l : List S80} {B D : Nat} (hs : ∀ x ∈ l, x.f1.size ≤ B) (k : Int) (n t d : ByteArray) (hd : d.size ≤ D) : ∀ x ∈ (onF l k n t d).1, x.f1.size ≤ B + D := by
  have hb : ∀ x ∈ l, x.f1.size ≤ B + D := fun x hx => by have := hs x hx; omega
  have hlt := idxP_lt (nameIs n) l
  have hat : 0 ≤ idxP (nameIs n) l → (at' l (idxP (nameIs n) l)).f1.size ≤ B := fun h => hs _ (getD_mem default l _ h hlt)
  have hcut : ∀ x ∈ l.take (idxP (nameIs n) l).toNat ++ l.drop ((idxP (nameIs n) l).toNat + 1), x.f1.size ≤ B + D := fun x hx => by
    rcases List.mem_append.1 hx with h | h
    · exact hb x (List.mem_of_mem_take h)
    · exact hb x (List.mem_of_mem_drop h)
  unfold onF
  split
  · refine put_sizes hb _ _ ?_
    split
    · rename_i h
      rw [ByteArray.size_append]
      have := hat h
      omega
    · omega
  · split
    · rename_i h
      split
      · exact hcut
      · exact put_sizes hcut _ _ (by have := hat h; omega)
    · exact hb
def keepB (keep : List Int) (m : Nat) (i : Nat) : Bool := (decide (0 ≤ at' keep (i : Int)) && decide (at' keep (i : Int) ≤ (m : Int) - 1)) && (decide (i = 0) || decide (at' keep ((i : Int) - 1) < at' keep (i : Int)))
def cutD (torn : Int) (last : Prop) [Decidable last] (d : ByteArray) : ByteArray := if last then d.extract 0 (minI torn (d.size : Int)).toNat else d
def stepK (ops : List S73) (keep : List Int) (torn : Int) (now : List S80) (i : Nat) : List S80 :=
  (onF now (at' ops (at' keep (i : Int))).f0 (at' ops (at' keep (i : Int))).f1 (at' ops (at' keep (i : Int))).f2 (cutD torn (i + 1 = keep.length) (at' ops (at' keep (i : Int))).f3)).1
def runK (ops : List S73) (keep : List Int) (torn : Int) (now : List S80) (i : Nat) : List S80 := (List.range' i (keep.length - i)).foldl (stepK ops keep torn) now
theorem runK_end {ops : List S73} {keep : List Int} {torn : Int} {now : List S80} {i : Nat} (h : keep.length ≤ i) : runK ops keep torn now i = now := by
  unfold runK
  rw [Nat.sub_eq_zero_of_le h]; rfl
theorem runK_step {ops : List S73} {keep : List Int} {torn : Int} {now : List S80} {i : Nat} (h : i < keep.length) : runK ops keep torn now i = runK ops keep torn (stepK ops keep torn now i) (i + 1) := by
  unfold runK
  obtain ⟨d, hd⟩ : ∃ d, keep.length - i = d + 1 := ⟨keep.length - i - 1, by omega⟩
  rw [hd, show keep.length - (i + 1) = d from by omega, List.range'_succ, List.foldl_cons]
abbrev CR := Bool × List S80 × List S80 × List S73
def noC : CR := (false, [], [], [])
def finC (now : List S80) : CR := if filesB now = true then (true, now, now, []) else noC
structure InvK (now : List S80) (j : Nat) : Prop where
  r : risesF now
  n : now.length ≤ 60 + j
  s : ∀ x ∈ now, x.f1.size ≤ 200000 + j * 1048576
theorem cutD_size (torn : Int) (last : Prop) [Decidable last] (d : ByteArray) : (cutD torn last d).size ≤ d.size := by
  unfold cutD
  split
  · rw [ByteArray.size_extract]; omega
  · exact Nat.le_refl _
theorem at_mem73 {ops : List S73} {i : Int} (h0 : 0 ≤ i) (h1 : i < ops.length) : at' ops i ∈ ops := getD_mem default ops i h0 h1
theorem InvK.step {ops : List S73} {keep : List Int} {torn : Int} {now : List S80} {i : Nat} (h : InvK now i) (hd : (at' ops (at' keep (i : Int))).f3.size ≤ 1048576) : InvK (stepK ops keep torn now i) (i + 1) := by
  unfold stepK
  refine ⟨risesF_on h.r _ _ _ _, ?_, ?_⟩
  · have := onF_len now (at' ops (at' keep (i : Int))).f0 (at' ops (at' keep (i : Int))).f1 (at' ops (at' keep (i : Int))).f2 (cutD torn (i + 1 = keep.length) (at' ops (at' keep (i : Int))).f3)
    have := h.n
    omega
  · intro x hx
    have := on_sizes h.s _ _ _ _ (Nat.le_trans (cutD_size torn (i + 1 = keep.length) (at' ops (at' keep (i : Int))).f3) hd) x hx
    omega
theorem fin_impl (now : List S80) {j : Nat} (h : InvK now j) (hj : j ≤ 1048576) : Ev (fun k => ((f62 k now).bind fun t8 => (if t8 = true then ((f59 k now).bind fun t9 => some (true, now, t9, ([] : List S73))) else some (false, ([] : List S80), ([] : List S80), ([] : List S73))))) (finC now) := by
  have hn := h.n
  refine Ev.bind (areFiles_ev now (fun x hx => by have := h.s x hx; omega) (by omega)) ?_
  unfold finC noC
  cases hf : filesB now with
  | true => exact Ev.pos rfl (Ev.bind (copyFiles_ev now (by omega)) (Ev.ret _))
  | false => exact Ev.neg (by simp) (Ev.ret _)
theorem impl_loop (live safe : List S80) (ops : List S73) (keep : List Int) (torn : Int) (ht : 0 ≤ torn) (hm : ops.length ≤ 1048576) (hk : keep.length ≤ 1048576) (ho : ∀ x ∈ ops, x.f3.size ≤ 1048576) (d : Nat) : ∀ (i : Nat) (now : List S80), keep.length - i = d → i ≤ keep.length → InvK now i →
    Ev (fun k => f22.l5 k now keep torn keep (keep.length : Int) (i : Int) live safe ops) (if allFrom (keepB keep ops.length) i keep.length = true then finC (runK ops keep torn now i) else noC) := by
  induction d with
  | zero =>
    intro i now hd hi hI
    refine Ev.step (fun k => by rw [f22.l5]) (Ev.neg (by omega) ?_)
    rw [allFrom_end _ (by omega), if_pos rfl, runK_end (by omega)]
    exact fin_impl now hI (by omega)
  | succ d ih =>
    intro i now hd hi hI
    have hlt : i < keep.length := by omega
    refine Ev.step (fun k => by rw [f22.l5]) (Ev.pos (by omega) (Ev.pos (by omega) (Ev.pos (by omega) ?_)))
    rw [allFrom_step _ hlt]
    have hin : Ev (fun q => f60 q (at' keep (i : Int)) 0 (IntKind.i64.wrap ((ops.length : Int) - 1))) (decide (0 ≤ at' keep (i : Int)) && decide (at' keep (i : Int) ≤ (ops.length : Int) - 1)) := by
      rw [wr (n := (ops.length : Int) - 1) (by omega) (by omega)]
      unfold f60
      refine Ev.ite (fun h => Ev.ret' ?_) (fun h => Ev.ret' ?_)
      · rw [decide_eq_true h]; rfl
      · rw [decide_eq_false h]; rfl
    refine Ev.bind hin ?_
    unfold keepB
    by_cases hr : 0 ≤ at' keep (i : Int) ∧ at' keep (i : Int) ≤ (ops.length : Int) - 1
    · rw [decide_eq_true hr.1, decide_eq_true hr.2, Bool.true_and]
      refine Ev.pos rfl ?_
      have hop := ho _ (at_mem73 (ops := ops) hr.1 (by omega))
      have hn := ih (i + 1) (stepK ops keep torn now i) (by omega) (by omega) (hI.step hop)
      rw [show ((i + 1 : Nat) : Int) = IntKind.i64.wrap ((i : Int) + 1) by rw [wr (by omega) (by omega)]; omega] at hn
      have hsz := hI.s
      have hln := hI.n
      have hon : ∀ dd : ByteArray, dd.size ≤ 1048576 → Ev (fun q => f61 q (at' ops (at' keep (i : Int))).f0 (at' ops (at' keep (i : Int))).f1 (at' ops (at' keep (i : Int))).f2 dd now) (onS now (at' ops (at' keep (i : Int))).f0 (at' ops (at' keep (i : Int))).f1 (at' ops (at' keep (i : Int))).f2 dd) := fun dd hdd =>
        on_ev now _ _ _ _ hI.r (by omega) (fun x hx => by have := hsz x hx; omega) (by omega)
      have fin : ∀ dd : ByteArray, dd = cutD torn (i + 1 = keep.length) (at' ops (at' keep (i : Int))).f3 → Ev (fun k => match onS now (at' ops (at' keep (i : Int))).f0 (at' ops (at' keep (i : Int))).f1 (at' ops (at' keep (i : Int))).f2 dd with
          | Sum.inl t => f22.l5 k t keep torn keep (keep.length : Int) (IntKind.i64.wrap ((i : Int) + 1)) live safe ops
          | Sum.inr _ => f22.l5 k now keep torn keep (keep.length : Int) (IntKind.i64.wrap ((i : Int) + 1)) live safe ops) (if allFrom (keepB keep ops.length) (i + 1) keep.length = true then finC (runK ops keep torn (stepK ops keep torn now i) (i + 1)) else noC) := by
        intro dd hdd
        unfold onS
        cases hok : (onF now (at' ops (at' keep (i : Int))).f0 (at' ops (at' keep (i : Int))).f1 (at' ops (at' keep (i : Int))).f2 dd).2 with
        | true =>
          rw [if_pos rfl]
          have : (onF now (at' ops (at' keep (i : Int))).f0 (at' ops (at' keep (i : Int))).f1 (at' ops (at' keep (i : Int))).f2 dd).1 = stepK ops keep torn now i := by unfold stepK; rw [hdd]
          rw [this]
          exact hn
        | false =>
          rw [if_neg (by simp)]
          have : stepK ops keep torn now i = now := by
            unfold stepK
            rw [← hdd]
            exact onF_no hok
          rw [this] at hn ⊢
          exact hn
      have hext : ∀ s : ByteArray, s.size ≤ 1048576 → (s.extract 0 (minI torn (s.size : Int)).toNat).size ≤ 1048576 := fun s hs => by rw [ByteArray.size_extract]; omega
      have hmin : ∀ s : ByteArray, 0 ≤ minI torn (s.size : Int) ∧ minI torn (s.size : Int) ≤ ((s.size : Nat) : Int) := fun s => by
        unfold minI
        split <;> omega
      have hlast : IntKind.i64.wrap ((keep.length : Int) - 1) = (keep.length : Int) - 1 := wr (by omega) (by omega)
      by_cases h0 : i = 0
      · rw [decide_eq_true h0, Bool.true_or, Bool.true_and, runK_step hlt]
        refine Ev.neg (by omega) (Ev.pos hr.1 (Ev.pos (by omega) ?_))
        rw [hlast]
        by_cases hl : i + 1 = keep.length
        · refine Ev.pos (by omega) (Ev.pos (hmin _).1 (Ev.pos (hmin _).2 (Ev.bind (hon _ (hext _ hop)) (fin _ ?_))))
          unfold cutD; rw [if_pos hl]
        · refine Ev.neg (by omega) (Ev.bind (hon _ hop) (fin _ ?_))
          unfold cutD; rw [if_neg hl]
      · have e1 : IntKind.i64.wrap ((i : Int) - 1) = (i : Int) - 1 := wr (by omega) (by omega)
        refine Ev.pos (by omega) ?_
        rw [e1]
        refine Ev.pos (by omega) (Ev.pos (by omega) ?_)
        by_cases hrise : at' keep ((i : Int) - 1) < at' keep (i : Int)
        · rw [decide_eq_true hrise, Bool.or_true, Bool.true_and, runK_step hlt]
          refine Ev.neg (by omega) (Ev.pos hr.1 (Ev.pos (by omega) ?_))
          rw [hlast]
          by_cases hl : i + 1 = keep.length
          · refine Ev.pos (by omega) (Ev.pos (hmin _).1 (Ev.pos (hmin _).2 (Ev.bind (hon _ (hext _ hop)) (fin _ ?_))))
            unfold cutD; rw [if_pos hl]
          · refine Ev.neg (by omega) (Ev.bind (hon _ hop) (fin _ ?_))
            unfold cutD; rw [if_neg hl]
        · rw [decide_eq_false hrise, decide_eq_false h0]
          exact Ev.pos (by omega) (Ev.ret' (by simp [noC]))
    · have hf : (decide (0 ≤ at' keep (i : Int)) && decide (at' keep (i : Int) ≤ (ops.length : Int) - 1)) = false := by
        rw [Bool.and_eq_false_iff, decide_eq_false_iff_not, decide_eq_false_iff_not]
        omega
      rw [hf]
      exact Ev.neg (by simp) (Ev.ret' (by simp [noC]))
def crashR (live safe : List S80) (ops : List S73) (keep : List Int) (torn : Int) : CR :=
  if diskB live safe ops = true then (if torn < 0 then noC else if allFrom (keepB keep ops.length) 0 keep.length = true then finC (runK ops keep torn safe 0) else noC) else noC
theorem diskB_said {live safe : List S80} {ops : List S73} (h : diskB live safe ops = true) : filesB safe = true ∧ ops.length ≤ 200 ∧ runB live safe ops = true := by
  unfold diskB at h
  simp only [Bool.and_eq_true, decide_eq_true_eq] at h
  exact h.2
theorem inv0 {safe : List S80} (h : filesB safe = true) : InvK safe 0 := by
  obtain ⟨h1, h2, h3⟩ := filesB_said h
  exact ⟨h1, by omega, fun x hx => by have := h3 x hx; omega⟩
theorem impl_crash (live safe : List S80) (ops : List S73) (keep : List Int) (torn : Int) (h0 : smallF live) (h1 : smallF safe) (l0 : live.length ≤ 1048576) (l1 : safe.length ≤ 1048576) (hm : ops.length ≤ 1048576) (hk : keep.length ≤ 1048576) (ho : ∀ x ∈ ops, x.f3.size ≤ 1048576) :
    Ev (fun k => f22 k live safe ops keep torn) (crashR live safe ops keep torn) := by
  unfold f22 crashR
  refine Ev.bind (isDisk_ev live safe ops h0 h1 (fun x hx => by have := ho x hx; omega) l0 l1) ?_
  cases hd : diskB live safe ops with
  | false => exact Ev.neg (by simp) (Ev.ret' (by simp [noC]))
  | true =>
    rw [if_pos rfl]
    refine Ev.pos rfl ?_
    by_cases ht : torn < 0
    · rw [if_pos ht]; exact Ev.pos ht (Ev.ret _)
    · rw [if_neg ht]
      refine Ev.neg ht (Ev.bind (copyFiles_ev safe (by omega)) ?_)
      exact impl_loop live safe ops keep torn (by omega) hm hk ho _ 0 safe rfl (Nat.zero_le _) (inv0 (diskB_said hd).1)
theorem runB_form {live : List S80} : ∀ (ops : List S73) (now : List S80), runB live now ops = true → ∀ op ∈ ops, formB op.f0 op.f1 op.f2 op.f3 = true
  | [], _, _ => fun op h => by cases h
  | o :: r, now, h => by
    rw [runB, Bool.and_eq_true, Bool.and_eq_true, Bool.and_eq_true] at h
    intro op hop
    rcases List.mem_cons.1 hop with rfl | hop
    · exact h.1
    · exact runB_form r _ h.2.2.2 op hop
theorem emptyB_size {s : ByteArray} (h : emptyB s = true) : s = ⟨#[]⟩ := by
  rw [← empty_eq] at h
  exact (strEq_iff _ _).1 h
theorem form_cut {k : Int} {n t d : ByteArray} (h : formB k n t d = true) (hk : k ≠ 1) : d = ⟨#[]⟩ := by
  unfold formB at h
  rw [if_neg hk] at h
  split at h
  · simp only [Bool.and_eq_true] at h
    exact emptyB_size h.2.2
  · split at h
    · simp only [Bool.and_eq_true] at h
      exact emptyB_size h.2.2
    · cases h
theorem form_any {n t d d' : ByteArray} (h : formB 1 n t d = true) : formB 1 n t d' = true := by
  unfold formB at h ⊢
  rw [if_pos rfl] at h ⊢
  exact h
theorem extract_all (s : ByteArray) : s.extract 0 s.size = s := ByteArray.extract_zero_size
theorem spec_run (live safe : List S80) (ops : List S73) (keep : List Int) (torn : Int) (ht : 0 ≤ torn) (hm : ops.length ≤ 1048576) (hk : keep.length ≤ 1048576) (ho : ∀ x ∈ ops, x.f3.size ≤ 1048576) (hf : ∀ op ∈ ops, formB op.f0 op.f1 op.f2 op.f3 = true) (hkeep : ∀ i : Nat, i < keep.length → 0 ≤ at' keep (i : Int) ∧ at' keep (i : Int) < ops.length) (d : Nat) : ∀ (i : Nat) (now : List S80), keep.length - i = d → i ≤ keep.length → InvK now i →
    Ev (fun k => f21.l10 k now keep torn (i : Int) live safe ops) (finC (runK ops keep torn now i)) := by
  induction d with
  | zero =>
    intro i now hd hi hI
    have hn := hI.n
    refine Ev.step (fun k => by rw [f21.l10]) (Ev.neg (by omega) ?_)
    rw [runK_end (by omega)]
    refine Ev.bind (l4Files_ev now (fun x hx => by have := hI.s x hx; omega)) ?_
    unfold finC noC
    cases hfb : filesB now with
    | true => exact Ev.pos rfl (Ev.pos (by omega) (Ev.pos (by omega) (Ev.ret _)))
    | false => exact Ev.neg (by simp) (Ev.ret _)
  | succ d ih =>
    intro i now hd hi hI
    have hlt : i < keep.length := by omega
    obtain ⟨k0, k1⟩ := hkeep i hlt
    have hmem := at_mem73 (ops := ops) k0 k1
    have hop := ho _ hmem
    have hfm := hf _ hmem
    have hn := ih (i + 1) (stepK ops keep torn now i) (by omega) (by omega) (hI.step hop)
    rw [show ((i + 1 : Nat) : Int) = IntKind.i64.wrap ((i : Int) + 1) by rw [wr (by omega) (by omega)]; omega] at hn
    rw [runK_step hlt]
    have hsz := hI.s
    have hln := hI.n
    have hdo : ∀ dd : ByteArray, dd.size ≤ 1048576 → formB (at' ops (at' keep (i : Int))).f0 (at' ops (at' keep (i : Int))).f1 (at' ops (at' keep (i : Int))).f2 dd = true → dd = cutD torn (i + 1 = keep.length) (at' ops (at' keep (i : Int))).f3 →
        ∃ b, Ev (fun q => f44 q now (at' ops (at' keep (i : Int))).f0 (at' ops (at' keep (i : Int))).f1 (at' ops (at' keep (i : Int))).f2 dd) (b, stepK ops keep torn now i) := fun dd hdd hfd he => by
      have := l4Do_ev now (at' ops (at' keep (i : Int))).f0 (at' ops (at' keep (i : Int))).f1 (at' ops (at' keep (i : Int))).f2 dd hI.r (by omega) (fun x hx => by have := hsz x hx; omega) (by omega)
      rw [doS_onF now _ _ _ _ hfd] at this
      refine ⟨(onF now (at' ops (at' keep (i : Int))).f0 (at' ops (at' keep (i : Int))).f1 (at' ops (at' keep (i : Int))).f2 dd).2, this.eq ?_⟩
      unfold stepK
      rw [he]
    have hlast : IntKind.i64.wrap ((keep.length : Int) - 1) = (keep.length : Int) - 1 := wr (by omega) (by omega)
    refine Ev.step (fun k => by rw [f21.l10]) (Ev.pos (by omega) (Ev.pos (by omega) (Ev.pos k0 (Ev.pos k1 ?_))))
    rw [hlast]
    by_cases hl : i + 1 = keep.length
    · refine Ev.pos (by omega) ?_
      by_cases hk1 : (at' ops (at' keep (i : Int))).f0 = 1
      · refine Ev.pos hk1 ?_
        by_cases hts : torn < ((at' ops (at' keep (i : Int))).f3.size : Int)
        · obtain ⟨b, hb⟩ := hdo ((at' ops (at' keep (i : Int))).f3.extract 0 torn.toNat) (by rw [ByteArray.size_extract]; omega) (by rw [hk1] at hfm ⊢; exact form_any hfm) (by unfold cutD; rw [if_pos hl]; unfold minI; rw [if_neg (by omega)])
          exact Ev.pos hts (Ev.pos ht (Ev.pos (by omega) (Ev.bind hb hn)))
        · obtain ⟨b, hb⟩ := hdo (at' ops (at' keep (i : Int))).f3 hop hfm (by
            unfold cutD; rw [if_pos hl]; unfold minI
            by_cases he : ((at' ops (at' keep (i : Int))).f3.size : Int) < torn
            · rw [if_pos he, Int.toNat_natCast, extract_all]
            · rw [if_neg he, show torn.toNat = (at' ops (at' keep (i : Int))).f3.size by omega, extract_all])
          exact Ev.neg hts (Ev.bind hb hn)
      · obtain ⟨b, hb⟩ := hdo (at' ops (at' keep (i : Int))).f3 hop hfm (by
          have he := form_cut hfm hk1
          unfold cutD; rw [if_pos hl, he]
          apply ByteArray.ext
          simp)
        exact Ev.neg hk1 (Ev.bind hb hn)
    · obtain ⟨b, hb⟩ := hdo (at' ops (at' keep (i : Int))).f3 hop hfm (by unfold cutD; rw [if_neg hl])
      exact Ev.neg (by omega) (Ev.bind hb hn)
theorem spec_loop (live safe : List S80) (ops : List S73) (keep : List Int) (torn : Int) (ht : 0 ≤ torn) (hm : ops.length ≤ 1048576) (hk : keep.length ≤ 1048576) (hs : safe.length ≤ 1048576) {r : CR}
    (hrun : (∀ i : Nat, i < keep.length → keepB keep ops.length i = true) → Ev (fun k => f21.l10 k safe keep torn 0 live safe ops) r) (d : Nat) : ∀ i : Nat, keep.length - i = d → i ≤ keep.length → (∀ j : Nat, j < i → keepB keep ops.length j = true) →
    Ev (fun k => f21.l4 k keep torn (i : Int) live safe ops) (if allFrom (keepB keep ops.length) i keep.length = true then r else noC) := by
  induction d with
  | zero =>
    intro i hd hi hj
    refine Ev.step (fun k => by rw [f21.l4]) (Ev.neg (by omega) (Ev.pos (by omega) (Ev.pos (by omega) ?_)))
    rw [allFrom_end _ (by omega), if_pos rfl]
    exact hrun fun j hjl => hj j (by omega)
  | succ d ih =>
    intro i hd hi hj
    have hlt : i < keep.length := by omega
    refine Ev.step (fun k => by rw [f21.l4]) (Ev.pos (by omega) (Ev.pos (by omega) ?_))
    rw [allFrom_step _ hlt]
    have hin : Ev (fun q => f58 q (at' keep (i : Int)) 0 (IntKind.i64.wrap ((ops.length : Int) - 1))) (decide (0 ≤ at' keep (i : Int)) && decide (at' keep (i : Int) ≤ (ops.length : Int) - 1)) := by
      rw [wr (n := (ops.length : Int) - 1) (by omega) (by omega)]
      unfold f58
      refine Ev.ite (fun h => Ev.ret' ?_) (fun h => Ev.ret' ?_)
      · rw [decide_eq_true h]; rfl
      · rw [decide_eq_false h]; rfl
    refine Ev.bind hin ?_
    have hn : keepB keep ops.length i = true → _ := fun hki => ih (i + 1) (by omega) (by omega) (fun j hjl => by
      by_cases e : j = i
      · rw [e]; exact hki
      · exact hj j (by omega))
    rw [show ((i + 1 : Nat) : Int) = IntKind.i64.wrap ((i : Int) + 1) by rw [wr (by omega) (by omega)]; omega] at hn
    cases hkb : keepB keep ops.length i with
    | true =>
      have hn := hn hkb
      unfold keepB at hkb
      simp only [Bool.and_eq_true, Bool.or_eq_true, decide_eq_true_eq] at hkb
      obtain ⟨⟨h1, h2⟩, h3⟩ := hkb
      rw [decide_eq_true h1, decide_eq_true h2, Bool.true_and]
      refine Ev.pos rfl ?_
      by_cases h0 : i = 0
      · exact Ev.neg (by omega) hn
      · have e1 : IntKind.i64.wrap ((i : Int) - 1) = (i : Int) - 1 := wr (by omega) (by omega)
        refine Ev.pos (by omega) ?_
        rw [e1]
        exact Ev.pos (by omega) (Ev.pos (by omega) (Ev.neg (by omega) hn))
    | false =>
      rw [Bool.false_and]
      unfold keepB at hkb
      by_cases hr : 0 ≤ at' keep (i : Int) ∧ at' keep (i : Int) ≤ (ops.length : Int) - 1
      · rw [decide_eq_true hr.1, decide_eq_true hr.2] at hkb ⊢
        simp only [Bool.true_and, Bool.or_eq_false_iff, decide_eq_false_iff_not] at hkb
        obtain ⟨h0, h3⟩ := hkb
        have e1 : IntKind.i64.wrap ((i : Int) - 1) = (i : Int) - 1 := wr (by omega) (by omega)
        refine Ev.pos rfl (Ev.pos (by omega) ?_)
        rw [e1]
        exact Ev.pos (by omega) (Ev.pos (by omega) (Ev.pos (by omega) (Ev.ret' (by simp [noC]))))
      · have hf : (decide (0 ≤ at' keep (i : Int)) && decide (at' keep (i : Int) ≤ (ops.length : Int) - 1)) = false := by
          rw [Bool.and_eq_false_iff, decide_eq_false_iff_not, decide_eq_false_iff_not]
          omega
        rw [hf]
        exact Ev.neg (by simp) (Ev.ret' (by simp [noC]))
theorem spec_crash (live safe : List S80) (ops : List S73) (keep : List Int) (torn : Int) (h0 : smallF live) (h1 : smallF safe) (l1 : safe.length ≤ 1048576) (hm : ops.length ≤ 1048576) (hk : keep.length ≤ 1048576) (ho : ∀ x ∈ ops, x.f3.size ≤ 1048576) :
    Ev (fun k => f21 k live safe ops keep torn) (crashR live safe ops keep torn) := by
  unfold f21 crashR
  refine Ev.bind (DiskOk_ev live safe ops h0 h1 (fun x hx => by have := ho x hx; omega)) ?_
  cases hd : diskB live safe ops with
  | false => exact Ev.neg (by simp) (Ev.ret' (by simp [noC]))
  | true =>
    rw [if_pos rfl]
    refine Ev.pos rfl ?_
    by_cases ht : torn < 0
    · rw [if_pos ht]; exact Ev.pos ht (Ev.ret _)
    · rw [if_neg ht]
      refine Ev.neg ht ?_
      obtain ⟨d1, _, d3⟩ := diskB_said hd
      refine spec_loop live safe ops keep torn (by omega) hm hk l1 (fun hall => ?_) _ 0 rfl (Nat.zero_le _) (fun j hj => absurd hj (Nat.not_lt_zero j))
      refine spec_run live safe ops keep torn (by omega) hm hk ho (runB_form ops safe d3) (fun i hi => ?_) _ 0 safe rfl (Nat.zero_le _) (inv0 d1)
      have := hall i hi
      unfold keepB at this
      simp only [Bool.and_eq_true, decide_eq_true_eq] at this
      exact ⟨this.1.1, by omega⟩
end Go.Proofs.Ytfjoamlgbegpgaa.P
namespace Go.Proofs.Ytfjoamlgbegpgaa.P
open Go Go.Proofs.Ytfjoamlgbegpgaa.PM Go.Proofs
def to_File (x : S106) : S80 := ⟨x.f0, x.f1⟩
def to_DOp (x : S108) : S73 := ⟨x.f0, x.f1, x.f2, x.f3⟩
theorem szFile_ev (x y : ByteArray) (a : Int) (h0 : 0 ≤ a) (h1 : a ≤ 1048576) (hx : x.size ≤ maxLen) (hy : y.size ≤ maxLen) : ∃ r, Ev (fun k => f82 k x y a) r ∧ (r < 0 ∨ (0 ≤ r ∧ r ≤ a ∧ x.size ≤ 1048576 ∧ y.size ≤ 1048576)) := by
  unfold maxLen at hx hy
  unfold f82
  rw [wr (n := a - x.size) (by omega) (by omega)]
  by_cases h2 : a - x.size < 0
  · exact ⟨-1, Ev.pos h2 (Ev.ret _), .inl (by omega)⟩
  · rw [wr (n := a - x.size - y.size) (by omega) (by omega)]
    by_cases h3 : a - x.size - y.size < 0
    · exact ⟨-1, Ev.neg h2 (Ev.pos h3 (Ev.ret _)), .inl (by omega)⟩
    · exact ⟨_, Ev.neg h2 (Ev.neg h3 (Ev.ret _)), .inr ⟨by omega, by omega, by omega, by omega⟩⟩
theorem szDOp_ev (n : Int) (x y z : ByteArray) (a : Int) (h0 : 0 ≤ a) (h1 : a ≤ 1048576) (hx : x.size ≤ maxLen) (hy : y.size ≤ maxLen) (hz : z.size ≤ maxLen) : ∃ r, Ev (fun k => f83 k n x y z a) r ∧ (r < 0 ∨ (0 ≤ r ∧ r ≤ a ∧ x.size ≤ 1048576 ∧ y.size ≤ 1048576 ∧ z.size ≤ 1048576)) := by
  unfold maxLen at hx hy hz
  unfold f83
  rw [wr (n := a - x.size) (by omega) (by omega)]
  by_cases h2 : a - x.size < 0
  · exact ⟨-1, Ev.pos h2 (Ev.ret _), .inl (by omega)⟩
  · rw [wr (n := a - x.size - y.size) (by omega) (by omega)]
    by_cases h3 : a - x.size - y.size < 0
    · exact ⟨-1, Ev.neg h2 (Ev.pos h3 (Ev.ret _)), .inl (by omega)⟩
    · rw [wr (n := a - x.size - y.size - z.size) (by omega) (by omega)]
      by_cases h4 : a - x.size - y.size - z.size < 0
      · exact ⟨-1, Ev.neg h2 (Ev.neg h3 (Ev.pos h4 (Ev.ret _))), .inl (by omega)⟩
      · exact ⟨_, Ev.neg h2 (Ev.neg h3 (Ev.neg h4 (Ev.ret _))), .inr ⟨by omega, by omega, by omega, by omega, by omega⟩⟩
theorem szFileS_loop (l : List S106) (hl : l.length ≤ 1048576) (hs : ∀ x ∈ l, x.f0.size ≤ maxLen ∧ x.f1.size ≤ maxLen) (d : Nat) : ∀ (i : Nat) (a : Int), l.length - i = d → i ≤ l.length → 0 ≤ a → a ≤ 1048576 →
    ∃ r, Ev (fun k => f41.l5 k l a (i : Int)) r ∧ (r < 0 ∨ (0 ≤ r ∧ r ≤ a ∧ ∀ x ∈ l.drop i, x.f0.size ≤ 1048576 ∧ x.f1.size ≤ 1048576)) := by
  induction d with
  | zero =>
    intro i a hd hi h0 h1
    exact ⟨a, Ev.step (fun k => by rw [f41.l5]) (Ev.neg (by omega) (Ev.ret _)), .inr ⟨h0, by omega, fun x hx => by rw [List.drop_of_length_le (by omega)] at hx; cases hx⟩⟩
  | succ d ih =>
    intro i a hd hi h0 h1
    have hlt : i < l.length := by omega
    obtain ⟨s0, s1⟩ := hs _ (List.getElem_mem hlt)
    obtain ⟨r, hr, h⟩ := szFile_ev l[i].f0 l[i].f1 a h0 h1 s0 s1
    rw [← at_nat l i hlt] at hr
    rcases h with h | ⟨r0, r1, z0, z1⟩
    · exact ⟨-1, Ev.step (fun k => by rw [f41.l5]) (Ev.pos (by omega) (Ev.pos (by omega) (Ev.bind hr (Ev.pos h (Ev.ret _))))), .inl (by omega)⟩
    · obtain ⟨q, hq, h⟩ := ih (i + 1) r (by omega) (by omega) r0 (by omega)
      rw [show ((i + 1 : Nat) : Int) = IntKind.i64.wrap ((i : Int) + 1) by rw [wr (by omega) (by omega)]; omega] at hq
      have hq' : Ev (fun k => f41.l5 k l a (i : Int)) q := by
        refine Ev.step (fun k => by rw [f41.l5]) (Ev.pos (by omega) (Ev.pos (by omega) (Ev.bind hr ?_)))
        exact Ev.neg (by omega) hq
      refine ⟨q, hq', ?_⟩
      rcases h with h | ⟨q0, q1, z⟩
      · exact .inl h
      · refine .inr ⟨q0, by omega, fun x hx => ?_⟩
        rw [List.drop_eq_getElem_cons hlt] at hx
        rcases List.mem_cons.1 hx with rfl | hx
        · exact ⟨z0, z1⟩
        · exact z x hx
theorem szFileS_ev (l : List S106) (a : Int) (h0 : 0 ≤ a) (h1 : a ≤ 1048576) (hl : l.length ≤ maxLen) (hs : ∀ x ∈ l, x.f0.size ≤ maxLen ∧ x.f1.size ≤ maxLen) : ∃ r, Ev (fun k => f41 k l a) r ∧ (r < 0 ∨ (0 ≤ r ∧ r ≤ a ∧ l.length ≤ 1048576 ∧ ∀ x ∈ l, x.f0.size ≤ 1048576 ∧ x.f1.size ≤ 1048576)) := by
  unfold maxLen at hl
  unfold f41
  rw [wr (n := a - l.length) (by omega) (by omega)]
  by_cases h2 : a - l.length < 0
  · exact ⟨-1, Ev.pos h2 (Ev.ret _), .inl (by omega)⟩
  · obtain ⟨r, hr, h⟩ := szFileS_loop l (by omega) hs _ 0 (a - l.length) rfl (Nat.zero_le _) (by omega) (by omega)
    refine ⟨r, Ev.neg h2 hr, ?_⟩
    rcases h with h | ⟨r0, r1, z⟩
    · exact .inl h
    · exact .inr ⟨r0, by omega, by omega, z⟩
theorem szDOpS_loop (l : List S108) (hl : l.length ≤ 1048576) (hs : ∀ x ∈ l, x.f1.size ≤ maxLen ∧ x.f2.size ≤ maxLen ∧ x.f3.size ≤ maxLen) (d : Nat) : ∀ (i : Nat) (a : Int), l.length - i = d → i ≤ l.length → 0 ≤ a → a ≤ 1048576 →
    ∃ r, Ev (fun k => f42.l5 k l a (i : Int)) r ∧ (r < 0 ∨ (0 ≤ r ∧ r ≤ a ∧ ∀ x ∈ l.drop i, x.f1.size ≤ 1048576 ∧ x.f2.size ≤ 1048576 ∧ x.f3.size ≤ 1048576)) := by
  induction d with
  | zero =>
    intro i a hd hi h0 h1
    exact ⟨a, Ev.step (fun k => by rw [f42.l5]) (Ev.neg (by omega) (Ev.ret _)), .inr ⟨h0, by omega, fun x hx => by rw [List.drop_of_length_le (by omega)] at hx; cases hx⟩⟩
  | succ d ih =>
    intro i a hd hi h0 h1
    have hlt : i < l.length := by omega
    obtain ⟨s0, s1, s2⟩ := hs _ (List.getElem_mem hlt)
    obtain ⟨r, hr, h⟩ := szDOp_ev l[i].f0 l[i].f1 l[i].f2 l[i].f3 a h0 h1 s0 s1 s2
    rw [← at_nat l i hlt] at hr
    rcases h with h | ⟨r0, r1, z0, z1, z2⟩
    · exact ⟨-1, Ev.step (fun k => by rw [f42.l5]) (Ev.pos (by omega) (Ev.pos (by omega) (Ev.bind hr (Ev.pos h (Ev.ret _))))), .inl (by omega)⟩
    · obtain ⟨q, hq, h⟩ := ih (i + 1) r (by omega) (by omega) r0 (by omega)
      rw [show ((i + 1 : Nat) : Int) = IntKind.i64.wrap ((i : Int) + 1) by rw [wr (by omega) (by omega)]; omega] at hq
      have hq' : Ev (fun k => f42.l5 k l a (i : Int)) q := by
        refine Ev.step (fun k => by rw [f42.l5]) (Ev.pos (by omega) (Ev.pos (by omega) (Ev.bind hr ?_)))
        exact Ev.neg (by omega) hq
      refine ⟨q, hq', ?_⟩
      rcases h with h | ⟨q0, q1, z⟩
      · exact .inl h
      · refine .inr ⟨q0, by omega, fun x hx => ?_⟩
        rw [List.drop_eq_getElem_cons hlt] at hx
        rcases List.mem_cons.1 hx with rfl | hx
        · exact ⟨z0, z1, z2⟩
        · exact z x hx
theorem szDOpS_ev (l : List S108) (a : Int) (h0 : 0 ≤ a) (h1 : a ≤ 1048576) (hl : l.length ≤ maxLen) (hs : ∀ x ∈ l, x.f1.size ≤ maxLen ∧ x.f2.size ≤ maxLen ∧ x.f3.size ≤ maxLen) : ∃ r, Ev (fun k => f42 k l a) r ∧ (r < 0 ∨ (0 ≤ r ∧ r ≤ a ∧ l.length ≤ 1048576 ∧ ∀ x ∈ l, x.f1.size ≤ 1048576 ∧ x.f2.size ≤ 1048576 ∧ x.f3.size ≤ 1048576)) := by
  unfold maxLen at hl
  unfold f42
  rw [wr (n := a - l.length) (by omega) (by omega)]
  by_cases h2 : a - l.length < 0
  · exact ⟨-1, Ev.pos h2 (Ev.ret _), .inl (by omega)⟩
  · obtain ⟨r, hr, h⟩ := szDOpS_loop l (by omega) hs _ 0 (a - l.length) rfl (Nat.zero_le _) (by omega) (by omega)
    refine ⟨r, Ev.neg h2 hr, ?_⟩
    rcases h with h | ⟨r0, r1, z⟩
    · exact .inl h
    · exact .inr ⟨r0, by omega, by omega, z⟩
structure DiskSz (live safe : List S80) (ops : List S73) : Prop where
  n0 : live.length ≤ 1048576
  n1 : safe.length ≤ 1048576
  n2 : ops.length ≤ 1048576
  s0 : ∀ x ∈ live, x.f0.size ≤ 1048576 ∧ x.f1.size ≤ 1048576
  s1 : ∀ x ∈ safe, x.f0.size ≤ 1048576 ∧ x.f1.size ≤ 1048576
  s2 : ∀ x ∈ ops, x.f1.size ≤ 1048576 ∧ x.f2.size ≤ 1048576 ∧ x.f3.size ≤ 1048576
def okF (l : List S106) : Prop := l.length ≤ maxLen ∧ ∀ x ∈ l, x.f0.size ≤ maxLen ∧ x.f1.size ≤ maxLen
def okO (l : List S108) : Prop := l.length ≤ maxLen ∧ ∀ x ∈ l, x.f1.size ≤ maxLen ∧ x.f2.size ≤ maxLen ∧ x.f3.size ≤ maxLen
theorem szDisk_ev (l0 l1 : List S106) (l2 : List S108) (a : Int) (h0 : 0 ≤ a) (h1 : a ≤ 1048576) (o0 : okF l0) (o1 : okF l1) (o2 : okO l2) :
    ∃ r, Ev (fun k => f12 k l0 l1 l2 a) r ∧ (r < 0 ∨ (0 ≤ r ∧ r ≤ a ∧ DiskSz (l0.map to_File) (l1.map to_File) (l2.map to_DOp))) := by
  unfold f12
  obtain ⟨r, hr, h⟩ := szFileS_ev l0 a h0 h1 o0.1 o0.2
  rcases h with h | ⟨r0, r1, m0, z0⟩
  · exact ⟨-1, Ev.bind hr (Ev.pos h (Ev.ret _)), .inl (by omega)⟩
  obtain ⟨q, hq, h⟩ := szFileS_ev l1 r r0 (by omega) o1.1 o1.2
  rcases h with h | ⟨q0, q1, m1, z1⟩
  · exact ⟨-1, Ev.bind hr (Ev.neg (by omega) (Ev.bind hq (Ev.pos h (Ev.ret _)))), .inl (by omega)⟩
  obtain ⟨p, hp, h⟩ := szDOpS_ev l2 q q0 (by omega) o2.1 o2.2
  rcases h with h | ⟨p0, p1, m2, z2⟩
  · exact ⟨-1, Ev.bind hr (Ev.neg (by omega) (Ev.bind hq (Ev.neg (by omega) (Ev.bind hp (Ev.pos h (Ev.ret _)))))), .inl (by omega)⟩
  refine ⟨p, Ev.bind hr (Ev.neg (by omega) (Ev.bind hq (Ev.neg (by omega) (Ev.bind hp (Ev.neg (by omega) (Ev.ret _)))))), .inr ⟨p0, by omega, by simpa using m0, by simpa using m1, by simpa using m2, ?_, ?_, ?_⟩⟩
  · intro x hx
    obtain ⟨y, hy, rfl⟩ := List.mem_map.1 hx
    exact z0 y hy
  · intro x hx
    obtain ⟨y, hy, rfl⟩ := List.mem_map.1 hx
    exact z1 y hy
  · intro x hx
    obtain ⟨y, hy, rfl⟩ := List.mem_map.1 hx
    exact z2 y hy
theorem toFileS_loop (l : List S106) (z : S80) (hl : l.length ≤ 1048576) (d : Nat) : ∀ i : Nat, l.length - i = d → i ≤ l.length → Ev (fun k => f47.l3 k ((l.map to_File).take i ++ List.replicate ((l.map to_File).length - i) z) l (i : Int)) (l.map to_File) := by
  have hm : (l.map to_File).length = l.length := List.length_map ..
  induction d with
  | zero =>
    intro i hd hi
    exact Ev.step (fun k => by rw [f47.l3]) (Ev.neg (by omega) (Ev.ret' (fill_end z _ i (by omega))))
  | succ d ih =>
    intro i hd hi
    have hlt : i < l.length := by omega
    have hq := fill_length z (l.map to_File) i (by omega)
    refine Ev.step (fun k => by rw [f47.l3]) (Ev.pos (by omega) (Ev.pos (by omega) (Ev.bind (a := (l[i].f0, l[i].f1)) (by rw [at_nat l i hlt]; unfold f87; exact Ev.ret _) ?_)))
    refine Ev.pos (by rw [hq]; omega) ?_
    have hn := ih (i + 1) (by omega) (by omega)
    rw [wr (by omega) (by omega), Int.toNat_natCast]
    have e : (⟨l[i].f0, l[i].f1⟩ : S80) = (l.map to_File)[i]'(by omega) := by rw [List.getElem_map]; rfl
    rw [show ((l[i].f0, l[i].f1).1 : ByteArray) = l[i].f0 from rfl, show ((l[i].f0, l[i].f1).2 : ByteArray) = l[i].f1 from rfl, e, fillL_step z _ i (by omega)]
    rwa [show ((i + 1 : Nat) : Int) = (i : Int) + 1 by omega] at hn
theorem toFileS_ev (l : List S106) (hl : l.length ≤ 1048576) : Ev (fun k => f47 k l) (l.map to_File) := by
  unfold f47
  refine Ev.pos (by omega) (Ev.pos (by omega) (Ev.pos (by omega) (Ev.pos (by omega) ?_)))
  have := toFileS_loop l (⟨(⟨#[]⟩ : ByteArray), (⟨#[]⟩ : ByteArray)⟩ : S80) hl _ 0 rfl (Nat.zero_le _)
  simpa using this
theorem toDOpS_loop (l : List S108) (z : S73) (hl : l.length ≤ 1048576) (d : Nat) : ∀ i : Nat, l.length - i = d → i ≤ l.length → Ev (fun k => f48.l3 k ((l.map to_DOp).take i ++ List.replicate ((l.map to_DOp).length - i) z) l (i : Int)) (l.map to_DOp) := by
  have hm : (l.map to_DOp).length = l.length := List.length_map ..
  induction d with
  | zero =>
    intro i hd hi
    exact Ev.step (fun k => by rw [f48.l3]) (Ev.neg (by omega) (Ev.ret' (fill_end z _ i (by omega))))
  | succ d ih =>
    intro i hd hi
    have hlt : i < l.length := by omega
    have hq := fill_length z (l.map to_DOp) i (by omega)
    refine Ev.step (fun k => by rw [f48.l3]) (Ev.pos (by omega) (Ev.pos (by omega) (Ev.bind (a := (l[i].f0, l[i].f1, l[i].f2, l[i].f3)) (by rw [at_nat l i hlt]; unfold f88; exact Ev.ret _) ?_)))
    refine Ev.pos (by rw [hq]; omega) ?_
    have hn := ih (i + 1) (by omega) (by omega)
    rw [wr (by omega) (by omega), Int.toNat_natCast]
    have e : (⟨l[i].f0, l[i].f1, l[i].f2, l[i].f3⟩ : S73) = (l.map to_DOp)[i]'(by omega) := by rw [List.getElem_map]; rfl
    show Ev (fun n => f48.l3 n ((((l.map to_DOp).take i ++ List.replicate ((l.map to_DOp).length - i) z)).set i (⟨l[i].f0, l[i].f1, l[i].f2, l[i].f3⟩ : S73)) l ((i : Int) + 1)) _
    rw [e, fillL_step z _ i (by omega)]
    rwa [show ((i + 1 : Nat) : Int) = (i : Int) + 1 by omega] at hn
theorem toDOpS_ev (l : List S108) (hl : l.length ≤ 1048576) : Ev (fun k => f48 k l) (l.map to_DOp) := by
  unfold f48
  refine Ev.pos (by omega) (Ev.pos (by omega) (Ev.pos (by omega) (Ev.pos (by omega) ?_)))
  have := toDOpS_loop l (⟨0, (⟨#[]⟩ : ByteArray), (⟨#[]⟩ : ByteArray), (⟨#[]⟩ : ByteArray)⟩ : S73) hl _ 0 rfl (Nat.zero_le _)
  simpa using this
theorem toInts_loop (l : List Int) (hl : l.length ≤ 1048576) (d : Nat) : ∀ i : Nat, l.length - i = d → i ≤ l.length → Ev (fun k => f31.l3 k (l.take i ++ List.replicate (l.length - i) 0) l (i : Int)) l := by
  induction d with
  | zero =>
    intro i hd hi
    exact Ev.step (fun k => by rw [f31.l3]) (Ev.neg (by omega) (Ev.ret' (fill_end 0 l i (by omega))))
  | succ d ih =>
    intro i hd hi
    have hq := fill_length 0 l i hi
    refine Ev.step (fun k => by rw [f31.l3]) (Ev.pos (by omega) (Ev.pos (by omega) (Ev.pos (by rw [hq]; omega) ?_)))
    have hn := ih (i + 1) (by omega) (by omega)
    rw [wr (by omega) (by omega), Int.toNat_natCast, at_nat l i (by omega), fillL_step 0 l i (by omega)]
    rwa [show ((i + 1 : Nat) : Int) = (i : Int) + 1 by omega] at hn
theorem toInts_ev (l : List Int) (hl : l.length ≤ 1048576) : Ev (fun k => f31 k l) l := by
  unfold f31
  refine Ev.pos (by omega) (Ev.pos (by omega) (Ev.pos (by omega) (Ev.pos (by omega) ?_)))
  have := toInts_loop l hl _ 0 rfl (Nat.zero_le _)
  simpa using this
theorem toDisk_ev (l0 l1 : List S106) (l2 : List S108) (h : DiskSz (l0.map to_File) (l1.map to_File) (l2.map to_DOp)) : Ev (fun k => f14 k l0 l1 l2) (l0.map to_File, l1.map to_File, l2.map to_DOp) := by
  unfold f14
  have n0 := h.n0
  have n1 := h.n1
  have n2 := h.n2
  rw [List.length_map] at n0 n1 n2
  exact Ev.bind (toFileS_ev l0 n0) (Ev.bind (toFileS_ev l1 n1) (Ev.bind (toDOpS_ev l2 n2) (Ev.ret _)))
theorem eqFileS_loop (l : List S80) (hl : l.length ≤ 1073741824) (d : Nat) : ∀ i : Nat, l.length - i = d → i ≤ l.length → Ev (fun k => f50.l4 k l l (i : Int)) true := by
  induction d with
  | zero => intro i hd hi; exact Ev.step (fun k => by rw [f50.l4]) (Ev.neg (by omega) (Ev.ret _))
  | succ d ih =>
    intro i hd hi
    have hn := ih (i + 1) (by omega) (by omega)
    rw [show ((i + 1 : Nat) : Int) = IntKind.i64.wrap ((i : Int) + 1) by rw [wr (by omega) (by omega)]; omega] at hn
    exact Ev.step (fun k => by rw [f50.l4]) (Ev.pos (by omega) (Ev.pos (by omega) (Ev.pos (by omega) (Ev.bind (a := true) (by unfold f91; exact Ev.pos (strEq_self _) (Ev.pos (strEq_self _) (Ev.ret _))) (Ev.pos rfl hn)))))
theorem eqFileS_ev (l : List S80) (hl : l.length ≤ 1073741824) : Ev (fun k => f50 k l l) true := by
  unfold f50
  exact Ev.pos rfl (eqFileS_loop l hl _ 0 rfl (Nat.zero_le _))
theorem eqDOpS_loop (l : List S73) (hl : l.length ≤ 1073741824) (d : Nat) : ∀ i : Nat, l.length - i = d → i ≤ l.length → Ev (fun k => f51.l4 k l l (i : Int)) true := by
  induction d with
  | zero => intro i hd hi; exact Ev.step (fun k => by rw [f51.l4]) (Ev.neg (by omega) (Ev.ret _))
  | succ d ih =>
    intro i hd hi
    have hn := ih (i + 1) (by omega) (by omega)
    rw [show ((i + 1 : Nat) : Int) = IntKind.i64.wrap ((i : Int) + 1) by rw [wr (by omega) (by omega)]; omega] at hn
    exact Ev.step (fun k => by rw [f51.l4]) (Ev.pos (by omega) (Ev.pos (by omega) (Ev.pos (by omega) (Ev.bind (a := true) (by unfold f92; exact Ev.pos rfl (Ev.pos (strEq_self _) (Ev.pos (strEq_self _) (Ev.pos (strEq_self _) (Ev.ret _))))) (Ev.pos rfl hn)))))
theorem eqDOpS_ev (l : List S73) (hl : l.length ≤ 1073741824) : Ev (fun k => f51 k l l) true := by
  unfold f51
  exact Ev.pos rfl (eqDOpS_loop l hl _ 0 rfl (Nat.zero_le _))
theorem eqDisk_ev (a b : List S80) (c : List S73) (h0 : a.length ≤ 1073741824) (h1 : b.length ≤ 1073741824) (h2 : c.length ≤ 1073741824) : Ev (fun k => f16 k a b c a b c) true := by
  unfold f16
  exact Ev.bind (eqFileS_ev a h0) (Ev.pos rfl (Ev.bind (eqFileS_ev b h1) (Ev.pos rfl (Ev.bind (eqDOpS_ev c h2) (Ev.pos rfl (Ev.ret _))))))
theorem eqInts_loop (l : List Int) (hl : l.length ≤ 1073741824) (d : Nat) : ∀ i : Nat, l.length - i = d → i ≤ l.length → Ev (fun k => f32.l4 k l l (i : Int)) true := by
  induction d with
  | zero => intro i hd hi; exact Ev.step (fun k => by rw [f32.l4]) (Ev.neg (by omega) (Ev.ret _))
  | succ d ih =>
    intro i hd hi
    have hn := ih (i + 1) (by omega) (by omega)
    rw [show ((i + 1 : Nat) : Int) = IntKind.i64.wrap ((i : Int) + 1) by rw [wr (by omega) (by omega)]; omega] at hn
    exact Ev.step (fun k => by rw [f32.l4]) (Ev.pos (by omega) (Ev.pos (by omega) (Ev.pos (by omega) (Ev.pos rfl hn))))
theorem eqInts_ev (l : List Int) (hl : l.length ≤ 1073741824) : Ev (fun k => f32 k l l) true := by
  unfold f32
  exact Ev.pos rfl (eqInts_loop l hl _ 0 rfl (Nat.zero_le _))
theorem markText_loop (d : Nat) : ∀ (x : Int) (s : ByteArray), 0 ≤ x → x ≤ 9223372036854775807 → x < 10 ^ d → s.size + d ≤ 1000 → ∃ t, Ev (fun k => f105.l4 k x s) t := by
  induction d with
  | zero =>
    intro x s h0 hm h1 h2
    exact ⟨_, Ev.step (fun k => by rw [f105.l4]) (Ev.neg (by omega) (Ev.pos (by omega) (Ev.ret _)))⟩
  | succ d ih =>
    intro x s h0 hm h1 h2
    by_cases hx : 0 < x
    · have e : x.tdiv 10 = x / 10 := Int.tdiv_eq_ediv_of_nonneg h0
      have hb : x / 10 < 10 ^ d := by
        have : (10 : Int) ^ (d + 1) = 10 ^ d * 10 := Int.pow_succ 10 d
        omega
      have hw : IntKind.i64.wrap (x.tdiv 10) = x / 10 := by rw [e, wr (by omega) (by omega)]
      obtain ⟨t, ht⟩ := ih (x / 10) (strOf ([(IntKind.u8.wrap (IntKind.i64.wrap (48 + (x.tmod 10))))] : List Int) ++ s) (by omega) (by omega) hb (by rw [ByteArray.size_append, show (strOf ([(IntKind.u8.wrap (IntKind.i64.wrap (48 + (x.tmod 10))))] : List Int)).size = 1 from rfl]; omega)
      refine ⟨t, Ev.step (fun k => by rw [f105.l4]) (Ev.pos hx (Ev.pos (by omega) ?_))⟩
      rw [hw]
      exact ht
    · exact ⟨_, Ev.step (fun k => by rw [f105.l4]) (Ev.neg hx (Ev.pos (by omega) (Ev.ret _)))⟩
theorem markText_any (x : Int) (h0 : 0 ≤ x) (h1 : x ≤ 9223372036854775807) : ∃ t, Ev (fun k => f105 k x) t := by
  unfold f105
  by_cases h : x ≤ 0
  · exact ⟨_, Ev.pos h (Ev.ret _)⟩
  · obtain ⟨t, ht⟩ := markText_loop 19 x (⟨#[]⟩ : ByteArray) h0 h1 (by omega) (by decide)
    exact ⟨t, Ev.neg h ht⟩
noncomputable def mt (x : Int) : ByteArray := by
  classical
  exact if h : ∃ t, Ev (fun k => f105 k x) t then h.choose else default
theorem mt_ev (x : Int) (h0 : 0 ≤ x) (h1 : x ≤ 9223372036854775807) : Ev (fun k => f105 k x) (mt x) := by
  have h := markText_any x h0 h1
  unfold mt
  rw [dif_pos h]
  exact h.choose_spec
noncomputable def mkF (a : Int) : Nat → List S80
  | 0 => []
  | n + 1 => ⟨mt a, mt (a + 1)⟩ :: mkF (a + 2) n
noncomputable def mkO (a : Int) : Nat → List S73
  | 0 => []
  | n + 1 => ⟨a, mt (a + 1), mt (a + 2), mt (a + 3)⟩ :: mkO (a + 4) n
theorem mkF_len : ∀ (n : Nat) (a : Int), (mkF a n).length = n
  | 0, _ => rfl
  | n + 1, a => by rw [mkF, List.length_cons, mkF_len n]
theorem mkO_len : ∀ (n : Nat) (a : Int), (mkO a n).length = n
  | 0, _ => rfl
  | n + 1, a => by rw [mkO, List.length_cons, mkO_len n]
theorem set_mid {α : Type} (p : List α) (x y : α) (r : List α) : (p ++ x :: r).set p.length y = p ++ y :: r := by
  rw [List.set_append_right _ _ (Nat.le_refl _), Nat.sub_self, List.set_cons_zero]
theorem markF_loop : ∀ (r p : List S80) (a : Int), 0 ≤ a → a + 2 * r.length ≤ 4611686018427387904 → p.length + r.length ≤ 1073741824 → Ev (fun k => f68.l2 k (p ++ r) a (p.length : Int)) (a + 2 * r.length, p ++ mkF a r.length)
  | [], p, a, h0, h1, h2 => by
    refine Ev.step (fun k => by rw [f68.l2]) (Ev.neg (by simp) (Ev.ret' ?_))
    simp [mkF]
  | x :: r, p, a, h0, h1, h2 => by
    rw [List.length_cons] at h1 h2
    refine Ev.step (fun k => by rw [f68.l2]) (Ev.pos (by rw [List.length_append, List.length_cons]; omega) (Ev.bind (mt_ev a h0 (by omega)) ?_))
    refine Ev.pos (by omega) ?_
    rw [wr (n := a + 1) (by omega) (by omega), wr (n := a + 1 + 1) (by omega) (by omega), wr (n := (p.length : Int) + 1) (by omega) (by omega), Int.toNat_natCast, show a + 1 + 1 = a + 2 by omega]
    refine Ev.bind (mt_ev (a + 1) (by omega) (by omega)) ?_
    rw [set_mid]
    have ih := markF_loop r (p ++ [⟨mt a, mt (a + 1)⟩]) (a + 2) (by omega) (by omega) (by rw [List.length_append]; simp; omega)
    rw [List.append_assoc, List.singleton_append, List.length_append, List.length_singleton, show ((p.length + 1 : Nat) : Int) = (p.length : Int) + 1 by omega] at ih
    refine ih.eq ?_
    rw [List.length_cons, mkF, List.append_assoc]
    simp only [Prod.mk.injEq, List.singleton_append, and_true]
    omega
theorem markF_ev (l : List S80) (a : Int) (h0 : 0 ≤ a) (h1 : a + 2 * l.length ≤ 4611686018427387904) (h2 : l.length ≤ 1073741824) : Ev (fun k => f68 k a l) (a + 2 * l.length, mkF a l.length) := by
  unfold f68
  exact markF_loop l [] a h0 h1 (by simpa using h2)
theorem markO_loop : ∀ (r p : List S73) (a : Int), 0 ≤ a → a + 4 * r.length ≤ 4611686018427387904 → p.length + r.length ≤ 1073741824 → Ev (fun k => f69.l2 k (p ++ r) a (p.length : Int)) (a + 4 * r.length, p ++ mkO a r.length)
  | [], p, a, h0, h1, h2 => by
    refine Ev.step (fun k => by rw [f69.l2]) (Ev.neg (by simp) (Ev.ret' ?_))
    simp [mkO]
  | x :: r, p, a, h0, h1, h2 => by
    rw [List.length_cons] at h1 h2
    refine Ev.step (fun k => by rw [f69.l2]) (Ev.pos (by rw [List.length_append, List.length_cons]; omega) (Ev.pos (by omega) ?_))
    rw [wr (n := a + 1) (by omega) (by omega), wr (n := a + 1 + 1) (by omega) (by omega), wr (n := a + 1 + 1 + 1) (by omega) (by omega), wr (n := a + 1 + 1 + 1 + 1) (by omega) (by omega), wr (n := (p.length : Int) + 1) (by omega) (by omega), Int.toNat_natCast, show a + 1 + 1 + 1 + 1 = a + 4 by omega, show a + 1 + 1 + 1 = a + 3 by omega, show a + 1 + 1 = a + 2 by omega]
    refine Ev.bind (mt_ev (a + 1) (by omega) (by omega)) (Ev.bind (mt_ev (a + 2) (by omega) (by omega)) (Ev.bind (mt_ev (a + 3) (by omega) (by omega)) ?_))
    rw [set_mid]
    have ih := markO_loop r (p ++ [⟨a, mt (a + 1), mt (a + 2), mt (a + 3)⟩]) (a + 4) (by omega) (by omega) (by rw [List.length_append]; simp; omega)
    rw [List.append_assoc, List.singleton_append, List.length_append, List.length_singleton, show ((p.length + 1 : Nat) : Int) = (p.length : Int) + 1 by omega] at ih
    refine ih.eq ?_
    rw [List.length_cons, mkO, List.append_assoc]
    simp only [Prod.mk.injEq, List.singleton_append, and_true]
    omega
theorem markO_ev (l : List S73) (a : Int) (h0 : 0 ≤ a) (h1 : a + 4 * l.length ≤ 4611686018427387904) (h2 : l.length ≤ 1073741824) : Ev (fun k => f69 k a l) (a + 4 * l.length, mkO a l.length) := by
  unfold f69
  exact markO_loop l [] a h0 h1 (by simpa using h2)
theorem markI_loop : ∀ (r p : List Int) (a : Int), 0 ≤ a → a + r.length ≤ 4611686018427387904 → p.length + r.length ≤ 1073741824 → ∃ q, Ev (fun k => f33.l2 k (p ++ r) a (p.length : Int)) (a + r.length, q)
  | [], p, a, h0, h1, h2 => ⟨p, by
    refine Ev.step (fun k => by rw [f33.l2]) (Ev.neg (by simp) (Ev.ret' ?_))
    simp⟩
  | x :: r, p, a, h0, h1, h2 => by
    rw [List.length_cons] at h1 h2
    obtain ⟨q, ih⟩ := markI_loop r (p ++ [a]) (a + 1) (by omega) (by omega) (by rw [List.length_append]; simp; omega)
    refine ⟨q, Ev.step (fun k => by rw [f33.l2]) (Ev.pos (by rw [List.length_append, List.length_cons]; omega) (Ev.pos (by omega) ?_))⟩
    rw [wr (n := a + 1) (by omega) (by omega), wr (n := (p.length : Int) + 1) (by omega) (by omega), Int.toNat_natCast, set_mid]
    rw [List.append_assoc, List.singleton_append, List.length_append, List.length_singleton, show ((p.length + 1 : Nat) : Int) = (p.length : Int) + 1 by omega] at ih
    refine ih.eq ?_
    rw [List.length_cons]
    simp only [Prod.mk.injEq, and_true]
    omega
theorem markI_ev (l : List Int) (a : Int) (h0 : 0 ≤ a) (h1 : a + l.length ≤ 4611686018427387904) (h2 : l.length ≤ 1073741824) : ∃ q, Ev (fun k => f33 k a l) (a + l.length, q) := by
  unfold f33
  exact markI_loop l [] a h0 h1 (by simpa using h2)
theorem heldF_loop : ∀ (n : Nat) (p : List S80) (a : Int), 0 ≤ a → a + 2 * n ≤ 4611686018427387904 → p.length + n ≤ 1073741824 → Ev (fun k => f70.l2 k (p ++ mkF a n) a (p.length : Int)) (a + 2 * n)
  | 0, p, a, h0, h1, h2 => by
    refine Ev.step (fun k => by rw [f70.l2]) (Ev.neg (by simp [mkF]) (Ev.ret' ?_))
    simp
  | n + 1, p, a, h0, h1, h2 => by
    have hl : (p ++ mkF a (n + 1)).length = p.length + (n + 1) := by rw [List.length_append, mkF_len]
    have hat : at' (p ++ mkF a (n + 1)) (p.length : Int) = ⟨mt a, mt (a + 1)⟩ := by
      rw [at_nat _ _ (by omega), List.getElem_append_right (Nat.le_refl _)]
      simp [mkF]
    refine Ev.step (fun k => by rw [f70.l2]) (Ev.pos (by omega) (Ev.pos (by omega) ?_))
    rw [hat, wr (n := a + 1) (by omega) (by omega), wr (n := a + 1 + 1) (by omega) (by omega), wr (n := (p.length : Int) + 1) (by omega) (by omega), show a + 1 + 1 = a + 2 by omega]
    refine Ev.bind (mt_ev a h0 (by omega)) (Ev.pos (strEq_self _) (Ev.bind (mt_ev (a + 1) (by omega) (by omega)) (Ev.pos (strEq_self _) ?_)))
    have ih := heldF_loop n (p ++ [⟨mt a, mt (a + 1)⟩]) (a + 2) (by omega) (by omega) (by rw [List.length_append]; simp; omega)
    rw [List.append_assoc, List.singleton_append, List.length_append, List.length_singleton, show ((p.length + 1 : Nat) : Int) = (p.length : Int) + 1 by omega] at ih
    rw [mkF]
    exact ih.eq (by omega)
theorem heldF_ev (n : Nat) (a : Int) (h0 : 0 ≤ a) (h1 : a + 2 * n ≤ 4611686018427387904) (h2 : n ≤ 1073741824) : Ev (fun k => f70 k (mkF a n) a) (a + 2 * n) := by
  unfold f70
  exact heldF_loop n [] a h0 h1 (by simpa using h2)
theorem heldO_loop : ∀ (n : Nat) (p : List S73) (a : Int), 0 ≤ a → a + 4 * n ≤ 4611686018427387904 → p.length + n ≤ 1073741824 → Ev (fun k => f71.l2 k (p ++ mkO a n) a (p.length : Int)) (a + 4 * n)
  | 0, p, a, h0, h1, h2 => by
    refine Ev.step (fun k => by rw [f71.l2]) (Ev.neg (by simp [mkO]) (Ev.ret' ?_))
    simp
  | n + 1, p, a, h0, h1, h2 => by
    have hl : (p ++ mkO a (n + 1)).length = p.length + (n + 1) := by rw [List.length_append, mkO_len]
    have hat : at' (p ++ mkO a (n + 1)) (p.length : Int) = ⟨a, mt (a + 1), mt (a + 2), mt (a + 3)⟩ := by
      rw [at_nat _ _ (by omega), List.getElem_append_right (Nat.le_refl _)]
      simp [mkO]
    refine Ev.step (fun k => by rw [f71.l2]) (Ev.pos (by omega) (Ev.pos (by omega) ?_))
    rw [hat, wr (n := a + 1) (by omega) (by omega), wr (n := a + 1 + 1) (by omega) (by omega), wr (n := a + 1 + 1 + 1) (by omega) (by omega), wr (n := a + 1 + 1 + 1 + 1) (by omega) (by omega), wr (n := (p.length : Int) + 1) (by omega) (by omega), show a + 1 + 1 + 1 + 1 = a + 4 by omega, show a + 1 + 1 + 1 = a + 3 by omega, show a + 1 + 1 = a + 2 by omega]
    refine Ev.pos rfl (Ev.bind (mt_ev (a + 1) (by omega) (by omega)) (Ev.pos (strEq_self _) (Ev.bind (mt_ev (a + 2) (by omega) (by omega)) (Ev.pos (strEq_self _) (Ev.bind (mt_ev (a + 3) (by omega) (by omega)) (Ev.pos (strEq_self _) ?_))))))
    have ih := heldO_loop n (p ++ [⟨a, mt (a + 1), mt (a + 2), mt (a + 3)⟩]) (a + 4) (by omega) (by omega) (by rw [List.length_append]; simp; omega)
    rw [List.append_assoc, List.singleton_append, List.length_append, List.length_singleton, show ((p.length + 1 : Nat) : Int) = (p.length : Int) + 1 by omega] at ih
    rw [mkO]
    exact ih.eq (by omega)
theorem heldO_ev (n : Nat) (a : Int) (h0 : 0 ≤ a) (h1 : a + 4 * n ≤ 4611686018427387904) (h2 : n ≤ 1073741824) : Ev (fun k => f71 k (mkO a n) a) (a + 4 * n) := by
  unfold f71
  exact heldO_loop n [] a h0 h1 (by simpa using h2)
theorem markD_ev (a b : List S80) (c : List S73) (h0 : a.length ≤ 1073741824) (h1 : b.length ≤ 1073741824) (h2 : c.length ≤ 1073741824) :
    Ev (fun k => f29 k 1 a b c) (1 + 2 * a.length + 2 * b.length + 4 * c.length, mkF 1 a.length, mkF (1 + 2 * a.length) b.length, mkO (1 + 2 * a.length + 2 * b.length) c.length) := by
  unfold f29
  exact Ev.bind (markF_ev a 1 (by omega) (by omega) h0) (Ev.bind (markF_ev b _ (by omega) (by omega) h1) (Ev.bind (markO_ev c _ (by omega) (by omega) h2) (Ev.ret _)))
theorem heldD_ev (n m o : Nat) (h0 : n ≤ 1073741824) (h1 : m ≤ 1073741824) (h2 : o ≤ 1073741824) :
    Ev (fun k => f30 k (mkF 1 n) (mkF (1 + 2 * n) m) (mkO (1 + 2 * n + 2 * m) o) 1) (1 + 2 * (n : Int) + 2 * m + 4 * o) := by
  unfold f30
  exact Ev.bind (heldF_ev n 1 (by omega) (by omega) h0) (Ev.neg (by omega) (Ev.bind (heldF_ev m _ (by omega) (by omega) h1) (Ev.neg (by omega) (Ev.bind (heldO_ev o _ (by omega) (by omega) h2) (Ev.neg (by omega) (Ev.ret _))))))
theorem crash_len (live safe : List S80) (ops : List S73) (keep : List Int) (torn : Int) : (crashR live safe ops keep torn).2.1.length ≤ 60 ∧ (crashR live safe ops keep torn).2.2.1.length ≤ 60 ∧ (crashR live safe ops keep torn).2.2.2.length ≤ 60 := by
  have hn : noC.2.1.length ≤ 60 ∧ noC.2.2.1.length ≤ 60 ∧ noC.2.2.2.length ≤ 60 := ⟨Nat.zero_le _, Nat.zero_le _, Nat.zero_le _⟩
  unfold crashR
  split
  · split
    · exact hn
    · split
      · unfold finC
        split
        · rename_i h
          obtain ⟨_, h60, _⟩ := filesB_said h
          exact ⟨h60, h60, Nat.zero_le _⟩
        · exact hn
      · exact hn
  · exact hn
theorem law8_ev (l0 l1 : List S106) (l2 : List S108) (keep : List Int) (torn : Int) (o0 : okF l0) (o1 : okF l1) (o2 : okO l2) : Ev (fun k => f8 k l0 l1 l2 keep torn) true := by
  unfold f8
  by_cases hk : 1048576 < (keep.length : Int)
  · exact Ev.pos hk (Ev.ret _)
  refine Ev.neg hk ?_
  obtain ⟨r, hr, h⟩ := szDisk_ev l0 l1 l2 1048576 (by omega) (by omega) o0 o1 o2
  refine Ev.bind hr ?_
  rcases h with h | ⟨r0, _, hz⟩
  · exact Ev.pos h (Ev.ret _)
  refine Ev.neg (by omega) ?_
  have n0 := hz.n0
  have n1 := hz.n1
  have n2 := hz.n2
  have s0 : smallF (l0.map to_File) := fun x hx => by have := (hz.s0 x hx).2; omega
  have s1 : smallF (l1.map to_File) := fun x hx => by have := (hz.s1 x hx).2; omega
  have s2 : ∀ x ∈ l2.map to_DOp, x.f3.size ≤ 1048576 := fun x hx => (hz.s2 x hx).2.2
  have hs := spec_crash (l0.map to_File) (l1.map to_File) (l2.map to_DOp) keep torn s0 s1 n1 n2 (by omega) s2
  have hi := impl_crash (l0.map to_File) (l1.map to_File) (l2.map to_DOp) keep torn s0 s1 n0 n1 n2 (by omega) s2
  obtain ⟨c0, c1, c2⟩ := crash_len (l0.map to_File) (l1.map to_File) (l2.map to_DOp) keep torn
  generalize crashR (l0.map to_File) (l1.map to_File) (l2.map to_DOp) keep torn = c at *
  obtain ⟨cb, ca, cs, co⟩ := c
  simp only at c0 c1 c2
  refine Ev.bind (toDisk_ev l0 l1 l2 hz) (Ev.bind (toInts_ev keep (by omega)) (Ev.bind hs (Ev.bind hi (Ev.bind (eqDisk_ev ca cs co (by omega) (by omega) (by omega)) (Ev.pos rfl (Ev.pos (by simp) ?_))))))
  refine Ev.bind (eqDisk_ev (l0.map to_File) (l1.map to_File) (l2.map to_DOp) (by omega) (by omega) (by omega)) (Ev.pos rfl (Ev.bind (eqInts_ev keep (by omega)) (Ev.pos rfl (Ev.bind (markD_ev (l0.map to_File) (l1.map to_File) (l2.map to_DOp) (by omega) (by omega) (by omega)) ?_))))
  obtain ⟨q, hq⟩ := markI_ev keep (1 + 2 * (l0.map to_File).length + 2 * (l1.map to_File).length + 4 * (l2.map to_DOp).length) (by omega) (by omega) (by omega)
  refine Ev.bind hq (Ev.neg (by show ¬ _ < (0 : Int); omega) (Ev.bind (markD_ev ca cs co (by omega) (by omega) (by omega)) ?_))
  refine Ev.pos (by show ca.length ≤ (mkF _ _).length; rw [mkF_len]; omega) (Ev.pos (by show cs.length ≤ (mkF _ _).length; rw [mkF_len]; omega) (Ev.pos (by show co.length ≤ (mkO _ _).length; rw [mkO_len]; omega) ?_))
  have hh := heldD_ev ca.length cs.length co.length (by omega) (by omega) (by omega)
  have t0 : (mkF 1 ca.length).take ca.length = mkF 1 ca.length := List.take_of_length_le (by rw [mkF_len]; omega)
  have t1 : (mkF (1 + 2 * (ca.length : Int)) cs.length).take cs.length = mkF (1 + 2 * (ca.length : Int)) cs.length := List.take_of_length_le (by rw [mkF_len]; omega)
  have t2 : (mkO (1 + 2 * (ca.length : Int) + 2 * cs.length) co.length).take co.length = mkO (1 + 2 * (ca.length : Int) + 2 * cs.length) co.length := List.take_of_length_le (by rw [mkO_len]; omega)
  refine Ev.bind (a := 1 + 2 * (ca.length : Int) + 2 * cs.length + 4 * co.length) ?_ (Ev.neg (by omega) (Ev.pos rfl (Ev.ret _)))
  simp only [t0, t1, t2]
  exact hh
end Go.Proofs.Ytfjoamlgbegpgaa.P
