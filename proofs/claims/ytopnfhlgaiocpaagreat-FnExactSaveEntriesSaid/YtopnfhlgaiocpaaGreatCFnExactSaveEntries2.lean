/- Part of the proof of FnExactSaveEntries: no statement of its own. -/
import Derived.IntWalk
import Derived.Lib.Bytealg
import Derived.Lib.Strings
import Derived.Test.YtopnfhlgaiocpaaGreatCFnExactSaveEntries1
set_option linter.unusedVariables false
set_option linter.unusedSimpArgs false
namespace Go.Proofs.YtopnfhlgaiocpaaGreat.P
open Go Go.Proofs.YtopnfhlgaiocpaaGreat.PM Go.Proofs
theorem rdF_nat (l : List S58) (i : Nat) (h : i < l.length) : at' l (i : Int) = l[i] := at_nat l i h
theorem rdO_nat (l : List S63) (i : Nat) (h : i < l.length) : at' l (i : Int) = l[i] := at_nat l i h
theorem wr {n : Int} (h1 : -9223372036854775808 ≤ n) (h2 : n ≤ 9223372036854775807) : IntKind.i64.wrap n = n := wrap_i64 h1 h2
theorem bless_lt : ∀ (x y : List UInt8), Op.bytesLess x y = decide (x < y)
  | [], [] => by simp [Op.bytesLess]
  | [], _ :: _ => by simp [Op.bytesLess]
  | _ :: _, [] => by simp [Op.bytesLess]
  | a :: x, b :: y => by
    rw [Op.bytesLess, bless_lt x y]
    rw [Bool.eq_iff_iff]
    simp [List.cons_lt_cons_iff]
theorem bless_irrefl (x : List UInt8) : Op.bytesLess x x = false := by
  rw [bless_lt]
  exact decide_eq_false (List.lt_irrefl x)
theorem bless_trans {x y z : List UInt8} (h : Op.bytesLess x y = true) (k : Op.bytesLess y z = true) : Op.bytesLess x z = true := by
  rw [bless_lt, decide_eq_true_eq] at *
  exact List.lt_trans h k
theorem bless_asymm {x y : List UInt8} (h : Op.bytesLess x y = true) : Op.bytesLess y x = false := by
  rw [bless_lt, decide_eq_true_eq] at h
  rw [bless_lt]
  exact decide_eq_false (List.lt_asymm h)
theorem bless_tri (x y : List UInt8) : Op.bytesLess x y = true ∨ x = y ∨ Op.bytesLess y x = true := by
  rw [bless_lt, bless_lt, decide_eq_true_eq, decide_eq_true_eq]
  by_cases h : x < y
  · exact .inl h
  · rcases List.le_iff_lt_or_eq.1 (List.not_lt.1 h) with h | h
    · exact .inr (.inr h)
    · exact .inr (.inl h.symm)
theorem cmp_neg (a b : List UInt8) : Lib.compareBytes a b < 0 ↔ Op.bytesLess a b = true := by
  induction a generalizing b with
  | nil => cases b <;> simp [Lib.compareBytes, Op.bytesLess]
  | cons x a ih =>
    cases b with
    | nil => simp [Lib.compareBytes, Op.bytesLess]
    | cons y b =>
      have := ih b
      rw [Op.bytesLess, Lib.compareBytes]
      by_cases h1 : x < y
      · simp [h1]
      · by_cases h2 : x = y
        · subst h2
          simpa [h1] using this
        · have h3 : y < x := by
            rw [UInt8.lt_iff_toNat_lt] at h1 ⊢
            have : x.toNat ≠ y.toNat := fun h => h2 (UInt8.toNat_inj.1 h)
            omega
          simp [h1, h2, h3]
theorem cmp_zero (a b : List UInt8) : Lib.compareBytes a b = 0 ↔ a = b := by
  induction a generalizing b with
  | nil => cases b <;> simp [Lib.compareBytes]
  | cons x a ih =>
    cases b with
    | nil => simp [Lib.compareBytes]
    | cons y b =>
      have := ih b
      rw [Lib.compareBytes]
      by_cases h1 : x < y
      · have : x ≠ y := fun h => by subst h; exact absurd h1 (by rw [UInt8.lt_iff_toNat_lt]; omega)
        simp [h1, this]
      · by_cases h3 : y < x
        · have : x ≠ y := fun h => by subst h; exact absurd h3 (by rw [UInt8.lt_iff_toNat_lt]; omega)
          simp [h1, h3, this]
        · have h2 : x = y := by
            rw [UInt8.lt_iff_toNat_lt] at h1 h3
            exact UInt8.toNat_inj.1 (by omega)
          subst h2
          simp [h1, this]
theorem bs_toList (s : ByteArray) : s.toList = s.data.toList := ByteArray.toList_eq s
theorem bs_inj {a b : ByteArray} : a.toList = b.toList ↔ a = b := by
  constructor
  · intro h
    rw [bs_toList, bs_toList] at h
    exact ByteArray.ext (Array.toList_inj.1 h)
  · rintro rfl
    rfl
def idxP {α : Type} (p : α → Bool) (xs : List α) : Int := match xs.findIdx? p with
  | some i => (i : Int)
  | none => -1
theorem getD_mem {α : Type} (z : α) (xs : List α) (i : Int) (h0 : 0 ≤ i) (h1 : i < xs.length) : xs.getD i.toNat z ∈ xs := by
  have h : i.toNat < xs.length := by omega
  rw [List.getD_eq_getElem?_getD, List.getElem?_eq_getElem h]
  exact List.getElem_mem h
theorem idxG_hit {α : Type} (z : α) (p : α → Bool) (xs : List α) (i : Int) (h0 : 0 ≤ i) (h1 : i < xs.length) (hp : p (xs.getD i.toNat z) = true) (hn : ∀ j : Nat, j < i.toNat → p (xs.getD j z) = false) : idxP p xs = i := by
  have h : i.toNat < xs.length := by omega
  have e : xs.findIdx? p = some i.toNat := by
    rw [List.findIdx?_eq_some_iff_getElem]
    refine ⟨h, ?_, ?_⟩
    · rw [List.getD_eq_getElem?_getD, List.getElem?_eq_getElem h] at hp
      exact hp
    · intro j hj
      have := hn j hj
      rw [List.getD_eq_getElem?_getD, List.getElem?_eq_getElem (by omega)] at this
      simp at this ⊢
      exact this
  unfold idxP
  rw [e]
  show ((i.toNat : Nat) : Int) = i
  omega
theorem idxG_miss {α : Type} (z : α) (p : α → Bool) (xs : List α) (i : Int) (h1 : (xs.length : Int) ≤ i) (hn : ∀ j : Nat, j < i.toNat → p (xs.getD j z) = false) : idxP p xs = -1 := by
  have e : xs.findIdx? p = none := by
    rw [List.findIdx?_eq_none_iff]
    intro x hx
    obtain ⟨j, hj, rfl⟩ := List.getElem_of_mem hx
    have := hn j (by omega)
    rw [List.getD_eq_getElem?_getD, List.getElem?_eq_getElem hj] at this
    exact this
  unfold idxP
  rw [e]
def cntLt {α : Type} (cf : α → Int) (xs : List α) : Nat := xs.countP (fun x => decide (cf x < 0))
def hitAt {α : Type} (z : α) (cf : α → Int) (xs : List α) : Bool := decide (cntLt cf xs < xs.length) && decide (cf (xs.getD (cntLt cf xs) z) = 0)
theorem countP_bound {α : Type} (p : α → Bool) (z : α) (l : List α) (i : Nat) (hi : i ≤ l.length) (h1 : ∀ t, t < i → p (l.getD t z) = true) (h2 : ∀ t, i ≤ t → t < l.length → p (l.getD t z) = false) : l.countP p = i := by
  conv => lhs; rw [← List.take_append_drop i l]
  rw [List.countP_append]
  have e1 : (l.take i).countP p = i := by
    rw [List.countP_eq_length.2]
    · rw [List.length_take]; omega
    · intro a ha
      obtain ⟨t, ht, rfl⟩ := List.getElem_of_mem ha
      rw [List.length_take] at ht
      have := h1 t (by omega)
      rw [List.getD_eq_getElem?_getD, List.getElem?_eq_getElem (by omega)] at this
      rw [List.getElem_take]
      exact this
  have e2 : (l.drop i).countP p = 0 := by
    rw [List.countP_eq_zero]
    intro a ha
    obtain ⟨t, ht, rfl⟩ := List.getElem_of_mem ha
    rw [List.length_drop] at ht
    have := h2 (i + t) (by omega) (by omega)
    rw [List.getD_eq_getElem?_getD, List.getElem?_eq_getElem (by omega)] at this
    rw [List.getElem_drop]
    simpa using this
  omega
def nameIs (n : ByteArray) (x : S58) : Bool := x.f0.toList == n.toList
def nameCmp (n : ByteArray) (x : S58) : Int := Lib.compareBytes x.f0.data.toList n.data.toList
def risesF (l : List S58) : Prop := l.Pairwise (fun a b => Op.bytesLess a.f0.toList b.f0.toList = true)
instance (l : List S58) : Decidable (risesF l) := by unfold risesF; infer_instance
def putF (l : List S58) (n d : ByteArray) : List S58 :=
  if hitAt (default : S58) (nameCmp n) l = true then l.set (cntLt (nameCmp n) l) ⟨n, d⟩ else l.take (cntLt (nameCmp n) l) ++ (⟨n, d⟩ :: l.drop (cntLt (nameCmp n) l))
theorem risesF_mono {l : List S58} (h : risesF l) (n : ByteArray) (a b : Nat) (hab : a ≤ b) (hb : b < l.length) (hlt : nameCmp n (l.getD b (default : S58)) < 0) : nameCmp n (l.getD a (default : S58)) < 0 := by
  by_cases he : a = b
  · rw [he]; exact hlt
  · have ha : a < l.length := by omega
    have hp := List.pairwise_iff_getElem.1 h a b ha hb (by omega)
    unfold nameCmp at hlt ⊢
    rw [cmp_neg] at hlt ⊢
    rw [List.getD_eq_getElem?_getD, List.getElem?_eq_getElem hb] at hlt
    rw [List.getD_eq_getElem?_getD, List.getElem?_eq_getElem ha]
    rw [bs_toList, bs_toList] at hp
    exact bless_trans hp hlt
theorem cntLt_le {α : Type} (cf : α → Int) (l : List α) : cntLt cf l ≤ l.length := List.countP_le_length
def onF (l : List S58) (k : Int) (n t d : ByteArray) : List S58 × Bool :=
  if k = 1 then (putF l n (if 0 ≤ idxP (nameIs n) l then (at' l (idxP (nameIs n) l)).f1 ++ d else d), true)
  else if 0 ≤ idxP (nameIs n) l then
    if k = 3 then (l.take (idxP (nameIs n) l).toNat ++ l.drop ((idxP (nameIs n) l).toNat + 1), true)
    else (putF (l.take (idxP (nameIs n) l).toNat ++ l.drop ((idxP (nameIs n) l).toNat + 1)) t (at' l (idxP (nameIs n) l)).f1, true)
  else (l, false)
theorem idxP_lt {α : Type} (p : α → Bool) (l : List α) : idxP p l < (l.length : Int) := by
  unfold idxP
  cases h : l.findIdx? p with
  | none => simp <;> omega
  | some i =>
    rw [List.findIdx?_eq_some_iff_getElem] at h
    obtain ⟨hi, _⟩ := h
    simpa using hi
theorem idxP_ge {α : Type} (p : α → Bool) (l : List α) : -1 ≤ idxP p l := by
  unfold idxP
  cases h : l.findIdx? p with
  | none => simp
  | some i => simp <;> omega
theorem idxP_at {α : Type} (p : α → Bool) (z : α) (l : List α) (h : 0 ≤ idxP p l) : p (l.getD (idxP p l).toNat z) = true := by
  unfold idxP at h ⊢
  cases hf : l.findIdx? p with
  | none => rw [hf] at h; simp at h
  | some i =>
    rw [List.findIdx?_eq_some_iff_getElem] at hf
    obtain ⟨hi, hp, _⟩ := hf
    simp only [Int.toNat_natCast]
    rw [List.getD_eq_getElem?_getD, List.getElem?_eq_getElem hi]
    exact hp
theorem risesF_cut {l : List S58} (h : risesF l) (i : Nat) : risesF (l.take i ++ l.drop (i + 1)) := by
  refine List.Pairwise.sublist ?_ h
  conv => rhs; rw [← List.take_append_drop i l]
  refine List.Sublist.append (List.Sublist.refl _) ?_
  rw [← List.drop_drop]
  exact List.drop_sublist _ _
def nameB (n : ByteArray) : Bool := decide (1 ≤ n.size) && decide (n.size ≤ 100)
def upB : Option ByteArray → ByteArray → Bool
  | none, _ => true
  | some q, n => Op.bytesLess q.toList n.toList
def namesB (p : Option ByteArray) : List S58 → Bool
  | [] => true
  | x :: r => nameB x.f0 && (upB p x.f0 && namesB (some x.f0) r)
def sumF (l : List S58) : Nat := (l.map (fun x => x.f1.size)).sum
def filesB (l : List S58) : Bool := namesB none l && (decide (sumF l ≤ 200000) && decide (l.length ≤ 60))
def smallF (l : List S58) : Prop := ∀ x ∈ l, x.f1.size ≤ 1099511627776
def prevF (l : List S58) (i : Nat) : Option ByteArray := if i = 0 then none else some (at' l ((i - 1 : Nat) : Int)).f0
theorem prevF_succ (l : List S58) (i : Nat) (h : i < l.length) : prevF l (i + 1) = some l[i].f0 := by
  unfold prevF
  rw [if_neg (by omega), Nat.add_sub_cancel, rdF_nat l i h]
theorem namesB_step (l : List S58) (i : Nat) (h : i < l.length) : namesB (prevF l i) (l.drop i) = (nameB l[i].f0 && ((if i = 0 then true else Op.bytesLess (at' l ((i - 1 : Nat) : Int)).f0.toList l[i].f0.toList) && namesB (prevF l (i + 1)) (l.drop (i + 1)))) := by
  rw [List.drop_eq_getElem_cons h, namesB, prevF_succ l i h]
  unfold prevF
  by_cases hi : i = 0
  · rw [if_pos hi, if_pos hi]
    rfl
  · rw [if_neg hi, if_neg hi]
    rfl
theorem sumF_step (l : List S58) (i : Nat) (h : i < l.length) : sumF (l.drop i) = l[i].f1.size + sumF (l.drop (i + 1)) := by
  rw [List.drop_eq_getElem_cons h]
  unfold sumF
  rw [List.map_cons, List.sum_cons]
theorem sumF_end (l : List S58) (i : Nat) (h : l.length ≤ i) : sumF (l.drop i) = 0 := by
  rw [List.drop_of_length_le h]
  rfl
theorem namesB_end (l : List S58) (i : Nat) (h : l.length ≤ i) : namesB (prevF l i) (l.drop i) = true := by
  rw [List.drop_of_length_le h]
  rfl
theorem namesB_rise : ∀ (l : List S58) (p : Option ByteArray), namesB p l = true → risesF l ∧ ∀ q, p = some q → ∀ x ∈ l, Op.bytesLess q.toList x.f0.toList = true
  | [], p, _ => ⟨List.Pairwise.nil, fun _ _ x hx => by cases hx⟩
  | x :: r, p, h => by
    rw [namesB, Bool.and_eq_true, Bool.and_eq_true] at h
    obtain ⟨_, h1, h2⟩ := h
    obtain ⟨i1, i2⟩ := namesB_rise r _ h2
    refine ⟨List.Pairwise.cons (fun y hy => i2 _ rfl y hy) i1, ?_⟩
    rintro q rfl y hy
    rcases List.mem_cons.1 hy with rfl | hy
    · exact h1
    · exact bless_trans h1 (i2 _ rfl y hy)
theorem mem_sumF (l : List S58) (x : S58) (hx : x ∈ l) : x.f1.size ≤ sumF l := by
  induction l with
  | nil => cases hx
  | cons y r ih =>
    unfold sumF at ih ⊢
    rw [List.map_cons, List.sum_cons]
    rcases List.mem_cons.1 hx with rfl | hx
    · omega
    · have := ih hx
      omega
theorem filesB_said {l : List S58} (h : filesB l = true) : risesF l ∧ l.length ≤ 60 ∧ ∀ x ∈ l, x.f1.size ≤ 200000 := by
  unfold filesB at h
  rw [Bool.and_eq_true, Bool.and_eq_true, decide_eq_true_eq, decide_eq_true_eq] at h
  exact ⟨(namesB_rise l none h.1).1, h.2.2, fun x hx => by have := mem_sumF l x hx; omega⟩
def eqF (a b : S58) : Bool := (a.f0.toList == b.f0.toList) && (a.f1.toList == b.f1.toList)
def sameF : List S58 → List S58 → Bool
  | [], [] => true
  | a :: l, b :: m => eqF a b && sameF l m
  | _, _ => false
theorem sameF_len : ∀ (l m : List S58), l.length ≠ m.length → sameF l m = false
  | [], [], h => absurd rfl h
  | [], _ :: _, _ => rfl
  | _ :: _, [], _ => rfl
  | a :: l, b :: m, h => by rw [sameF, sameF_len l m (by simpa using h), Bool.and_false]
theorem sameF_step (l m : List S58) (i : Nat) (h : i < l.length) (h' : i < m.length) : sameF (l.drop i) (m.drop i) = (eqF l[i] m[i] && sameF (l.drop (i + 1)) (m.drop (i + 1))) := by
  rw [List.drop_eq_getElem_cons h, List.drop_eq_getElem_cons h', sameF]
def emptyB (s : ByteArray) : Bool := s.toList == ([] : List UInt8)
def formB (k : Int) (n t d : ByteArray) : Bool :=
  if k = 1 then nameB n && emptyB t else if k = 2 then nameB n && (nameB t && emptyB d) else if k = 3 then nameB n && (emptyB t && emptyB d) else false
def putS (n d : ByteArray) : Bool → List S58 → List S58
  | done, [] => if done then [] else [⟨n, d⟩]
  | done, x :: r => (if !done && !(Op.bytesLess x.f0.toList n.toList) then [⟨n, d⟩] else []) ++ ((if nameIs n x then [] else [x]) ++ putS n d (done || !(Op.bytesLess x.f0.toList n.toList)) r)
def runB (live : List S58) : List S58 → List S63 → Bool
  | now, [] => sameF now live
  | now, op :: r => formB op.f0 op.f1 op.f2 op.f3 && ((onF now op.f0 op.f1 op.f2 op.f3).2 && (filesB (onF now op.f0 op.f1 op.f2 op.f3).1 && runB live (onF now op.f0 op.f1 op.f2 op.f3).1 r))
def diskB (live safe : List S58) (ops : List S63) : Bool := filesB live && (filesB safe && (decide (ops.length ≤ 200) && runB live safe ops))
theorem onF_small {now : List S58} (hn : ∀ x ∈ now, x.f1.size ≤ 200000) (k : Int) (n t d : ByteArray) (hd : d.size ≤ 1099511627776) : (onF now k n t d).2 = true → ∀ x ∈ (onF now k n t d).1, x.f1.size ≤ 1099512000000 := by
  have hput : ∀ (l : List S58) (m e : ByteArray), (∀ x ∈ l, x.f1.size ≤ 200000) → e.size ≤ 1099512000000 → ∀ x ∈ putF l m e, x.f1.size ≤ 1099512000000 := by
    intro l m e hl he x hx
    unfold putF at hx
    split at hx
    · rcases List.mem_or_eq_of_mem_set hx with hx | rfl
      · have := hl x hx; omega
      · exact he
    · rcases List.mem_append.1 hx with hx | hx
      · have := hl x (List.mem_of_mem_take hx); omega
      · rcases List.mem_cons.1 hx with rfl | hx
        · exact he
        · have := hl x (List.mem_of_mem_drop hx); omega
  have hcut : ∀ x ∈ now.take (idxP (nameIs n) now).toNat ++ now.drop ((idxP (nameIs n) now).toNat + 1), x.f1.size ≤ 200000 := by
    intro x hx
    rcases List.mem_append.1 hx with hx | hx
    · exact hn x (List.mem_of_mem_take hx)
    · exact hn x (List.mem_of_mem_drop hx)
  have hat : 0 ≤ idxP (nameIs n) now → (at' now (idxP (nameIs n) now)).f1.size ≤ 200000 := fun h => hn _ (getD_mem (default : S58) now _ h (idxP_lt _ _))
  unfold onF
  split
  · intro _
    refine hput now n _ hn ?_
    split
    · rw [ByteArray.size_append]
      have := hat (by assumption)
      omega
    · omega
  · split
    · split
      · intro _ x hx
        have := hcut x hx
        omega
      · intro _
        refine hput _ t _ hcut ?_
        have := hat (by assumption)
        omega
    · intro h
      cases h
theorem putS_true (n d : ByteArray) : ∀ l : List S58, putS n d true l = l.filter (fun x => !nameIs n x)
  | [] => rfl
  | x :: r => by
    rw [putS, List.filter_cons, Bool.true_or, putS_true n d r]
    cases nameIs n x <;> simp
theorem nameIs_iff (n : ByteArray) (x : S58) : nameIs n x = true ↔ x.f0 = n := by
  unfold nameIs
  rw [beq_iff_eq, bs_inj]
theorem nameCmp_neg (n : ByteArray) (x : S58) : nameCmp n x < 0 ↔ Op.bytesLess x.f0.toList n.toList = true := by
  unfold nameCmp
  rw [cmp_neg, bs_toList, bs_toList]
theorem nameCmp_zero (n : ByteArray) (x : S58) : nameCmp n x = 0 ↔ x.f0 = n := by
  unfold nameCmp
  rw [cmp_zero, ← bs_toList, ← bs_toList, bs_inj]
theorem cntLt_none {l : List S58} (n : ByteArray) (h : ∀ y ∈ l, Op.bytesLess y.f0.toList n.toList = false) : cntLt (nameCmp n) l = 0 := by
  unfold cntLt
  rw [List.countP_eq_zero]
  intro y hy
  have := h y hy
  simp only [decide_eq_true_eq, nameCmp_neg, this]
  simp
theorem filter_above {l : List S58} (n : ByteArray) (h : ∀ y ∈ l, Op.bytesLess n.toList y.f0.toList = true) : l.filter (fun x => !nameIs n x) = l := by
  rw [List.filter_eq_self]
  intro y hy
  have := h y hy
  rw [Bool.not_eq_true', Bool.eq_false_iff]
  intro he
  rw [nameIs_iff] at he
  rw [he, bless_irrefl] at this
  cases this
theorem putS_putF (n d : ByteArray) : ∀ l : List S58, risesF l → putS n d false l = putF l n d
  | [], _ => by
    unfold putF cntLt hitAt
    simp [putS]
  | x :: r, h => by
    have hr : risesF r := (List.pairwise_cons.1 h).2
    have hx := (List.pairwise_cons.1 h).1
    rw [putS]
    cases hl : Op.bytesLess x.f0.toList n.toList with
    | true =>
      have hni : nameIs n x = false := by
        rw [Bool.eq_false_iff]
        intro he
        rw [nameIs_iff] at he
        rw [he, bless_irrefl] at hl
        cases hl
      have hc : cntLt (nameCmp n) (x :: r) = cntLt (nameCmp n) r + 1 := by
        unfold cntLt
        exact List.countP_cons_of_pos (p := fun y => decide (nameCmp n y < 0)) (decide_eq_true ((nameCmp_neg n x).2 hl))
      have hh : hitAt (default : S58) (nameCmp n) (x :: r) = hitAt (default : S58) (nameCmp n) r := by
        unfold hitAt
        rw [hc, List.getD_cons_succ, List.length_cons]
        congr 1
        exact decide_eq_decide.2 (by omega)
      rw [hni, show (false || !true) = false from rfl, putS_putF n d r hr]
      unfold putF
      rw [hh, hc]
      cases hitAt (default : S58) (nameCmp n) r <;> simp
    | false =>
      have hnone : ∀ y ∈ r, Op.bytesLess y.f0.toList n.toList = false := by
        intro y hy
        rw [Bool.eq_false_iff]
        intro hlt
        have := bless_trans (hx y hy) hlt
        rw [hl] at this
        cases this
      have hc : cntLt (nameCmp n) (x :: r) = 0 := cntLt_none n (fun y hy => by
        rcases List.mem_cons.1 hy with rfl | hy
        · exact hl
        · exact hnone y hy)
      have hh : hitAt (default : S58) (nameCmp n) (x :: r) = nameIs n x := by
        unfold hitAt
        rw [hc, List.getD_cons_zero, decide_eq_true (by simp), Bool.true_and, Bool.eq_iff_iff, decide_eq_true_eq, nameCmp_zero, nameIs_iff]
      have hab : ∀ y ∈ r, Op.bytesLess n.toList y.f0.toList = true := by
        intro y hy
        rcases bless_tri x.f0.toList n.toList with h1 | h1 | h1
        · rw [hl] at h1; cases h1
        · rw [← h1]; exact hx y hy
        · exact bless_trans h1 (hx y hy)
      have hput : putS n d true r = r := by rw [putS_true, filter_above n hab]
      unfold putF
      rw [hh, hc]
      simp only [Bool.not_false, Bool.false_or, Bool.true_and, if_true, hput]
      cases nameIs n x <;> simp
theorem cut_filter (n : ByteArray) (l : List S58) (h : risesF l) (h0 : 0 ≤ idxP (nameIs n) l) : l.filter (fun x => !nameIs n x) = l.take (idxP (nameIs n) l).toNat ++ l.drop ((idxP (nameIs n) l).toNat + 1) := by
  have hlt : (idxP (nameIs n) l).toNat < l.length := by
    have := idxP_lt (nameIs n) l
    omega
  have hat := idxP_at (nameIs n) (default : S58) l h0
  generalize (idxP (nameIs n) l).toNat = i at *
  rw [List.getD_eq_getElem?_getD, List.getElem?_eq_getElem hlt] at hat
  change nameIs n l[i] = true at hat
  rw [nameIs_iff] at hat
  have e : l = l.take i ++ (l[i] :: l.drop (i + 1)) := by rw [← List.drop_eq_getElem_cons hlt, List.take_append_drop]
  have hp : risesF (l.take i ++ (l[i] :: l.drop (i + 1))) := by rw [← e]; exact h
  obtain ⟨_, p2, p3⟩ := List.pairwise_append.1 hp
  have q := (List.pairwise_cons.1 p2).1
  conv => lhs; rw [e]
  rw [List.filter_append, List.filter_cons, show nameIs n l[i] = true from (nameIs_iff n _).2 hat]
  have e1 : (l.take i).filter (fun x => !nameIs n x) = l.take i := by
    rw [List.filter_eq_self]
    intro y hy
    have := p3 y hy l[i] List.mem_cons_self
    rw [Bool.not_eq_true', Bool.eq_false_iff]
    intro he
    rw [nameIs_iff] at he
    rw [he, hat, bless_irrefl] at this
    cases this
  have e2 : (l.drop (i + 1)).filter (fun x => !nameIs n x) = l.drop (i + 1) := filter_above n (fun y hy => by rw [← hat]; exact q y hy)
  rw [e1]
  simp only [Bool.not_true]
  rw [if_neg (by simp), e2]
def doS (l : List S58) (k : Int) (n t d : ByteArray) : List S58 × Bool :=
  if k = 1 then (putF l n (if 0 ≤ idxP (nameIs n) l then (at' l (idxP (nameIs n) l)).f1 ++ d else d), true)
  else if 0 ≤ idxP (nameIs n) l then
    if k = 2 then (putF (l.take (idxP (nameIs n) l).toNat ++ l.drop ((idxP (nameIs n) l).toNat + 1)) t (at' l (idxP (nameIs n) l)).f1, true)
    else (l.take (idxP (nameIs n) l).toNat ++ l.drop ((idxP (nameIs n) l).toNat + 1), true)
  else (l, false)
theorem doS_onF (l : List S58) (k : Int) (n t d : ByteArray) (h : formB k n t d = true) : doS l k n t d = onF l k n t d := by
  have hk : k = 1 ∨ k = 2 ∨ k = 3 := by
    unfold formB at h
    by_cases h1 : k = 1
    · exact .inl h1
    · by_cases h2 : k = 2
      · exact .inr (.inl h2)
      · by_cases h3 : k = 3
        · exact .inr (.inr h3)
        · rw [if_neg h1, if_neg h2, if_neg h3] at h
          cases h
  unfold doS onF
  rcases hk with rfl | rfl | rfl <;> simp
theorem doS_ok (l : List S58) (k : Int) (n t d : ByteArray) : (doS l k n t d).2 = (onF l k n t d).2 := by
  unfold doS onF
  by_cases h1 : k = 1
  · simp [h1]
  · by_cases h : 0 ≤ idxP (nameIs n) l
    · by_cases h2 : k = 2 <;> by_cases h3 : k = 3 <;> simp [h1, h, h2, h3]
    · simp [h1, h]
theorem doS_small {now : List S58} (hn : ∀ x ∈ now, x.f1.size ≤ 200000) (k : Int) (n t d : ByteArray) (hf : formB k n t d = true) (hd : d.size ≤ 1099511627776) (ho : (doS now k n t d).2 = true) : ∀ x ∈ (doS now k n t d).1, x.f1.size ≤ 1099512000000 := by
  rw [doS_onF now k n t d hf] at ho ⊢
  exact onF_small hn k n t d hd ho
end Go.Proofs.YtopnfhlgaiocpaaGreat.P
namespace Go.Proofs.YtopnfhlgaiocpaaGreat.P
open Go Go.Proofs.YtopnfhlgaiocpaaGreat.PM Go.Proofs
theorem strLt_eq (a b : ByteArray) : strLt a b = Op.bytesLess a.toList b.toList := rfl
theorem isFileName_ev (n : ByteArray) : Ev (fun k => f93 k n) (nameB n) := by
  unfold f93 nameB
  refine Ev.ite (fun h => Ev.ret' ?_) (fun h => Ev.ret' ?_)
  · rw [decide_eq_true (by omega : 1 ≤ n.size), Bool.true_and]
    exact decide_eq_decide.2 (by omega)
  · rw [decide_eq_false (by omega : ¬ 1 ≤ n.size), Bool.false_and]
theorem l4Name_ev (n : ByteArray) : Ev (fun k => f68 k n) (nameB n) := isFileName_ev n
theorem areFiles_loop (l : List S58) (hs : ∀ x ∈ l, x.f1.size ≤ 1099512000000) (hl : l.length ≤ 4611686018427387904) (d : Nat) : ∀ (i b : Nat), l.length - i = d → i ≤ l.length → b ≤ 200000 →
    Ev (fun k => f75.l3 k l (b : Int) l (l.length : Int) (i : Int)) (namesB (prevF l i) (l.drop i) && (decide (b + sumF (l.drop i) ≤ 200000) && decide (l.length ≤ 60))) := by
  induction d with
  | zero =>
    intro i b hd hi hb
    refine Ev.step (fun k => by rw [f75.l3]) (Ev.neg (by omega) (Ev.ret' ?_))
    rw [namesB_end l i (by omega), sumF_end l i (by omega), Bool.true_and, Nat.add_zero, decide_eq_true hb, Bool.true_and]
    exact decide_eq_decide.2 (by omega)
  | succ d ih =>
    intro i b hd hi hb
    have hlt : i < l.length := by omega
    have hsz := hs _ (List.getElem_mem hlt)
    refine Ev.step (fun k => by rw [f75.l3]) (Ev.pos (by omega) (Ev.pos (by omega) (Ev.pos (by omega) ?_)))
    rw [namesB_step l i hlt, sumF_step l i hlt, rdF_nat l i hlt]
    refine Ev.bind (isFileName_ev _) ?_
    cases hn : nameB l[i].f0 with
    | false => exact Ev.neg (by simp) (Ev.ret' (by simp))
    | true =>
      refine Ev.pos rfl ?_
      rw [wr (n := (b : Int) + (l[i].f1.size : Int)) (by omega) (by omega)]
      by_cases hbig : 200000 < (b : Int) + (l[i].f1.size : Int)
      · refine Ev.pos hbig (Ev.ret' ?_)
        rw [decide_eq_false (by omega : ¬ b + (l[i].f1.size + sumF (l.drop (i + 1))) ≤ 200000)]
        simp
      · refine Ev.neg hbig ?_
        have hih := ih (i + 1) (b + l[i].f1.size) (by omega) (by omega) (by omega)
        rw [show ((b + l[i].f1.size : Nat) : Int) = (b : Int) + (l[i].f1.size : Int) by omega, Nat.add_assoc] at hih
        rw [show ((i + 1 : Nat) : Int) = IntKind.i64.wrap ((i : Int) + 1) by rw [wr (by omega) (by omega)]; omega] at hih
        by_cases h0 : (0 : Int) < (i : Int)
        · refine Ev.pos h0 ?_
          have e1 : IntKind.i64.wrap ((i : Int) - 1) = ((i - 1 : Nat) : Int) := by rw [wr (by omega) (by omega)]; omega
          rw [e1, if_neg (by omega)]
          refine Ev.pos (by omega) (Ev.pos (by omega) ?_)
          rw [strLt_eq]
          cases hc : Op.bytesLess (at' l ((i - 1 : Nat) : Int)).f0.toList l[i].f0.toList with
          | true => exact Ev.pos rfl (Ev.eq hih (by simp))
          | false => exact Ev.neg (by simp) (Ev.ret' (by simp))
        · refine Ev.neg h0 ?_
          rw [if_pos (by omega)]
          exact Ev.eq hih (by simp)
theorem areFiles_ev (l : List S58) (hs : ∀ x ∈ l, x.f1.size ≤ 1099512000000) (hl : l.length ≤ 4611686018427387904) : Ev (fun k => f75 k l) (filesB l) := by
  have := areFiles_loop l hs hl _ 0 0 rfl (Nat.zero_le _) (by omega)
  rw [Nat.zero_add] at this
  exact this
theorem l4Files_loop (l : List S58) (hs : ∀ x ∈ l, x.f1.size ≤ 1099512000000) (hl : l.length ≤ 60) (d : Nat) : ∀ (i b : Nat), l.length - i = d → i ≤ l.length → b ≤ i * 1099512000000 →
    Ev (fun k => f42.l5 k l (b : Int) (i : Int)) (namesB (prevF l i) (l.drop i) && decide (b + sumF (l.drop i) ≤ 200000)) := by
  induction d with
  | zero =>
    intro i b hd hi hb
    refine Ev.step (fun k => by rw [f42.l5]) (Ev.neg (by omega) (Ev.ret' ?_))
    rw [namesB_end l i (by omega), sumF_end l i (by omega), Bool.true_and, Nat.add_zero]
    exact decide_eq_decide.2 (by omega)
  | succ d ih =>
    intro i b hd hi hb
    have hlt : i < l.length := by omega
    have hsz := hs _ (List.getElem_mem hlt)
    refine Ev.step (fun k => by rw [f42.l5]) (Ev.pos (by omega) (Ev.pos (by omega) ?_))
    rw [namesB_step l i hlt, sumF_step l i hlt, rdF_nat l i hlt]
    refine Ev.bind (l4Name_ev _) ?_
    cases hn : nameB l[i].f0 with
    | false => exact Ev.neg (by simp) (Ev.ret' (by simp))
    | true =>
      refine Ev.pos rfl ?_
      rw [wr (n := (b : Int) + (l[i].f1.size : Int)) (by omega) (by omega)]
      have hih := ih (i + 1) (b + l[i].f1.size) (by omega) (by omega) (by omega)
      rw [show ((b + l[i].f1.size : Nat) : Int) = (b : Int) + (l[i].f1.size : Int) by omega, Nat.add_assoc] at hih
      rw [show ((i + 1 : Nat) : Int) = IntKind.i64.wrap ((i : Int) + 1) by rw [wr (by omega) (by omega)]; omega] at hih
      by_cases h0 : (0 : Int) < (i : Int)
      · refine Ev.pos h0 ?_
        have e1 : IntKind.i64.wrap ((i : Int) - 1) = ((i - 1 : Nat) : Int) := by rw [wr (by omega) (by omega)]; omega
        rw [e1, if_neg (by omega)]
        refine Ev.pos (by omega) (Ev.pos (by omega) ?_)
        have hor : (strLt l[i].f0 (at' l ((i - 1 : Nat) : Int)).f0 || strEq l[i].f0 (at' l ((i - 1 : Nat) : Int)).f0) = !(Op.bytesLess (at' l ((i - 1 : Nat) : Int)).f0.toList l[i].f0.toList) := by
          generalize (at' l ((i - 1 : Nat) : Int)).f0 = p
          generalize l[i].f0 = q
          rw [strLt_eq]
          rcases bless_tri p.toList q.toList with h | h | h
          · rw [h, bless_asymm h]
            have : strEq q p = false := by
              rw [Bool.eq_false_iff]; intro e
              rw [(strEq_iff _ _).1 e, bless_irrefl] at h; cases h
            rw [this]; rfl
          · rw [bs_inj] at h; subst h
            rw [bless_irrefl, strEq_self]; rfl
          · rw [h, bless_asymm h]; rfl
        rw [hor]
        cases hc : Op.bytesLess (at' l ((i - 1 : Nat) : Int)).f0.toList l[i].f0.toList with
        | true => exact Ev.neg (by simp) (Ev.eq hih (by simp))
        | false => exact Ev.pos rfl (Ev.ret' (by simp))
      · refine Ev.neg h0 ?_
        rw [if_pos (by omega)]
        exact Ev.eq hih (by simp)
theorem l4Files_ev (l : List S58) (hs : ∀ x ∈ l, x.f1.size ≤ 1099512000000) : Ev (fun k => f42 k l) (filesB l) := by
  unfold f42 filesB
  by_cases h : 60 < (l.length : Int)
  · refine Ev.pos h (Ev.ret' ?_)
    rw [decide_eq_false (by omega : ¬ l.length ≤ 60)]
    simp
  · refine Ev.neg h ?_
    have := l4Files_loop l hs (by omega) _ 0 0 rfl (Nat.zero_le _) (by omega)
    rw [Nat.zero_add] at this
    exact Ev.eq this (by rw [decide_eq_true (by omega : l.length ≤ 60), Bool.and_true]; rfl)
theorem eqF_eq (a b : S58) : (strEq a.f0 b.f0 && strEq a.f1 b.f1) = eqF a b := rfl
theorem equal_loop (l m : List S58) (hm : l.length = m.length) (hl : l.length ≤ 4611686018427387904) (d : Nat) : ∀ i : Nat, l.length - i = d → i ≤ l.length → Ev (fun k => f78.l4 k l m (l.length : Int) (i : Int)) (sameF (l.drop i) (m.drop i)) := by
  induction d with
  | zero =>
    intro i hd hi
    refine Ev.step (fun k => by rw [f78.l4]) (Ev.neg (by omega) (Ev.ret' ?_))
    rw [List.drop_of_length_le (by omega), List.drop_of_length_le (by omega), sameF]
  | succ d ih =>
    intro i hd hi
    have h1 : i < l.length := by omega
    have h2 : i < m.length := by omega
    refine Ev.step (fun k => by rw [f78.l4]) (Ev.pos (by omega) (Ev.pos (by omega) (Ev.pos (by omega) (Ev.pos (by omega) ?_))))
    have hn := ih (i + 1) (by omega) (by omega)
    rw [show ((i + 1 : Nat) : Int) = IntKind.i64.wrap ((i : Int) + 1) by rw [wr (by omega) (by omega)]; omega] at hn
    rw [rdF_nat l i h1, rdF_nat m i h2, eqF_eq, sameF_step l m i h1 h2]
    cases he : eqF l[i] m[i] with
    | false => exact Ev.neg (by simp) (Ev.ret' (by simp))
    | true => exact Ev.pos rfl (Ev.eq hn (by simp))
theorem equal_ev (l m : List S58) (hl : l.length ≤ 4611686018427387904) : Ev (fun k => f78 k l m) (sameF l m) := by
  unfold f78
  by_cases h : l.length = m.length
  · exact Ev.pos (by omega) (equal_loop l m h hl _ 0 rfl (Nat.zero_le _))
  · exact Ev.neg (by omega) (Ev.ret' (sameF_len l m h).symm)
theorem l4Same_loop (l m : List S58) (hm : l.length = m.length) (hl : l.length ≤ 4611686018427387904) (d : Nat) : ∀ i : Nat, l.length - i = d → i ≤ l.length → Ev (fun k => f45.l4 k l m (i : Int)) (sameF (l.drop i) (m.drop i)) := by
  induction d with
  | zero =>
    intro i hd hi
    refine Ev.step (fun k => by rw [f45.l4]) (Ev.neg (by omega) (Ev.ret' ?_))
    rw [List.drop_of_length_le (by omega), List.drop_of_length_le (by omega), sameF]
  | succ d ih =>
    intro i hd hi
    have h1 : i < l.length := by omega
    have h2 : i < m.length := by omega
    refine Ev.step (fun k => by rw [f45.l4]) (Ev.pos (by omega) (Ev.pos (by omega) (Ev.pos (by omega) ?_)))
    have hn := ih (i + 1) (by omega) (by omega)
    rw [show ((i + 1 : Nat) : Int) = IntKind.i64.wrap ((i : Int) + 1) by rw [wr (by omega) (by omega)]; omega] at hn
    rw [rdF_nat l i h1, rdF_nat m i h2, eqF_eq, sameF_step l m i h1 h2]
    cases he : eqF l[i] m[i] with
    | false => exact Ev.neg (by simp) (Ev.ret' (by simp))
    | true => exact Ev.pos rfl (Ev.eq hn (by simp))
theorem l4Same_ev (l m : List S58) (hl : l.length ≤ 4611686018427387904) : Ev (fun k => f45 k l m) (sameF l m) := by
  unfold f45
  by_cases h : l.length = m.length
  · exact Ev.pos (by omega) (l4Same_loop l m h hl _ 0 rfl (Nat.zero_le _))
  · exact Ev.neg (by omega) (Ev.ret' (sameF_len l m h).symm)
theorem empty_eq (s : ByteArray) : strEq s (⟨#[]⟩ : ByteArray) = emptyB s := by
  unfold strEq emptyB
  rw [show (⟨#[]⟩ : ByteArray).toList = [] by rw [ByteArray.toList_eq]]
theorem isFormed_ev (k : Int) (n t d : ByteArray) : Ev (fun q => f76 q k n t d) (formB k n t d) := by
  unfold f76 formB
  simp only [empty_eq]
  by_cases h1 : k = 1
  · rw [if_pos h1]
    refine Ev.pos h1 (Ev.bind (isFileName_ev _) ?_)
    cases nameB n
    · exact Ev.neg (by simp) (Ev.ret' rfl)
    · exact Ev.pos rfl (Ev.ret' (by simp))
  rw [if_neg h1]
  by_cases h2 : k = 2
  · rw [if_pos h2]
    refine Ev.neg h1 (Ev.pos h2 (Ev.bind (isFileName_ev _) ?_))
    cases nameB n
    · exact Ev.neg (by simp) (Ev.ret' rfl)
    · refine Ev.pos rfl (Ev.bind (isFileName_ev _) ?_)
      cases nameB t
      · exact Ev.neg (by simp) (Ev.ret' (by simp))
      · exact Ev.pos rfl (Ev.ret' (by simp))
  rw [if_neg h2]
  by_cases h3 : k = 3
  · rw [if_pos h3]
    refine Ev.neg h1 (Ev.neg h2 (Ev.pos h3 (Ev.bind (isFileName_ev _) ?_)))
    cases nameB n
    · exact Ev.neg (by simp) (Ev.ret' rfl)
    · refine Ev.pos rfl ?_
      cases emptyB t
      · exact Ev.neg (by simp) (Ev.ret' (by simp))
      · exact Ev.pos rfl (Ev.ret' (by simp))
  · rw [if_neg h3]
    exact Ev.neg h1 (Ev.neg h2 (Ev.neg h3 (Ev.ret _)))
theorem l4Form_ev (k : Int) (n t d : ByteArray) : Ev (fun q => f44 q k n t d) (formB k n t d) := by
  unfold f44
  simp only [empty_eq]
  have hin : Ev (fun q => f20 q k 1 3) (decide (1 ≤ k) && decide (k ≤ 3)) := by
    unfold f20
    refine Ev.ite (fun h => Ev.ret' ?_) (fun h => Ev.ret' ?_)
    · rw [decide_eq_true h]; rfl
    · rw [decide_eq_false h]; rfl
  refine Ev.bind hin ?_
  by_cases hk : 1 ≤ k ∧ k ≤ 3
  · rw [decide_eq_true hk.1, decide_eq_true hk.2]
    refine Ev.pos rfl (Ev.bind (l4Name_ev _) ?_)
    unfold formB
    have h123 : k = 1 ∨ k = 2 ∨ k = 3 := by omega
    rcases h123 with rfl | rfl | rfl
    · cases nameB n
      · exact Ev.neg (by simp) (Ev.ret' (by simp))
      · refine Ev.pos rfl (Ev.neg (by omega) ?_)
        cases emptyB t
        · exact Ev.neg (by simp) (Ev.ret' (by simp))
        · exact Ev.pos rfl (Ev.pos rfl (Ev.ret' (by simp)))
    · cases nameB n
      · exact Ev.neg (by simp) (Ev.ret' (by simp))
      · refine Ev.pos rfl (Ev.pos rfl (Ev.bind (l4Name_ev _) ?_))
        cases nameB t
        · exact Ev.neg (by simp) (Ev.ret' (by simp))
        · exact Ev.pos rfl (Ev.ret' (by simp))
    · cases nameB n
      · exact Ev.neg (by simp) (Ev.ret' (by simp))
      · refine Ev.pos rfl (Ev.neg (by omega) ?_)
        cases emptyB t
        · exact Ev.neg (by simp) (Ev.ret' (by simp))
        · exact Ev.pos rfl (Ev.neg (by omega) (Ev.ret' (by simp)))
  · have hf : (decide (1 ≤ k) && decide (k ≤ 3)) = false := by
      rw [Bool.and_eq_false_iff, decide_eq_false_iff_not, decide_eq_false_iff_not]
      omega
    rw [hf]
    refine Ev.neg (by simp) (Ev.ret' ?_)
    unfold formB
    rw [if_neg (by omega), if_neg (by omega), if_neg (by omega)]
theorem l4At_loop (l : List S58) (n : ByteArray) (hl : l.length ≤ 4611686018427387904) (d : Nat) : ∀ i : Nat, l.length - i = d → i ≤ l.length → (∀ j : Nat, j < i → nameIs n (l.getD j default) = false) →
    Ev (fun k => f23.l2 k l n (i : Int)) (idxP (nameIs n) l) := by
  induction d with
  | zero =>
    intro i hd hi hn
    refine Ev.step (fun k => by rw [f23.l2]) (Ev.neg (by omega) (Ev.ret' ?_))
    rw [idxG_miss default (nameIs n) l (i : Int) (by omega) (fun j hj => hn j (by omega))]
  | succ d ih =>
    intro i hd hi hn
    have h1 : i < l.length := by omega
    refine Ev.step (fun k => by rw [f23.l2]) (Ev.pos (by omega) (Ev.pos (by omega) ?_))
    have e : at' l (i : Int) = l.getD i default := by unfold at'; rw [Int.toNat_natCast]
    have hs : strEq (at' l (i : Int)).f0 n = nameIs n (l.getD i default) := by rw [e]; rfl
    rw [hs]
    cases hc : nameIs n (l.getD i default) with
    | true =>
      refine Ev.pos rfl (Ev.ret' ?_)
      rw [idxG_hit default (nameIs n) l (i : Int) (by omega) (by omega) (by rw [Int.toNat_natCast]; exact hc) (fun j hj => hn j (by omega))]
    | false =>
      refine Ev.neg (by simp) ?_
      rw [show IntKind.i64.wrap ((i : Int) + 1) = ((i + 1 : Nat) : Int) by rw [wr (by omega) (by omega)]; omega]
      refine ih (i + 1) (by omega) (by omega) (fun j hj => ?_)
      by_cases hji : j = i
      · rw [hji]; exact hc
      · exact hn j (by omega)
theorem l4At_ev (l : List S58) (n : ByteArray) (hl : l.length ≤ 4611686018427387904) : Ev (fun k => f23 k l n) (idxP (nameIs n) l) :=
  l4At_loop l n hl _ 0 rfl (Nat.zero_le _) (fun j hj => absurd hj (Nat.not_lt_zero j))
theorem fileOf_loop (l : List S58) (n : ByteArray) (hl : l.length ≤ 4611686018427387904) (d : Nat) : ∀ i : Nat, l.length - i = d → i ≤ l.length → (∀ j : Nat, j < i → nameIs n (l.getD j default) = false) →
    Ev (fun k => f85.l2 k l (l.length : Int) (i : Int) n) (idxP (nameIs n) l, n) := by
  induction d with
  | zero =>
    intro i hd hi hn
    refine Ev.step (fun k => by rw [f85.l2]) (Ev.neg (by omega) (Ev.ret' ?_))
    rw [idxG_miss default (nameIs n) l (i : Int) (by omega) (fun j hj => hn j (by omega))]
  | succ d ih =>
    intro i hd hi hn
    have h1 : i < l.length := by omega
    refine Ev.step (fun k => by rw [f85.l2]) (Ev.pos (by omega) (Ev.pos (by omega) (Ev.pos (by omega) ?_)))
    have e : at' l (i : Int) = l.getD i default := by unfold at'; rw [Int.toNat_natCast]
    have hs : strEq (at' l (i : Int)).f0 n = nameIs n (l.getD i default) := by rw [e]; rfl
    refine Ev.bind (a := nameIs n (l.getD i default)) (by unfold f86; exact Ev.ret' hs) ?_
    cases hc : nameIs n (l.getD i default) with
    | true =>
      refine Ev.pos rfl (Ev.ret' ?_)
      rw [idxG_hit default (nameIs n) l (i : Int) (by omega) (by omega) (by rw [Int.toNat_natCast]; exact hc) (fun j hj => hn j (by omega))]
    | false =>
      refine Ev.neg (by simp) ?_
      rw [show IntKind.i64.wrap ((i : Int) + 1) = ((i + 1 : Nat) : Int) by rw [wr (by omega) (by omega)]; omega]
      refine ih (i + 1) (by omega) (by omega) (fun j hj => ?_)
      by_cases hji : j = i
      · rw [hji]; exact hc
      · exact hn j (by omega)
theorem fileOf_ev (l : List S58) (n : ByteArray) (hl : l.length ≤ 4611686018427387904) : Ev (fun k => f60 k l n) (idxP (nameIs n) l) := by
  unfold f60 f85
  exact Ev.bind (fileOf_loop l n hl _ 0 rfl (Nat.zero_le _) (fun j hj => absurd hj (Nat.not_lt_zero j))) (Ev.ret _)
theorem l4Cut_loop (l : List S58) (n : ByteArray) (hl : l.length ≤ 1073741824) (d : Nat) : ∀ (i : Nat) (out : List S58), l.length - i = d → i ≤ l.length → out.length ≤ i →
    Ev (fun k => f70.l3 k out l n (i : Int)) (out ++ (l.drop i).filter (fun x => !nameIs n x)) := by
  induction d with
  | zero =>
    intro i out hd hi ho
    refine Ev.step (fun k => by rw [f70.l3]) (Ev.neg (by omega) (Ev.ret' ?_))
    rw [List.drop_of_length_le (by omega)]
    simp
  | succ d ih =>
    intro i out hd hi ho
    have h1 : i < l.length := by omega
    refine Ev.step (fun k => by rw [f70.l3]) (Ev.pos (by omega) (Ev.pos (by omega) ?_))
    rw [rdF_nat l i h1, List.drop_eq_getElem_cons h1, List.filter_cons, show IntKind.i64.wrap ((i : Int) + 1) = ((i + 1 : Nat) : Int) by rw [wr (by omega) (by omega)]; omega]
    have hs : strEq l[i].f0 n = nameIs n l[i] := rfl
    rw [hs]
    cases hc : nameIs n l[i] with
    | true => exact Ev.pos rfl (ih (i + 1) out (by omega) (by omega) (by omega))
    | false =>
      refine Ev.neg (by simp) (Ev.pos (by omega) (Ev.pos (by omega) ?_))
      exact Ev.eq (ih (i + 1) (out ++ [l[i]]) (by omega) (by omega) (by simp; omega)) (by simp)
theorem l4Cut_ev (l : List S58) (n : ByteArray) (hl : l.length ≤ 1073741824) : Ev (fun k => f70 k l n) (l.filter (fun x => !nameIs n x)) :=
  l4Cut_loop l n hl _ 0 [] rfl (Nat.zero_le _) (Nat.le_refl _)
theorem l4Put_loop (l : List S58) (n dd : ByteArray) (hl : l.length ≤ 1073741824) (d : Nat) : ∀ (i : Nat) (out : List S58) (done : Bool), l.length - i = d → i ≤ l.length → out.length ≤ 2 * i →
    Ev (fun k => f69.l4 k out l n dd done (i : Int)) (out ++ putS n dd done (l.drop i)) := by
  induction d with
  | zero =>
    intro i out done hd hi ho
    refine Ev.step (fun k => by rw [f69.l4]) (Ev.neg (by omega) ?_)
    rw [List.drop_of_length_le (by omega), putS]
    cases done with
    | true => exact Ev.pos rfl (Ev.ret' (by simp))
    | false => exact Ev.neg (by simp) (Ev.pos (by omega) (Ev.pos (by omega) (Ev.ret' (by simp))))
  | succ d ih =>
    intro i out done hd hi ho
    have h1 : i < l.length := by omega
    refine Ev.step (fun k => by rw [f69.l4]) (Ev.pos (by omega) ?_)
    rw [rdF_nat l i h1, List.drop_eq_getElem_cons h1, putS, show IntKind.i64.wrap ((i : Int) + 1) = ((i + 1 : Nat) : Int) by rw [wr (by omega) (by omega)]; omega]
    have hs : strEq l[i].f0 n = nameIs n l[i] := rfl
    rw [hs, strLt_eq]
    cases done with
    | true =>
      refine Ev.pos rfl (Ev.pos (by omega) ?_)
      cases hc : nameIs n l[i] with
      | true => exact Ev.pos rfl (Ev.eq (ih (i + 1) out true (by omega) (by omega) (by omega)) (by simp))
      | false => exact Ev.neg (by simp) (Ev.pos (by omega) (Ev.pos (by omega) (Ev.eq (ih (i + 1) (out ++ [l[i]]) true (by omega) (by omega) (by simp; omega)) (by simp))))
    | false =>
      refine Ev.neg (by simp) (Ev.pos (by omega) ?_)
      cases hb : Op.bytesLess l[i].f0.toList n.toList with
      | true =>
        refine Ev.pos rfl ?_
        cases hc : nameIs n l[i] with
        | true => exact Ev.pos rfl (Ev.eq (ih (i + 1) out false (by omega) (by omega) (by omega)) (by simp))
        | false => exact Ev.neg (by simp) (Ev.pos (by omega) (Ev.pos (by omega) (Ev.eq (ih (i + 1) (out ++ [l[i]]) false (by omega) (by omega) (by simp; omega)) (by simp))))
      | false =>
        refine Ev.neg (by simp) (Ev.pos (by omega) (Ev.pos (by omega) ?_))
        cases hc : nameIs n l[i] with
        | true => exact Ev.pos rfl (Ev.eq (ih (i + 1) (out ++ [⟨n, dd⟩]) true (by omega) (by omega) (by simp; omega)) (by simp))
        | false => exact Ev.neg (by simp) (Ev.pos (by omega) (Ev.pos (by omega) (Ev.eq (ih (i + 1) (out ++ [⟨n, dd⟩] ++ [l[i]]) true (by omega) (by omega) (by simp; omega)) (by simp))))
theorem l4Put_ev (l : List S58) (n d : ByteArray) (hl : l.length ≤ 1073741824) : Ev (fun k => f69 k l n d) (putS n d false l) :=
  l4Put_loop l n d hl _ 0 [] false rfl (Nat.zero_le _) (Nat.le_refl _)
end Go.Proofs.YtopnfhlgaiocpaaGreat.P
namespace Go.Proofs.YtopnfhlgaiocpaaGreat.P
open Go Go.Proofs.YtopnfhlgaiocpaaGreat.PM Go.Proofs
theorem mid_eq (s : Nat) (h : s ≤ 4611686018427387904) : IntKind.i64.wrap (shrI .u64 (IntKind.u64.wrap (IntKind.i64.wrap (s : Int))) 1) = ((s / 2 : Nat) : Int) := by
  rw [wr (n := (s : Int)) (by omega) (by omega)]
  have hu : IntKind.u64.wrap (s : Int) = (s : Int) := IntWalk.u64_in _ ⟨by omega, by omega⟩
  rw [hu]
  have : shrI .u64 (s : Int) 1 = ((s / 2 : Nat) : Int) := by
    unfold shrI
    show Int.fdiv (s : Int) (2 ^ (min (1 : Int).toNat 64)) = _
    rw [show (2 : Int) ^ (min (1 : Int).toNat 64) = 2 from rfl, Int.fdiv_eq_ediv_of_nonneg _ (by omega)]
    omega
  rw [this, wr (by omega) (by omega)]
theorem cmp_ev (x : S58) (n : ByteArray) : Ev (fun k => f103 k x.f0 x.f1 n) (nameCmp n x) := by
  unfold f103 f104 f107
  exact Ev.bind (Ev.bind (Ev.ret _) (Ev.ret _)) (Ev.ret' rfl)
theorem at_getD (l : List S58) (i : Nat) : at' l (i : Int) = l.getD i default := by unfold at'; rw [Int.toNat_natCast]
theorem bs_loop (l : List S58) (n : ByteArray) (hr : risesF l) (hl : l.length ≤ 1073741824) (d : Nat) : ∀ lo hi : Nat, hi - lo ≤ d → lo ≤ hi → hi ≤ l.length → (∀ t, t < lo → nameCmp n (l.getD t default) < 0) → (∀ t, hi ≤ t → t < l.length → 0 ≤ nameCmp n (l.getD t default)) →
    Ev (fun k => f102.l3 k l n (l.length : Int) (lo : Int) (hi : Int)) ((cntLt (nameCmp n) l : Nat), hitAt default (nameCmp n) l) := by
  have fin : ∀ lo hi : Nat, lo = hi → hi ≤ l.length → (∀ t, t < lo → nameCmp n (l.getD t default) < 0) → (∀ t, hi ≤ t → t < l.length → 0 ≤ nameCmp n (l.getD t default)) →
      Ev (fun k => f102.l3 k l n (l.length : Int) (lo : Int) (hi : Int)) ((cntLt (nameCmp n) l : Nat), hitAt default (nameCmp n) l) := by
    rintro lo hi rfl hh h1 h2
    have hc : cntLt (nameCmp n) l = lo := countP_bound _ default l lo hh (fun t ht => decide_eq_true (h1 t ht)) (fun t h3 h4 => decide_eq_false (by have := h2 t h3 h4; omega))
    refine Ev.step (fun k => by rw [f102.l3]) (Ev.neg (by omega) ?_)
    unfold hitAt
    rw [hc]
    by_cases hlt : lo < l.length
    · refine Ev.pos (by omega) (Ev.pos (by omega) (Ev.pos (by omega) (Ev.bind (cmp_ev _ n) (Ev.ret' ?_))))
      rw [decide_eq_true hlt, Bool.true_and, at_getD]
    · refine Ev.neg (by omega) (Ev.ret' ?_)
      rw [decide_eq_false hlt, Bool.false_and]
  induction d with
  | zero => intro lo hi hd h1 h2 h3 h4; exact fin lo hi (by omega) h2 h3 h4
  | succ d ih =>
    intro lo hi hd h1 h2 h3 h4
    by_cases he : lo = hi
    · exact fin lo hi he h2 h3 h4
    · refine Ev.step (fun k => by rw [f102.l3]) (Ev.pos (by omega) ?_)
      have hm := mid_eq (lo + hi) (by omega)
      rw [show ((lo + hi : Nat) : Int) = (lo : Int) + (hi : Int) by omega] at hm
      rw [hm]
      generalize hmd : (lo + hi) / 2 = m
      have hm1 : lo ≤ m := by omega
      have hm2 : m < hi := by omega
      refine Ev.pos (by omega) (Ev.pos (by omega) (Ev.bind (cmp_ev _ n) ?_))
      rw [at_getD]
      by_cases hx : nameCmp n (l.getD m default) < 0
      · refine Ev.pos hx ?_
        rw [show IntKind.i64.wrap ((m : Int) + 1) = ((m + 1 : Nat) : Int) by rw [wr (by omega) (by omega)]; omega]
        exact ih (m + 1) hi (by omega) (by omega) h2 (fun t ht => risesF_mono hr n t m (by omega) (by omega) hx) h4
      · refine Ev.neg hx (ih lo m (by omega) hm1 (by omega) h3 (fun t h5 h6 => ?_))
        refine Int.not_lt.1 fun h => hx ?_
        exact risesF_mono hr n m t h5 h6 h
theorem bs_ev (l : List S58) (n : ByteArray) (hr : risesF l) (hl : l.length ≤ 1073741824) : Ev (fun k => f102 k l n) ((cntLt (nameCmp n) l : Nat), hitAt default (nameCmp n) l) := by
  unfold f102
  exact bs_loop l n hr hl _ 0 l.length (Nat.le_refl _) (Nat.zero_le _) (Nat.le_refl _) (fun t ht => absurd ht (Nat.not_lt_zero t)) (fun t h1 h2 => by omega)
theorem copyFiles_ev (l : List S58) (hl : l.length ≤ 1073741824) : Ev (fun k => f82 k l) l := by
  unfold f82
  exact Ev.pos (by omega) (Ev.pos (by omega) (Ev.ret _))
theorem withFile_ev (l : List S58) (n d : ByteArray) (hr : risesF l) (hl : l.length ≤ 1073741824) : Ev (fun k => f94 k l n d) (putF l n d) := by
  unfold f94
  refine Ev.bind (copyFiles_ev l hl) (Ev.bind (bs_ev l n hr hl) ?_)
  have hc : cntLt (nameCmp n) l ≤ l.length := cntLt_le _ _
  unfold putF
  cases hh : hitAt default (nameCmp n) l with
  | true =>
    have hlt : cntLt (nameCmp n) l < l.length := by
      unfold hitAt at hh
      rw [Bool.and_eq_true, decide_eq_true_eq] at hh
      exact hh.1
    exact Ev.pos rfl (Ev.pos (by show (0 : Int) ≤ ((cntLt (nameCmp n) l : Nat) : Int); omega) (Ev.pos (by show ((cntLt (nameCmp n) l : Nat) : Int) < _; omega) (Ev.ret' (by simp))))
  | false =>
    refine Ev.neg (by simp) (Ev.bind (a := l.take (cntLt (nameCmp n) l) ++ (⟨n, d⟩ :: l.drop (cntLt (nameCmp n) l))) ?_ (Ev.ret' (by simp)))
    unfold f105
    exact Ev.pos ⟨by show (0 : Int) ≤ ((cntLt (nameCmp n) l : Nat) : Int); omega, by show ((cntLt (nameCmp n) l : Nat) : Int) ≤ _; omega, rfl, by omega, by omega⟩ (Ev.ret' (by simp))
theorem cut_ev (l : List S58) (i : Int) (h0 : 0 ≤ i) (h1 : i < l.length) (hl : l.length ≤ 1073741824) : Ev (fun k => f95 k i (IntKind.i64.wrap (i + 1)) l) (l.take i.toNat ++ l.drop (i.toNat + 1)) := by
  unfold f95
  rw [wr (n := i + 1) (by omega) (by omega)]
  exact Ev.pos ⟨h0, rfl, by omega⟩ (Ev.ret _)
def onS (l : List S58) (k : Int) (n t d : ByteArray) : List S58 ⊕ List S58 := if (onF l k n t d).2 = true then .inl (onF l k n t d).1 else .inr l
theorem empty_app (d : ByteArray) : (⟨#[]⟩ : ByteArray) ++ d = d := by
  apply ByteArray.ext
  simp [ByteArray.data_append]
theorem at_name (l : List S58) (n : ByteArray) (h : 0 ≤ idxP (nameIs n) l) : (at' l (idxP (nameIs n) l)).f0 = n := by
  have := idxP_at (nameIs n) (default : S58) l h
  rw [nameIs_iff] at this
  exact this
theorem on_ev (l : List S58) (k : Int) (n t d : ByteArray) (hr : risesF l) (hl : l.length ≤ 1073741823) (hs : ∀ x ∈ l, x.f1.size ≤ 1099512000000) (hd : d.size ≤ 1099511627776) : Ev (fun q => f77 q k n t d l) (onS l k n t d) := by
  unfold f77
  refine Ev.bind (fileOf_ev l n (by omega)) ?_
  have hlt := idxP_lt (nameIs n) l
  have hge := idxP_ge (nameIs n) l
  unfold onS onF
  by_cases h1 : k = 1
  · refine Ev.pos h1 ?_
    rw [if_pos h1, if_pos rfl]
    by_cases h0 : 0 ≤ idxP (nameIs n) l
    · have hsz := hs _ (getD_mem default l _ h0 hlt)
      change (at' l (idxP (nameIs n) l)).f1.size ≤ _ at hsz
      rw [if_pos h0]
      refine Ev.pos h0 (Ev.pos hlt (Ev.pos (by omega) ?_))
      rw [at_name l n h0]
      exact Ev.bind (withFile_ev l n _ hr (by omega)) (Ev.ret _)
    · rw [if_neg h0]
      refine Ev.neg h0 (Ev.pos (by omega) ?_)
      rw [empty_app]
      exact Ev.bind (withFile_ev l n _ hr (by omega)) (Ev.ret _)
  · refine Ev.neg h1 ?_
    rw [if_neg h1]
    by_cases h0 : 0 ≤ idxP (nameIs n) l
    · rw [if_pos h0]
      refine Ev.neg (by omega) (Ev.bind (copyFiles_ev l (by omega)) (Ev.bind (cut_ev l _ h0 hlt (by omega)) ?_))
      by_cases h3 : k = 3
      · rw [if_pos h3]
        exact Ev.pos h3 (Ev.ret' (by simp))
      · rw [if_neg h3]
        refine Ev.neg h3 (Ev.pos h0 (Ev.pos hlt (Ev.bind (withFile_ev _ t _ (risesF_cut hr _) ?_) (Ev.ret' (by simp)))))
        rw [List.length_append, List.length_take, List.length_drop]; omega
    · rw [if_neg h0]
      exact Ev.pos (by omega) (Ev.ret' (by simp))
theorem putF_len (l : List S58) (n d : ByteArray) : (putF l n d).length ≤ l.length + 1 := by
  unfold putF
  split
  · rw [List.length_set]; omega
  · have := cntLt_le (nameCmp n) l
    rw [List.length_append, List.length_take, List.length_cons, List.length_drop]; omega
theorem onF_len (l : List S58) (k : Int) (n t d : ByteArray) : (onF l k n t d).1.length ≤ l.length + 1 := by
  have hc : (l.take (idxP (nameIs n) l).toNat ++ l.drop ((idxP (nameIs n) l).toNat + 1)).length ≤ l.length := by
    rw [List.length_append, List.length_take, List.length_drop]; omega
  unfold onF
  split
  · exact putF_len _ _ _
  · split
    · split
      · exact Nat.le_succ_of_le hc
      · exact Nat.le_trans (putF_len _ _ _) (by omega)
    · exact Nat.le_succ _
theorem isDisk_loop (live safe : List S58) (ops : List S63) (ho : ∀ x ∈ ops, x.f3.size ≤ 1099511627776) (hl : ops.length ≤ 200) (d : Nat) : ∀ (i : Nat) (now : List S58), ops.length - i = d → i ≤ ops.length → filesB now = true →
    Ev (fun k => f55.l5 k now ops (ops.length : Int) (i : Int) live safe ops) (runB live now (ops.drop i)) := by
  induction d with
  | zero =>
    intro i now hd hi hf
    obtain ⟨_, h60, _⟩ := filesB_said hf
    refine Ev.step (fun k => by rw [f55.l5]) (Ev.neg (by omega) (Ev.bind (equal_ev now live (by omega)) (Ev.ret' ?_)))
    rw [List.drop_of_length_le (by omega), runB]
  | succ d ih =>
    intro i now hd hi hf
    obtain ⟨hris, h60, hsz⟩ := filesB_said hf
    have h1 : i < ops.length := by omega
    refine Ev.step (fun k => by rw [f55.l5]) (Ev.pos (by omega) (Ev.pos (by omega) (Ev.pos (by omega) ?_)))
    rw [rdO_nat ops i h1, List.drop_eq_getElem_cons h1, runB]
    have hop := ho _ (List.getElem_mem h1)
    generalize ops[i] = op at *
    refine Ev.bind (isFormed_ev _ _ _ _) ?_
    cases hfm : formB op.f0 op.f1 op.f2 op.f3 with
    | false => exact Ev.neg (by simp) (Ev.ret' (by simp))
    | true =>
      refine Ev.pos rfl (Ev.bind (on_ev now op.f0 op.f1 op.f2 op.f3 hris (by omega) (fun x hx => by have := hsz x hx; omega) hop) ?_)
      unfold onS
      cases hok : (onF now op.f0 op.f1 op.f2 op.f3).2 with
      | false => exact Ev.ret' (by simp)
      | true =>
        rw [if_pos rfl]
        have hsm := onF_small hsz op.f0 op.f1 op.f2 op.f3 hop hok
        have hln : (onF now op.f0 op.f1 op.f2 op.f3).1.length ≤ 4611686018427387904 := by
          have := onF_len now op.f0 op.f1 op.f2 op.f3
          omega
        refine Ev.bind (areFiles_ev _ hsm hln) ?_
        cases hfn : filesB (onF now op.f0 op.f1 op.f2 op.f3).1 with
        | false => exact Ev.neg (by simp) (Ev.ret' (by simp))
        | true =>
          refine Ev.pos rfl ?_
          rw [show IntKind.i64.wrap ((i : Int) + 1) = ((i + 1 : Nat) : Int) by rw [wr (by omega) (by omega)]; omega]
          exact Ev.eq (ih (i + 1) _ (by omega) (by omega) hfn) (by simp)
theorem isDisk_ev (live safe : List S58) (ops : List S63) (h0 : smallF live) (h1 : smallF safe) (ho : ∀ x ∈ ops, x.f3.size ≤ 1099511627776) (l0 : live.length ≤ 1048576) (l1 : safe.length ≤ 1048576) : Ev (fun k => f55 k live safe ops) (diskB live safe ops) := by
  unfold f55 diskB
  refine Ev.bind (areFiles_ev live (fun x hx => by have := h0 x hx; omega) (by omega)) ?_
  cases hf0 : filesB live with
  | false => exact Ev.neg (by simp) (Ev.ret' (by simp))
  | true =>
    refine Ev.pos rfl (Ev.bind (areFiles_ev safe (fun x hx => by have := h1 x hx; omega) (by omega)) ?_)
    cases hf1 : filesB safe with
    | false => exact Ev.neg (by simp) (Ev.ret' (by simp))
    | true =>
      refine Ev.pos rfl ?_
      by_cases hl : 200 < (ops.length : Int)
      · exact Ev.pos hl (Ev.ret' (by rw [decide_eq_false (by omega : ¬ ops.length ≤ 200)]; simp))
      · refine Ev.neg hl (Ev.eq (isDisk_loop live safe ops ho (by omega) _ 0 safe rfl (Nat.zero_le _) hf1) ?_)
        rw [decide_eq_true (by omega : ops.length ≤ 200)]; simp
theorem l4Do_ev (l : List S58) (k : Int) (n t d : ByteArray) (hr : risesF l) (hl : l.length ≤ 1073741823) (hs : ∀ x ∈ l, x.f1.size ≤ 1099512000000) (hd : d.size ≤ 1099511627776) : Ev (fun q => f43 q l k n t d) ((doS l k n t d).2, (doS l k n t d).1) := by
  unfold f43
  refine Ev.bind (l4At_ev l n (by omega)) ?_
  unfold doS
  have hlt := idxP_lt (nameIs n) l
  by_cases h1 : k = 1
  · rw [if_pos h1]
    refine Ev.pos h1 ?_
    by_cases h0 : 0 ≤ idxP (nameIs n) l
    · rw [if_pos h0]
      have hsz := hs _ (getD_mem default l _ h0 hlt)
      change (at' l (idxP (nameIs n) l)).f1.size ≤ _ at hsz
      refine Ev.pos h0 (Ev.pos hlt (Ev.pos (by omega) (Ev.bind (l4Put_ev l n _ (by omega)) (Ev.ret' ?_))))
      rw [putS_putF n _ l hr]
    · rw [if_neg h0]
      refine Ev.neg h0 (Ev.bind (l4Put_ev l n _ (by omega)) (Ev.ret' ?_))
      rw [putS_putF n _ l hr]
  · rw [if_neg h1]
    refine Ev.neg h1 ?_
    by_cases h0 : 0 ≤ idxP (nameIs n) l
    · rw [if_pos h0]
      refine Ev.neg (by omega) (Ev.bind (l4Cut_ev l n (by omega)) ?_)
      rw [cut_filter n l hr h0]
      by_cases h2 : k = 2
      · rw [if_pos h2]
        refine Ev.pos h2 (Ev.pos h0 (Ev.pos hlt (Ev.bind (l4Put_ev _ t _ ?_) (Ev.ret' ?_))))
        · rw [List.length_append, List.length_take, List.length_drop]; omega
        · rw [putS_putF t _ _ (risesF_cut hr _)]
      · rw [if_neg h2]
        exact Ev.neg h2 (Ev.ret _)
    · rw [if_neg h0]
      exact Ev.pos (by omega) (Ev.pos (by omega) (Ev.pos (by omega) (Ev.ret _)))
theorem DiskOk_loop (live safe : List S58) (ops : List S63) (ho : ∀ x ∈ ops, x.f3.size ≤ 1099511627776) (hl : ops.length ≤ 200) (d : Nat) : ∀ (i : Nat) (now : List S58), ops.length - i = d → i ≤ ops.length → filesB now = true →
    Ev (fun k => f18.l5 k now (i : Int) live safe ops) (runB live now (ops.drop i)) := by
  induction d with
  | zero =>
    intro i now hd hi hf
    obtain ⟨_, h60, _⟩ := filesB_said hf
    refine Ev.step (fun k => by rw [f18.l5]) (Ev.neg (by omega) (Ev.bind (l4Same_ev now live (by omega)) (Ev.ret' ?_)))
    rw [List.drop_of_length_le (by omega), runB]
  | succ d ih =>
    intro i now hd hi hf
    obtain ⟨hris, h60, hsz⟩ := filesB_said hf
    have h1 : i < ops.length := by omega
    refine Ev.step (fun k => by rw [f18.l5]) (Ev.pos (by omega) (Ev.pos (by omega) ?_))
    rw [rdO_nat ops i h1, List.drop_eq_getElem_cons h1, runB]
    have hop := ho _ (List.getElem_mem h1)
    generalize ops[i] = op at *
    refine Ev.bind (l4Do_ev now op.f0 op.f1 op.f2 op.f3 hris (by omega) (fun x hx => by have := hsz x hx; omega) hop) ?_
    cases hok : (onF now op.f0 op.f1 op.f2 op.f3).2 with
    | false =>
      rw [← doS_ok] at hok
      refine Ev.neg (by rw [hok]; simp) (Ev.ret' ?_)
      simp
    | true =>
      have hok' := hok
      rw [← doS_ok] at hok'
      refine Ev.pos hok' (Ev.bind (l4Form_ev _ _ _ _) ?_)
      cases hfm : formB op.f0 op.f1 op.f2 op.f3 with
      | false => exact Ev.neg (by simp) (Ev.ret' (by simp))
      | true =>
        refine Ev.pos rfl (Ev.bind (l4Files_ev _ (doS_small hsz _ _ _ _ hfm hop hok')) ?_)
        show Ev (fun n => if filesB (doS now op.f0 op.f1 op.f2 op.f3).1 = true then f18.l5 n (doS now op.f0 op.f1 op.f2 op.f3).1 (IntKind.i64.wrap ((i : Int) + 1)) live safe ops else some false) _
        rw [doS_onF now _ _ _ _ hfm]
        cases hfn : filesB (onF now op.f0 op.f1 op.f2 op.f3).1 with
        | false => exact Ev.neg (by simp) (Ev.ret' (by simp))
        | true =>
          refine Ev.pos rfl ?_
          rw [show IntKind.i64.wrap ((i : Int) + 1) = ((i + 1 : Nat) : Int) by rw [wr (by omega) (by omega)]; omega]
          exact Ev.eq (ih (i + 1) _ (by omega) (by omega) hfn) (by simp)
theorem DiskOk_ev (live safe : List S58) (ops : List S63) (h0 : smallF live) (h1 : smallF safe) (ho : ∀ x ∈ ops, x.f3.size ≤ 1099511627776) : Ev (fun k => f18 k live safe ops) (diskB live safe ops) := by
  unfold f18 diskB
  refine Ev.bind (l4Files_ev live (fun x hx => by have := h0 x hx; omega)) ?_
  cases hf0 : filesB live with
  | false => exact Ev.neg (by simp) (Ev.ret' (by simp))
  | true =>
    refine Ev.pos rfl (Ev.bind (l4Files_ev safe (fun x hx => by have := h1 x hx; omega)) ?_)
    cases hf1 : filesB safe with
    | false => exact Ev.neg (by simp) (Ev.ret' (by simp))
    | true =>
      refine Ev.pos rfl ?_
      by_cases hl : 200 < (ops.length : Int)
      · exact Ev.pos hl (Ev.ret' (by rw [decide_eq_false (by omega : ¬ ops.length ≤ 200)]; simp))
      · refine Ev.neg hl (Ev.eq (DiskOk_loop live safe ops ho (by omega) _ 0 safe rfl (Nat.zero_le _) hf1) ?_)
        rw [decide_eq_true (by omega : ops.length ≤ 200)]; simp
end Go.Proofs.YtopnfhlgaiocpaaGreat.P
namespace Go.Proofs.YtopnfhlgaiocpaaGreat.P
open Go Go.Proofs.YtopnfhlgaiocpaaGreat.PM Go.Proofs
theorem cut_point (P : Nat → Bool) : ∀ n : Nat, (∀ a b, a ≤ b → b < n → P b = true → P a = true) → ∃ i, i ≤ n ∧ (∀ t, t < i → P t = true) ∧ ∀ t, i ≤ t → t < n → P t = false
  | 0, _ => ⟨0, Nat.le_refl _, fun t ht => absurd ht (Nat.not_lt_zero t), fun t _ ht => absurd ht (Nat.not_lt_zero t)⟩
  | n + 1, h => by
    cases hp : P n with
    | true => exact ⟨n + 1, Nat.le_refl _, fun t ht => h t n (by omega) (by omega) hp, fun t h1 h2 => by omega⟩
    | false =>
      obtain ⟨i, h1, h2, h3⟩ := cut_point P n (fun a b h1 h2 h3 => h a b h1 (by omega) h3)
      refine ⟨i, by omega, h2, fun t h4 h5 => ?_⟩
      by_cases e : t = n
      · rw [e]; exact hp
      · exact h3 t h4 (by omega)
theorem risesF_put {l : List S58} (hr : risesF l) (n d : ByteArray) : risesF (putF l n d) := by
  obtain ⟨i, h1, h2, h3⟩ := cut_point (fun t => decide (nameCmp n (l.getD t default) < 0)) l.length (fun a b hab hb hp => decide_eq_true (risesF_mono hr n a b hab hb (of_decide_eq_true hp)))
  have hc : cntLt (nameCmp n) l = i := countP_bound _ default l i h1 (fun t ht => h2 t ht) (fun t h4 h5 => h3 t h4 h5)
  have hlow : ∀ t (ht : t < l.length), t < i → Op.bytesLess l[t].f0.toList n.toList = true := fun t ht hti => by
    have := of_decide_eq_true (h2 t hti)
    rw [nameCmp_neg, List.getD_eq_getElem?_getD, List.getElem?_eq_getElem ht] at this
    exact this
  have hnot : ∀ t (ht : t < l.length), i ≤ t → Op.bytesLess l[t].f0.toList n.toList = false := fun t ht hti => by
    have := of_decide_eq_false (h3 t hti ht)
    rw [nameCmp_neg, List.getD_eq_getElem?_getD, List.getElem?_eq_getElem ht] at this
    rw [Bool.eq_false_iff]
    exact this
  unfold putF
  rw [hc]
  cases hh : hitAt default (nameCmp n) l with
  | true =>
    rw [if_pos rfl]
    unfold hitAt at hh
    rw [hc, Bool.and_eq_true, decide_eq_true_eq, decide_eq_true_eq, nameCmp_zero] at hh
    obtain ⟨hi, hn⟩ := hh
    rw [List.getD_eq_getElem?_getD, List.getElem?_eq_getElem hi] at hn
    have hn' : l[i].f0 = n := hn
    have key : ∀ t (ht : t < (l.set i ⟨n, d⟩).length), ((l.set i ⟨n, d⟩)[t]).f0 = (l[t]'(by simpa using ht)).f0 := fun t ht => by
      rw [List.getElem_set]
      split
      · rename_i e; subst e; exact hn'.symm
      · rfl
    unfold risesF
    rw [List.pairwise_iff_getElem]
    intro a b ha hb hab
    rw [key a ha, key b hb]
    exact List.pairwise_iff_getElem.1 hr a b _ _ hab
  | false =>
    rw [if_neg (by simp)]
    have hup : ∀ y ∈ l.drop i, Op.bytesLess n.toList y.f0.toList = true := fun y hy => by
      obtain ⟨t, ht, rfl⟩ := List.getElem_of_mem hy
      rw [List.length_drop] at ht
      rw [List.getElem_drop]
      have hlt : i + t < l.length := by omega
      rcases bless_tri (l[i + t]'hlt).f0.toList n.toList with h | h | h
      · rw [hnot (i + t) hlt (by omega)] at h; cases h
      · exfalso
        rw [bs_inj] at h
        by_cases h0 : t = 0
        · subst h0
          have hi : i < l.length := by omega
          unfold hitAt at hh
          rw [hc, decide_eq_true hi, Bool.true_and, decide_eq_false_iff_not, nameCmp_zero, List.getD_eq_getElem?_getD, List.getElem?_eq_getElem hi] at hh
          exact hh h
        · have hp := List.pairwise_iff_getElem.1 hr i (i + t) (by omega) hlt (by omega)
          rw [h] at hp
          have := hnot i (by omega) (Nat.le_refl _)
          rw [hp] at this; cases this
      · exact h
    have hdn : ∀ x ∈ l.take i, Op.bytesLess x.f0.toList n.toList = true := fun x hx => by
      obtain ⟨t, ht, rfl⟩ := List.getElem_of_mem hx
      rw [List.length_take] at ht
      rw [List.getElem_take]
      exact hlow t (by omega) (by omega)
    unfold risesF
    rw [List.pairwise_append]
    refine ⟨List.Pairwise.sublist (List.take_sublist _ _) hr, List.pairwise_cons.2 ⟨hup, List.Pairwise.sublist (List.drop_sublist _ _) hr⟩, fun x hx y hy => ?_⟩
    rcases List.mem_cons.1 hy with rfl | hy
    · exact hdn x hx
    · exact bless_trans (hdn x hx) (hup y hy)
theorem risesF_on {l : List S58} (hr : risesF l) (k : Int) (n t d : ByteArray) : risesF (onF l k n t d).1 := by
  unfold onF
  split
  · exact risesF_put hr _ _
  · split
    · split
      · exact risesF_cut hr _
      · exact risesF_put (risesF_cut hr _) _ _
    · exact hr
theorem put_sizes {l : List S58} {B : Nat} (hs : ∀ x ∈ l, x.f1.size ≤ B) (n d : ByteArray) (hd : d.size ≤ B) : ∀ x ∈ putF l n d, x.f1.size ≤ B := by
  intro x hx
  unfold putF at hx
  split at hx
  · rcases List.mem_or_eq_of_mem_set hx with h | rfl
    · exact hs x h
    · exact hd
  · rcases List.mem_append.1 hx with h | h
    · exact hs x (List.mem_of_mem_take h)
    · rcases List.mem_cons.1 h with rfl | h
      · exact hd
      · exact hs x (List.mem_of_mem_drop h)
theorem on_sizes {l : List S58} {B D : Nat} (hs : ∀ x ∈ l, x.f1.size ≤ B) (k : Int) (n t d : ByteArray) (hd : d.size ≤ D) : ∀ x ∈ (onF l k n t d).1, x.f1.size ≤ B + D := by
  have hb : ∀ x ∈ l, x.f1.size ≤ B + D := fun x hx => by have := hs x hx; omega
  have hlt := idxP_lt (nameIs n) l
  have hat : 0 ≤ idxP (nameIs n) l → (at' l (idxP (nameIs n) l)).f1.size ≤ B := fun h => hs _ (getD_mem default l _ h hlt)
  have hcut : ∀ x ∈ l.take (idxP (nameIs n) l).toNat ++ l.drop ((idxP (nameIs n) l).toNat + 1), x.f1.size ≤ B + D := fun x hx => by
    rcases List.mem_append.1 hx with h | h
    · exact hb x (List.mem_of_mem_take h)
    · exact hb x (List.mem_of_mem_drop h)
  unfold onF
  split
  · refine put_sizes hb _ _ ?_
    split
    · rename_i h
      rw [ByteArray.size_append]
      have := hat h
      omega
    · omega
  · split
    · rename_i h
      split
      · exact hcut
      · exact put_sizes hcut _ _ (by have := hat h; omega)
    · exact hb
def keepB (keep : List Int) (m : Nat) (i : Nat) : Bool := (decide (0 ≤ at' keep (i : Int)) && decide (at' keep (i : Int) ≤ (m : Int) - 1)) && (decide (i = 0) || decide (at' keep ((i : Int) - 1) < at' keep (i : Int)))
def cutD (torn : Int) (last : Prop) [Decidable last] (d : ByteArray) : ByteArray := if last then d.extract 0 (minI torn (d.size : Int)).toNat else d
def stepK (ops : List S63) (keep : List Int) (torn : Int) (now : List S58) (i : Nat) : List S58 :=
  (onF now (at' ops (at' keep (i : Int))).f0 (at' ops (at' keep (i : Int))).f1 (at' ops (at' keep (i : Int))).f2 (cutD torn (i + 1 = keep.length) (at' ops (at' keep (i : Int))).f3)).1
structure InvK (now : List S58) (j : Nat) : Prop where
  r : risesF now
  n : now.length ≤ 60 + j
  s : ∀ x ∈ now, x.f1.size ≤ 200000 + j * 1048576
theorem cutD_size (torn : Int) (last : Prop) [Decidable last] (d : ByteArray) : (cutD torn last d).size ≤ d.size := by
  unfold cutD
  split
  · rw [ByteArray.size_extract]; omega
  · exact Nat.le_refl _
theorem InvK.step {ops : List S63} {keep : List Int} {torn : Int} {now : List S58} {i : Nat} (h : InvK now i) (hd : (at' ops (at' keep (i : Int))).f3.size ≤ 1048576) : InvK (stepK ops keep torn now i) (i + 1) := by
  unfold stepK
  refine ⟨risesF_on h.r _ _ _ _, ?_, ?_⟩
  · have := onF_len now (at' ops (at' keep (i : Int))).f0 (at' ops (at' keep (i : Int))).f1 (at' ops (at' keep (i : Int))).f2 (cutD torn (i + 1 = keep.length) (at' ops (at' keep (i : Int))).f3)
    have := h.n
    omega
  · intro x hx
    have := on_sizes h.s _ _ _ _ (Nat.le_trans (cutD_size torn (i + 1 = keep.length) (at' ops (at' keep (i : Int))).f3) hd) x hx
    omega
theorem diskB_said {live safe : List S58} {ops : List S63} (h : diskB live safe ops = true) : filesB safe = true ∧ ops.length ≤ 200 ∧ runB live safe ops = true := by
  unfold diskB at h
  simp only [Bool.and_eq_true, decide_eq_true_eq] at h
  exact h.2
end Go.Proofs.YtopnfhlgaiocpaaGreat.P
namespace Go.Proofs.YtopnfhlgaiocpaaGreat.P
open Go Go.Proofs.YtopnfhlgaiocpaaGreat.PM Go.Proofs
def to_File (x : S75) : S58 := ⟨x.f0, x.f1⟩
def to_DOp (x : S77) : S63 := ⟨x.f0, x.f1, x.f2, x.f3⟩
theorem szFile_ev (x y : ByteArray) (a : Int) (h0 : 0 ≤ a) (h1 : a ≤ 1048576) (hx : x.size ≤ maxLen) (hy : y.size ≤ maxLen) : ∃ r, Ev (fun k => f40 k x y a) r ∧ (r < 0 ∨ (0 ≤ r ∧ r ≤ a ∧ x.size ≤ 1048576 ∧ y.size ≤ 1048576)) := by
  unfold maxLen at hx hy
  unfold f40
  rw [wr (n := a - x.size) (by omega) (by omega)]
  by_cases h2 : a - x.size < 0
  · exact ⟨-1, Ev.pos h2 (Ev.ret _), .inl (by omega)⟩
  · rw [wr (n := a - x.size - y.size) (by omega) (by omega)]
    by_cases h3 : a - x.size - y.size < 0
    · exact ⟨-1, Ev.neg h2 (Ev.pos h3 (Ev.ret _)), .inl (by omega)⟩
    · exact ⟨_, Ev.neg h2 (Ev.neg h3 (Ev.ret _)), .inr ⟨by omega, by omega, by omega, by omega⟩⟩
theorem szDOp_ev (n : Int) (x y z : ByteArray) (a : Int) (h0 : 0 ≤ a) (h1 : a ≤ 1048576) (hx : x.size ≤ maxLen) (hy : y.size ≤ maxLen) (hz : z.size ≤ maxLen) : ∃ r, Ev (fun k => f41 k n x y z a) r ∧ (r < 0 ∨ (0 ≤ r ∧ r ≤ a ∧ x.size ≤ 1048576 ∧ y.size ≤ 1048576 ∧ z.size ≤ 1048576)) := by
  unfold maxLen at hx hy hz
  unfold f41
  rw [wr (n := a - x.size) (by omega) (by omega)]
  by_cases h2 : a - x.size < 0
  · exact ⟨-1, Ev.pos h2 (Ev.ret _), .inl (by omega)⟩
  · rw [wr (n := a - x.size - y.size) (by omega) (by omega)]
    by_cases h3 : a - x.size - y.size < 0
    · exact ⟨-1, Ev.neg h2 (Ev.pos h3 (Ev.ret _)), .inl (by omega)⟩
    · rw [wr (n := a - x.size - y.size - z.size) (by omega) (by omega)]
      by_cases h4 : a - x.size - y.size - z.size < 0
      · exact ⟨-1, Ev.neg h2 (Ev.neg h3 (Ev.pos h4 (Ev.ret _))), .inl (by omega)⟩
      · exact ⟨_, Ev.neg h2 (Ev.neg h3 (Ev.neg h4 (Ev.ret _))), .inr ⟨by omega, by omega, by omega, by omega, by omega⟩⟩
theorem szFileS_loop (l : List S75) (hl : l.length ≤ 1048576) (hs : ∀ x ∈ l, x.f0.size ≤ maxLen ∧ x.f1.size ≤ maxLen) (d : Nat) : ∀ (i : Nat) (a : Int), l.length - i = d → i ≤ l.length → 0 ≤ a → a ≤ 1048576 →
    ∃ r, Ev (fun k => f15.l5 k l a (i : Int)) r ∧ (r < 0 ∨ (0 ≤ r ∧ r ≤ a ∧ ∀ x ∈ l.drop i, x.f0.size ≤ 1048576 ∧ x.f1.size ≤ 1048576)) := by
  induction d with
  | zero =>
    intro i a hd hi h0 h1
    exact ⟨a, Ev.step (fun k => by rw [f15.l5]) (Ev.neg (by omega) (Ev.ret _)), .inr ⟨h0, by omega, fun x hx => by rw [List.drop_of_length_le (by omega)] at hx; cases hx⟩⟩
  | succ d ih =>
    intro i a hd hi h0 h1
    have hlt : i < l.length := by omega
    obtain ⟨s0, s1⟩ := hs _ (List.getElem_mem hlt)
    obtain ⟨r, hr, h⟩ := szFile_ev l[i].f0 l[i].f1 a h0 h1 s0 s1
    rw [← at_nat l i hlt] at hr
    rcases h with h | ⟨r0, r1, z0, z1⟩
    · exact ⟨-1, Ev.step (fun k => by rw [f15.l5]) (Ev.pos (by omega) (Ev.pos (by omega) (Ev.bind hr (Ev.pos h (Ev.ret _))))), .inl (by omega)⟩
    · obtain ⟨q, hq, h⟩ := ih (i + 1) r (by omega) (by omega) r0 (by omega)
      rw [show ((i + 1 : Nat) : Int) = IntKind.i64.wrap ((i : Int) + 1) by rw [wr (by omega) (by omega)]; omega] at hq
      have hq' : Ev (fun k => f15.l5 k l a (i : Int)) q := by
        refine Ev.step (fun k => by rw [f15.l5]) (Ev.pos (by omega) (Ev.pos (by omega) (Ev.bind hr ?_)))
        exact Ev.neg (by omega) hq
      refine ⟨q, hq', ?_⟩
      rcases h with h | ⟨q0, q1, z⟩
      · exact .inl h
      · refine .inr ⟨q0, by omega, fun x hx => ?_⟩
        rw [List.drop_eq_getElem_cons hlt] at hx
        rcases List.mem_cons.1 hx with rfl | hx
        · exact ⟨z0, z1⟩
        · exact z x hx
theorem szFileS_ev (l : List S75) (a : Int) (h0 : 0 ≤ a) (h1 : a ≤ 1048576) (hl : l.length ≤ maxLen) (hs : ∀ x ∈ l, x.f0.size ≤ maxLen ∧ x.f1.size ≤ maxLen) : ∃ r, Ev (fun k => f15 k l a) r ∧ (r < 0 ∨ (0 ≤ r ∧ r ≤ a ∧ l.length ≤ 1048576 ∧ ∀ x ∈ l, x.f0.size ≤ 1048576 ∧ x.f1.size ≤ 1048576)) := by
  unfold maxLen at hl
  unfold f15
  rw [wr (n := a - l.length) (by omega) (by omega)]
  by_cases h2 : a - l.length < 0
  · exact ⟨-1, Ev.pos h2 (Ev.ret _), .inl (by omega)⟩
  · obtain ⟨r, hr, h⟩ := szFileS_loop l (by omega) hs _ 0 (a - l.length) rfl (Nat.zero_le _) (by omega) (by omega)
    refine ⟨r, Ev.neg h2 hr, ?_⟩
    rcases h with h | ⟨r0, r1, z⟩
    · exact .inl h
    · exact .inr ⟨r0, by omega, by omega, z⟩
theorem szDOpS_loop (l : List S77) (hl : l.length ≤ 1048576) (hs : ∀ x ∈ l, x.f1.size ≤ maxLen ∧ x.f2.size ≤ maxLen ∧ x.f3.size ≤ maxLen) (d : Nat) : ∀ (i : Nat) (a : Int), l.length - i = d → i ≤ l.length → 0 ≤ a → a ≤ 1048576 →
    ∃ r, Ev (fun k => f16.l5 k l a (i : Int)) r ∧ (r < 0 ∨ (0 ≤ r ∧ r ≤ a ∧ ∀ x ∈ l.drop i, x.f1.size ≤ 1048576 ∧ x.f2.size ≤ 1048576 ∧ x.f3.size ≤ 1048576)) := by
  induction d with
  | zero =>
    intro i a hd hi h0 h1
    exact ⟨a, Ev.step (fun k => by rw [f16.l5]) (Ev.neg (by omega) (Ev.ret _)), .inr ⟨h0, by omega, fun x hx => by rw [List.drop_of_length_le (by omega)] at hx; cases hx⟩⟩
  | succ d ih =>
    intro i a hd hi h0 h1
    have hlt : i < l.length := by omega
    obtain ⟨s0, s1, s2⟩ := hs _ (List.getElem_mem hlt)
    obtain ⟨r, hr, h⟩ := szDOp_ev l[i].f0 l[i].f1 l[i].f2 l[i].f3 a h0 h1 s0 s1 s2
    rw [← at_nat l i hlt] at hr
    rcases h with h | ⟨r0, r1, z0, z1, z2⟩
    · exact ⟨-1, Ev.step (fun k => by rw [f16.l5]) (Ev.pos (by omega) (Ev.pos (by omega) (Ev.bind hr (Ev.pos h (Ev.ret _))))), .inl (by omega)⟩
    · obtain ⟨q, hq, h⟩ := ih (i + 1) r (by omega) (by omega) r0 (by omega)
      rw [show ((i + 1 : Nat) : Int) = IntKind.i64.wrap ((i : Int) + 1) by rw [wr (by omega) (by omega)]; omega] at hq
      have hq' : Ev (fun k => f16.l5 k l a (i : Int)) q := by
        refine Ev.step (fun k => by rw [f16.l5]) (Ev.pos (by omega) (Ev.pos (by omega) (Ev.bind hr ?_)))
        exact Ev.neg (by omega) hq
      refine ⟨q, hq', ?_⟩
      rcases h with h | ⟨q0, q1, z⟩
      · exact .inl h
      · refine .inr ⟨q0, by omega, fun x hx => ?_⟩
        rw [List.drop_eq_getElem_cons hlt] at hx
        rcases List.mem_cons.1 hx with rfl | hx
        · exact ⟨z0, z1, z2⟩
        · exact z x hx
theorem szDOpS_ev (l : List S77) (a : Int) (h0 : 0 ≤ a) (h1 : a ≤ 1048576) (hl : l.length ≤ maxLen) (hs : ∀ x ∈ l, x.f1.size ≤ maxLen ∧ x.f2.size ≤ maxLen ∧ x.f3.size ≤ maxLen) : ∃ r, Ev (fun k => f16 k l a) r ∧ (r < 0 ∨ (0 ≤ r ∧ r ≤ a ∧ l.length ≤ 1048576 ∧ ∀ x ∈ l, x.f1.size ≤ 1048576 ∧ x.f2.size ≤ 1048576 ∧ x.f3.size ≤ 1048576)) := by
  unfold maxLen at hl
  unfold f16
  rw [wr (n := a - l.length) (by omega) (by omega)]
  by_cases h2 : a - l.length < 0
  · exact ⟨-1, Ev.pos h2 (Ev.ret _), .inl (by omega)⟩
  · obtain ⟨r, hr, h⟩ := szDOpS_loop l (by omega) hs _ 0 (a - l.length) rfl (Nat.zero_le _) (by omega) (by omega)
    refine ⟨r, Ev.neg h2 hr, ?_⟩
    rcases h with h | ⟨r0, r1, z⟩
    · exact .inl h
    · exact .inr ⟨r0, by omega, by omega, z⟩
structure DiskSz (live safe : List S58) (ops : List S63) : Prop where
  n0 : live.length ≤ 1048576
  n1 : safe.length ≤ 1048576
  n2 : ops.length ≤ 1048576
  s0 : ∀ x ∈ live, x.f0.size ≤ 1048576 ∧ x.f1.size ≤ 1048576
  s1 : ∀ x ∈ safe, x.f0.size ≤ 1048576 ∧ x.f1.size ≤ 1048576
  s2 : ∀ x ∈ ops, x.f1.size ≤ 1048576 ∧ x.f2.size ≤ 1048576 ∧ x.f3.size ≤ 1048576
def okF (l : List S75) : Prop := l.length ≤ maxLen ∧ ∀ x ∈ l, x.f0.size ≤ maxLen ∧ x.f1.size ≤ maxLen
def okO (l : List S77) : Prop := l.length ≤ maxLen ∧ ∀ x ∈ l, x.f1.size ≤ maxLen ∧ x.f2.size ≤ maxLen ∧ x.f3.size ≤ maxLen
theorem szDisk_ev (l0 l1 : List S75) (l2 : List S77) (a : Int) (h0 : 0 ≤ a) (h1 : a ≤ 1048576) (o0 : okF l0) (o1 : okF l1) (o2 : okO l2) :
    ∃ r, Ev (fun k => f4 k l0 l1 l2 a) r ∧ (r < 0 ∨ (0 ≤ r ∧ r ≤ a ∧ DiskSz (l0.map to_File) (l1.map to_File) (l2.map to_DOp))) := by
  unfold f4
  obtain ⟨r, hr, h⟩ := szFileS_ev l0 a h0 h1 o0.1 o0.2
  rcases h with h | ⟨r0, r1, m0, z0⟩
  · exact ⟨-1, Ev.bind hr (Ev.pos h (Ev.ret _)), .inl (by omega)⟩
  obtain ⟨q, hq, h⟩ := szFileS_ev l1 r r0 (by omega) o1.1 o1.2
  rcases h with h | ⟨q0, q1, m1, z1⟩
  · exact ⟨-1, Ev.bind hr (Ev.neg (by omega) (Ev.bind hq (Ev.pos h (Ev.ret _)))), .inl (by omega)⟩
  obtain ⟨p, hp, h⟩ := szDOpS_ev l2 q q0 (by omega) o2.1 o2.2
  rcases h with h | ⟨p0, p1, m2, z2⟩
  · exact ⟨-1, Ev.bind hr (Ev.neg (by omega) (Ev.bind hq (Ev.neg (by omega) (Ev.bind hp (Ev.pos h (Ev.ret _)))))), .inl (by omega)⟩
  refine ⟨p, Ev.bind hr (Ev.neg (by omega) (Ev.bind hq (Ev.neg (by omega) (Ev.bind hp (Ev.neg (by omega) (Ev.ret _)))))), .inr ⟨p0, by omega, by simpa using m0, by simpa using m1, by simpa using m2, ?_, ?_, ?_⟩⟩
  · intro x hx
    obtain ⟨y, hy, rfl⟩ := List.mem_map.1 hx
    exact z0 y hy
  · intro x hx
    obtain ⟨y, hy, rfl⟩ := List.mem_map.1 hx
    exact z1 y hy
  · intro x hx
    obtain ⟨y, hy, rfl⟩ := List.mem_map.1 hx
    exact z2 y hy
theorem toFileS_loop (l : List S75) (z : S58) (hl : l.length ≤ 1048576) (d : Nat) : ∀ i : Nat, l.length - i = d → i ≤ l.length → Ev (fun k => f28.l3 k ((l.map to_File).take i ++ List.replicate ((l.map to_File).length - i) z) l (i : Int)) (l.map to_File) := by
  have hm : (l.map to_File).length = l.length := List.length_map ..
  induction d with
  | zero =>
    intro i hd hi
    exact Ev.step (fun k => by rw [f28.l3]) (Ev.neg (by omega) (Ev.ret' (fill_end z _ i (by omega))))
  | succ d ih =>
    intro i hd hi
    have hlt : i < l.length := by omega
    have hq := fill_length z (l.map to_File) i (by omega)
    refine Ev.step (fun k => by rw [f28.l3]) (Ev.pos (by omega) (Ev.pos (by omega) (Ev.bind (a := (l[i].f0, l[i].f1)) (by rw [at_nat l i hlt]; unfold f53; exact Ev.ret _) ?_)))
    refine Ev.pos (by rw [hq]; omega) ?_
    have hn := ih (i + 1) (by omega) (by omega)
    rw [wr (by omega) (by omega), Int.toNat_natCast]
    have e : (⟨l[i].f0, l[i].f1⟩ : S58) = (l.map to_File)[i]'(by omega) := by rw [List.getElem_map]; rfl
    rw [show ((l[i].f0, l[i].f1).1 : ByteArray) = l[i].f0 from rfl, show ((l[i].f0, l[i].f1).2 : ByteArray) = l[i].f1 from rfl, e, fillL_step z _ i (by omega)]
    rwa [show ((i + 1 : Nat) : Int) = (i : Int) + 1 by omega] at hn
theorem toFileS_ev (l : List S75) (hl : l.length ≤ 1048576) : Ev (fun k => f28 k l) (l.map to_File) := by
  unfold f28
  refine Ev.pos (by omega) (Ev.pos (by omega) (Ev.pos (by omega) (Ev.pos (by omega) ?_)))
  have := toFileS_loop l (⟨(⟨#[]⟩ : ByteArray), (⟨#[]⟩ : ByteArray)⟩ : S58) hl _ 0 rfl (Nat.zero_le _)
  simpa using this
theorem toDOpS_loop (l : List S77) (z : S63) (hl : l.length ≤ 1048576) (d : Nat) : ∀ i : Nat, l.length - i = d → i ≤ l.length → Ev (fun k => f29.l3 k ((l.map to_DOp).take i ++ List.replicate ((l.map to_DOp).length - i) z) l (i : Int)) (l.map to_DOp) := by
  have hm : (l.map to_DOp).length = l.length := List.length_map ..
  induction d with
  | zero =>
    intro i hd hi
    exact Ev.step (fun k => by rw [f29.l3]) (Ev.neg (by omega) (Ev.ret' (fill_end z _ i (by omega))))
  | succ d ih =>
    intro i hd hi
    have hlt : i < l.length := by omega
    have hq := fill_length z (l.map to_DOp) i (by omega)
    refine Ev.step (fun k => by rw [f29.l3]) (Ev.pos (by omega) (Ev.pos (by omega) (Ev.bind (a := (l[i].f0, l[i].f1, l[i].f2, l[i].f3)) (by rw [at_nat l i hlt]; unfold f54; exact Ev.ret _) ?_)))
    refine Ev.pos (by rw [hq]; omega) ?_
    have hn := ih (i + 1) (by omega) (by omega)
    rw [wr (by omega) (by omega), Int.toNat_natCast]
    have e : (⟨l[i].f0, l[i].f1, l[i].f2, l[i].f3⟩ : S63) = (l.map to_DOp)[i]'(by omega) := by rw [List.getElem_map]; rfl
    show Ev (fun n => f29.l3 n ((((l.map to_DOp).take i ++ List.replicate ((l.map to_DOp).length - i) z)).set i (⟨l[i].f0, l[i].f1, l[i].f2, l[i].f3⟩ : S63)) l ((i : Int) + 1)) _
    rw [e, fillL_step z _ i (by omega)]
    rwa [show ((i + 1 : Nat) : Int) = (i : Int) + 1 by omega] at hn
theorem toDOpS_ev (l : List S77) (hl : l.length ≤ 1048576) : Ev (fun k => f29 k l) (l.map to_DOp) := by
  unfold f29
  refine Ev.pos (by omega) (Ev.pos (by omega) (Ev.pos (by omega) (Ev.pos (by omega) ?_)))
  have := toDOpS_loop l (⟨0, (⟨#[]⟩ : ByteArray), (⟨#[]⟩ : ByteArray), (⟨#[]⟩ : ByteArray)⟩ : S63) hl _ 0 rfl (Nat.zero_le _)
  simpa using this
theorem toDisk_ev (l0 l1 : List S75) (l2 : List S77) (h : DiskSz (l0.map to_File) (l1.map to_File) (l2.map to_DOp)) : Ev (fun k => f7 k l0 l1 l2) (l0.map to_File, l1.map to_File, l2.map to_DOp) := by
  unfold f7
  have n0 := h.n0
  have n1 := h.n1
  have n2 := h.n2
  rw [List.length_map] at n0 n1 n2
  exact Ev.bind (toFileS_ev l0 n0) (Ev.bind (toFileS_ev l1 n1) (Ev.bind (toDOpS_ev l2 n2) (Ev.ret _)))
theorem eqFileS_loop (l : List S58) (hl : l.length ≤ 1073741824) (d : Nat) : ∀ i : Nat, l.length - i = d → i ≤ l.length → Ev (fun k => f32.l4 k l l (i : Int)) true := by
  induction d with
  | zero => intro i hd hi; exact Ev.step (fun k => by rw [f32.l4]) (Ev.neg (by omega) (Ev.ret _))
  | succ d ih =>
    intro i hd hi
    have hn := ih (i + 1) (by omega) (by omega)
    rw [show ((i + 1 : Nat) : Int) = IntKind.i64.wrap ((i : Int) + 1) by rw [wr (by omega) (by omega)]; omega] at hn
    exact Ev.step (fun k => by rw [f32.l4]) (Ev.pos (by omega) (Ev.pos (by omega) (Ev.pos (by omega) (Ev.bind (a := true) (by unfold f66; exact Ev.pos (strEq_self _) (Ev.pos (strEq_self _) (Ev.ret _))) (Ev.pos rfl hn)))))
theorem eqFileS_ev (l : List S58) (hl : l.length ≤ 1073741824) : Ev (fun k => f32 k l l) true := by
  unfold f32
  exact Ev.pos rfl (eqFileS_loop l hl _ 0 rfl (Nat.zero_le _))
theorem eqDOpS_loop (l : List S63) (hl : l.length ≤ 1073741824) (d : Nat) : ∀ i : Nat, l.length - i = d → i ≤ l.length → Ev (fun k => f33.l4 k l l (i : Int)) true := by
  induction d with
  | zero => intro i hd hi; exact Ev.step (fun k => by rw [f33.l4]) (Ev.neg (by omega) (Ev.ret _))
  | succ d ih =>
    intro i hd hi
    have hn := ih (i + 1) (by omega) (by omega)
    rw [show ((i + 1 : Nat) : Int) = IntKind.i64.wrap ((i : Int) + 1) by rw [wr (by omega) (by omega)]; omega] at hn
    exact Ev.step (fun k => by rw [f33.l4]) (Ev.pos (by omega) (Ev.pos (by omega) (Ev.pos (by omega) (Ev.bind (a := true) (by unfold f67; exact Ev.pos rfl (Ev.pos (strEq_self _) (Ev.pos (strEq_self _) (Ev.pos (strEq_self _) (Ev.ret _))))) (Ev.pos rfl hn)))))
theorem eqDOpS_ev (l : List S63) (hl : l.length ≤ 1073741824) : Ev (fun k => f33 k l l) true := by
  unfold f33
  exact Ev.pos rfl (eqDOpS_loop l hl _ 0 rfl (Nat.zero_le _))
theorem eqDisk_ev (a b : List S58) (c : List S63) (h0 : a.length ≤ 1073741824) (h1 : b.length ≤ 1073741824) (h2 : c.length ≤ 1073741824) : Ev (fun k => f10 k a b c a b c) true := by
  unfold f10
  exact Ev.bind (eqFileS_ev a h0) (Ev.pos rfl (Ev.bind (eqFileS_ev b h1) (Ev.pos rfl (Ev.bind (eqDOpS_ev c h2) (Ev.pos rfl (Ev.ret _))))))
theorem markText_loop (d : Nat) : ∀ (x : Int) (s : ByteArray), 0 ≤ x → x ≤ 9223372036854775807 → x < 10 ^ d → s.size + d ≤ 1000 → ∃ t, Ev (fun k => f37.l4 k x s) t := by
  induction d with
  | zero =>
    intro x s h0 hm h1 h2
    exact ⟨_, Ev.step (fun k => by rw [f37.l4]) (Ev.neg (by omega) (Ev.pos (by omega) (Ev.ret _)))⟩
  | succ d ih =>
    intro x s h0 hm h1 h2
    by_cases hx : 0 < x
    · have e : x.tdiv 10 = x / 10 := Int.tdiv_eq_ediv_of_nonneg h0
      have hb : x / 10 < 10 ^ d := by
        have : (10 : Int) ^ (d + 1) = 10 ^ d * 10 := Int.pow_succ 10 d
        omega
      have hw : IntKind.i64.wrap (x.tdiv 10) = x / 10 := by rw [e, wr (by omega) (by omega)]
      obtain ⟨t, ht⟩ := ih (x / 10) (strOf ([(IntKind.u8.wrap (IntKind.i64.wrap (48 + (x.tmod 10))))] : List Int) ++ s) (by omega) (by omega) hb (by rw [ByteArray.size_append, show (strOf ([(IntKind.u8.wrap (IntKind.i64.wrap (48 + (x.tmod 10))))] : List Int)).size = 1 from rfl]; omega)
      refine ⟨t, Ev.step (fun k => by rw [f37.l4]) (Ev.pos hx (Ev.pos (by omega) ?_))⟩
      rw [hw]
      exact ht
    · exact ⟨_, Ev.step (fun k => by rw [f37.l4]) (Ev.neg hx (Ev.pos (by omega) (Ev.ret _)))⟩
theorem markText_any (x : Int) (h0 : 0 ≤ x) (h1 : x ≤ 9223372036854775807) : ∃ t, Ev (fun k => f37 k x) t := by
  unfold f37
  by_cases h : x ≤ 0
  · exact ⟨_, Ev.pos h (Ev.ret _)⟩
  · obtain ⟨t, ht⟩ := markText_loop 19 x (⟨#[]⟩ : ByteArray) h0 h1 (by omega) (by decide)
    exact ⟨t, Ev.neg h ht⟩
noncomputable def mt (x : Int) : ByteArray := by
  classical
  exact if h : ∃ t, Ev (fun k => f37 k x) t then h.choose else default
theorem mt_ev (x : Int) (h0 : 0 ≤ x) (h1 : x ≤ 9223372036854775807) : Ev (fun k => f37 k x) (mt x) := by
  have h := markText_any x h0 h1
  unfold mt
  rw [dif_pos h]
  exact h.choose_spec
noncomputable def mkF (a : Int) : Nat → List S58
  | 0 => []
  | n + 1 => ⟨mt a, mt (a + 1)⟩ :: mkF (a + 2) n
noncomputable def mkO (a : Int) : Nat → List S63
  | 0 => []
  | n + 1 => ⟨a, mt (a + 1), mt (a + 2), mt (a + 3)⟩ :: mkO (a + 4) n
theorem mkF_len : ∀ (n : Nat) (a : Int), (mkF a n).length = n
  | 0, _ => rfl
  | n + 1, a => by rw [mkF, List.length_cons, mkF_len n]
theorem mkO_len : ∀ (n : Nat) (a : Int), (mkO a n).length = n
  | 0, _ => rfl
  | n + 1, a => by rw [mkO, List.length_cons, mkO_len n]
theorem set_mid {α : Type} (p : List α) (x y : α) (r : List α) : (p ++ x :: r).set p.length y = p ++ y :: r := by
  rw [List.set_append_right _ _ (Nat.le_refl _), Nat.sub_self, List.set_cons_zero]
theorem markF_loop : ∀ (r p : List S58) (a : Int), 0 ≤ a → a + 2 * r.length ≤ 4611686018427387904 → p.length + r.length ≤ 1073741824 → Ev (fun k => f35.l2 k (p ++ r) a (p.length : Int)) (a + 2 * r.length, p ++ mkF a r.length)
  | [], p, a, h0, h1, h2 => by
    refine Ev.step (fun k => by rw [f35.l2]) (Ev.neg (by simp) (Ev.ret' ?_))
    simp [mkF]
  | x :: r, p, a, h0, h1, h2 => by
    rw [List.length_cons] at h1 h2
    refine Ev.step (fun k => by rw [f35.l2]) (Ev.pos (by rw [List.length_append, List.length_cons]; omega) (Ev.bind (mt_ev a h0 (by omega)) ?_))
    refine Ev.pos (by omega) ?_
    rw [wr (n := a + 1) (by omega) (by omega), wr (n := a + 1 + 1) (by omega) (by omega), wr (n := (p.length : Int) + 1) (by omega) (by omega), Int.toNat_natCast, show a + 1 + 1 = a + 2 by omega]
    refine Ev.bind (mt_ev (a + 1) (by omega) (by omega)) ?_
    rw [set_mid]
    have ih := markF_loop r (p ++ [⟨mt a, mt (a + 1)⟩]) (a + 2) (by omega) (by omega) (by rw [List.length_append]; simp; omega)
    rw [List.append_assoc, List.singleton_append, List.length_append, List.length_singleton, show ((p.length + 1 : Nat) : Int) = (p.length : Int) + 1 by omega] at ih
    refine ih.eq ?_
    rw [List.length_cons, mkF, List.append_assoc]
    simp only [Prod.mk.injEq, List.singleton_append, and_true]
    omega
theorem markF_ev (l : List S58) (a : Int) (h0 : 0 ≤ a) (h1 : a + 2 * l.length ≤ 4611686018427387904) (h2 : l.length ≤ 1073741824) : Ev (fun k => f35 k a l) (a + 2 * l.length, mkF a l.length) := by
  unfold f35
  exact markF_loop l [] a h0 h1 (by simpa using h2)
theorem markO_loop : ∀ (r p : List S63) (a : Int), 0 ≤ a → a + 4 * r.length ≤ 4611686018427387904 → p.length + r.length ≤ 1073741824 → Ev (fun k => f36.l2 k (p ++ r) a (p.length : Int)) (a + 4 * r.length, p ++ mkO a r.length)
  | [], p, a, h0, h1, h2 => by
    refine Ev.step (fun k => by rw [f36.l2]) (Ev.neg (by simp) (Ev.ret' ?_))
    simp [mkO]
  | x :: r, p, a, h0, h1, h2 => by
    rw [List.length_cons] at h1 h2
    refine Ev.step (fun k => by rw [f36.l2]) (Ev.pos (by rw [List.length_append, List.length_cons]; omega) (Ev.pos (by omega) ?_))
    rw [wr (n := a + 1) (by omega) (by omega), wr (n := a + 1 + 1) (by omega) (by omega), wr (n := a + 1 + 1 + 1) (by omega) (by omega), wr (n := a + 1 + 1 + 1 + 1) (by omega) (by omega), wr (n := (p.length : Int) + 1) (by omega) (by omega), Int.toNat_natCast, show a + 1 + 1 + 1 + 1 = a + 4 by omega, show a + 1 + 1 + 1 = a + 3 by omega, show a + 1 + 1 = a + 2 by omega]
    refine Ev.bind (mt_ev (a + 1) (by omega) (by omega)) (Ev.bind (mt_ev (a + 2) (by omega) (by omega)) (Ev.bind (mt_ev (a + 3) (by omega) (by omega)) ?_))
    rw [set_mid]
    have ih := markO_loop r (p ++ [⟨a, mt (a + 1), mt (a + 2), mt (a + 3)⟩]) (a + 4) (by omega) (by omega) (by rw [List.length_append]; simp; omega)
    rw [List.append_assoc, List.singleton_append, List.length_append, List.length_singleton, show ((p.length + 1 : Nat) : Int) = (p.length : Int) + 1 by omega] at ih
    refine ih.eq ?_
    rw [List.length_cons, mkO, List.append_assoc]
    simp only [Prod.mk.injEq, List.singleton_append, and_true]
    omega
theorem markO_ev (l : List S63) (a : Int) (h0 : 0 ≤ a) (h1 : a + 4 * l.length ≤ 4611686018427387904) (h2 : l.length ≤ 1073741824) : Ev (fun k => f36 k a l) (a + 4 * l.length, mkO a l.length) := by
  unfold f36
  exact markO_loop l [] a h0 h1 (by simpa using h2)
theorem heldF_loop : ∀ (n : Nat) (p : List S58) (a : Int), 0 ≤ a → a + 2 * n ≤ 4611686018427387904 → p.length + n ≤ 1073741824 → Ev (fun k => f38.l2 k (p ++ mkF a n) a (p.length : Int)) (a + 2 * n)
  | 0, p, a, h0, h1, h2 => by
    refine Ev.step (fun k => by rw [f38.l2]) (Ev.neg (by simp [mkF]) (Ev.ret' ?_))
    simp
  | n + 1, p, a, h0, h1, h2 => by
    have hl : (p ++ mkF a (n + 1)).length = p.length + (n + 1) := by rw [List.length_append, mkF_len]
    have hat : at' (p ++ mkF a (n + 1)) (p.length : Int) = ⟨mt a, mt (a + 1)⟩ := by
      rw [at_nat _ _ (by omega), List.getElem_append_right (Nat.le_refl _)]
      simp [mkF]
    refine Ev.step (fun k => by rw [f38.l2]) (Ev.pos (by omega) (Ev.pos (by omega) ?_))
    rw [hat, wr (n := a + 1) (by omega) (by omega), wr (n := a + 1 + 1) (by omega) (by omega), wr (n := (p.length : Int) + 1) (by omega) (by omega), show a + 1 + 1 = a + 2 by omega]
    refine Ev.bind (mt_ev a h0 (by omega)) (Ev.pos (strEq_self _) (Ev.bind (mt_ev (a + 1) (by omega) (by omega)) (Ev.pos (strEq_self _) ?_)))
    have ih := heldF_loop n (p ++ [⟨mt a, mt (a + 1)⟩]) (a + 2) (by omega) (by omega) (by rw [List.length_append]; simp; omega)
    rw [List.append_assoc, List.singleton_append, List.length_append, List.length_singleton, show ((p.length + 1 : Nat) : Int) = (p.length : Int) + 1 by omega] at ih
    rw [mkF]
    exact ih.eq (by omega)
theorem heldF_ev (n : Nat) (a : Int) (h0 : 0 ≤ a) (h1 : a + 2 * n ≤ 4611686018427387904) (h2 : n ≤ 1073741824) : Ev (fun k => f38 k (mkF a n) a) (a + 2 * n) := by
  unfold f38
  exact heldF_loop n [] a h0 h1 (by simpa using h2)
theorem heldO_loop : ∀ (n : Nat) (p : List S63) (a : Int), 0 ≤ a → a + 4 * n ≤ 4611686018427387904 → p.length + n ≤ 1073741824 → Ev (fun k => f39.l2 k (p ++ mkO a n) a (p.length : Int)) (a + 4 * n)
  | 0, p, a, h0, h1, h2 => by
    refine Ev.step (fun k => by rw [f39.l2]) (Ev.neg (by simp [mkO]) (Ev.ret' ?_))
    simp
  | n + 1, p, a, h0, h1, h2 => by
    have hl : (p ++ mkO a (n + 1)).length = p.length + (n + 1) := by rw [List.length_append, mkO_len]
    have hat : at' (p ++ mkO a (n + 1)) (p.length : Int) = ⟨a, mt (a + 1), mt (a + 2), mt (a + 3)⟩ := by
      rw [at_nat _ _ (by omega), List.getElem_append_right (Nat.le_refl _)]
      simp [mkO]
    refine Ev.step (fun k => by rw [f39.l2]) (Ev.pos (by omega) (Ev.pos (by omega) ?_))
    rw [hat, wr (n := a + 1) (by omega) (by omega), wr (n := a + 1 + 1) (by omega) (by omega), wr (n := a + 1 + 1 + 1) (by omega) (by omega), wr (n := a + 1 + 1 + 1 + 1) (by omega) (by omega), wr (n := (p.length : Int) + 1) (by omega) (by omega), show a + 1 + 1 + 1 + 1 = a + 4 by omega, show a + 1 + 1 + 1 = a + 3 by omega, show a + 1 + 1 = a + 2 by omega]
    refine Ev.pos rfl (Ev.bind (mt_ev (a + 1) (by omega) (by omega)) (Ev.pos (strEq_self _) (Ev.bind (mt_ev (a + 2) (by omega) (by omega)) (Ev.pos (strEq_self _) (Ev.bind (mt_ev (a + 3) (by omega) (by omega)) (Ev.pos (strEq_self _) ?_))))))
    have ih := heldO_loop n (p ++ [⟨a, mt (a + 1), mt (a + 2), mt (a + 3)⟩]) (a + 4) (by omega) (by omega) (by rw [List.length_append]; simp; omega)
    rw [List.append_assoc, List.singleton_append, List.length_append, List.length_singleton, show ((p.length + 1 : Nat) : Int) = (p.length : Int) + 1 by omega] at ih
    rw [mkO]
    exact ih.eq (by omega)
theorem heldO_ev (n : Nat) (a : Int) (h0 : 0 ≤ a) (h1 : a + 4 * n ≤ 4611686018427387904) (h2 : n ≤ 1073741824) : Ev (fun k => f39 k (mkO a n) a) (a + 4 * n) := by
  unfold f39
  exact heldO_loop n [] a h0 h1 (by simpa using h2)
theorem markD_ev (a b : List S58) (c : List S63) (h0 : a.length ≤ 1073741824) (h1 : b.length ≤ 1073741824) (h2 : c.length ≤ 1073741824) :
    Ev (fun k => f12 k 1 a b c) (1 + 2 * a.length + 2 * b.length + 4 * c.length, mkF 1 a.length, mkF (1 + 2 * a.length) b.length, mkO (1 + 2 * a.length + 2 * b.length) c.length) := by
  unfold f12
  exact Ev.bind (markF_ev a 1 (by omega) (by omega) h0) (Ev.bind (markF_ev b _ (by omega) (by omega) h1) (Ev.bind (markO_ev c _ (by omega) (by omega) h2) (Ev.ret _)))
theorem heldD_ev (n m o : Nat) (h0 : n ≤ 1073741824) (h1 : m ≤ 1073741824) (h2 : o ≤ 1073741824) :
    Ev (fun k => f14 k (mkF 1 n) (mkF (1 + 2 * n) m) (mkO (1 + 2 * n + 2 * m) o) 1) (1 + 2 * (n : Int) + 2 * m + 4 * o) := by
  unfold f14
  exact Ev.bind (heldF_ev n 1 (by omega) (by omega) h0) (Ev.neg (by omega) (Ev.bind (heldF_ev m _ (by omega) (by omega) h1) (Ev.neg (by omega) (Ev.bind (heldO_ev o _ (by omega) (by omega) h2) (Ev.neg (by omega) (Ev.ret _))))))
end Go.Proofs.YtopnfhlgaiocpaaGreat.P
namespace Go.Proofs.YtopnfhlgaiocpaaGreat.P
open Go Go.Proofs.YtopnfhlgaiocpaaGreat.PM Go.Proofs
structure Inv (live safe : List S58) (ops : List S63) : Prop where
  l : filesB live = true
  s : filesB safe = true
  n : ops.length ≤ 200
  o : ∀ x ∈ ops, x.f3.size ≤ 4194304
theorem small_of {l : List S58} (h : filesB l = true) : smallF l := fun x hx => by have := (filesB_said h).2.2 x hx; omega
theorem Inv.mt : Inv [] [] [] := ⟨by decide, by decide, by decide, fun x hx => by cases hx⟩
theorem copyD_ev {live safe : List S58} {ops : List S63} (h : Inv live safe ops) : Ev (fun k => f21 k live safe ops) (live, safe, ops) := by
  have a := (filesB_said h.l).2.1
  have b := (filesB_said h.s).2.1
  have c := h.n
  unfold f21
  exact Ev.pos (by omega) (Ev.pos (by omega) (Ev.pos (by omega) (Ev.pos (by omega) (Ev.pos (by omega) (Ev.pos (by omega) (Ev.ret _))))))
structure Sm (live safe : List S58) (ops : List S63) : Prop where
  ln : live.length ≤ 61
  ls : smallF live
  sn : safe.length ≤ 61
  ss : smallF safe
  n : ops.length ≤ 200
  o : ∀ x ∈ ops, x.f3.size ≤ 4194304
theorem strOf_size (l : List Int) : (strOf l).size = l.length := by
  show (l.map _).toArray.size = _
  rw [List.size_toArray, List.length_map]
end Go.Proofs.YtopnfhlgaiocpaaGreat.P
namespace Go.Proofs.YtopnfhlgaiocpaaGreat.P
open Go Go.Proofs.YtopnfhlgaiocpaaGreat.PM Go.Proofs
end Go.Proofs.YtopnfhlgaiocpaaGreat.P
namespace Go.Proofs.YtopnfhlgaiocpaaGreat.P
open Go Go.Proofs.YtopnfhlgaiocpaaGreat.PM Go.Proofs
abbrev AR := Int × List S58 × List S58 × List S63
def actR (live safe : List S58) (ops : List S63) (k : Int) (n t d : ByteArray) : AR :=
  if formB k n t d = true then
    if (onF live k n t d).2 = true then
      if ops.length = 200 then (4, live, safe, ops) else if filesB (onF live k n t d).1 = true then (0, (onF live k n t d).1, safe, ops ++ [⟨k, n, t, d⟩]) else (4, live, safe, ops)
    else (3, live, safe, ops)
  else (2, live, safe, ops)
theorem actR_inv {live safe : List S58} {ops : List S63} (h : Inv live safe ops) (k : Int) (n t d : ByteArray) (hd : d.size ≤ 4194304) : Inv (actR live safe ops k n t d).2.1 (actR live safe ops k n t d).2.2.1 (actR live safe ops k n t d).2.2.2 := by
  have hn := h.n
  unfold actR
  split
  · split
    · split
      · exact h
      · split
        · rename_i hf
          refine ⟨hf, h.s, ?_, ?_⟩
          · show (ops ++ [(⟨k, n, t, d⟩ : S63)]).length ≤ 200
            rw [List.length_append, List.length_singleton]
            omega
          · intro x hx
            rcases List.mem_append.1 hx with hx | hx
            · exact h.o x hx
            · rw [List.mem_singleton.1 hx]; exact hd
        · exact h
    · exact h
  · exact h
theorem spec_act {live safe : List S58} {ops : List S63} (h : Inv live safe ops) (k : Int) (n t d : ByteArray) (hd : d.size ≤ 4194304) : Ev (fun q => f24 q live safe ops k n t d) (actR live safe ops k n t d) := by
  obtain ⟨hr, h60, hsz⟩ := filesB_said h.l
  have hn := h.n
  unfold f24 actR
  refine Ev.bind (l4Form_ev k n t d) ?_
  cases hf : formB k n t d with
  | false => exact Ev.neg (by simp) (Ev.bind (copyD_ev h) (Ev.ret' (by simp)))
  | true =>
    have hdo := l4Do_ev live k n t d hr (by omega) (fun x hx => by have := hsz x hx; omega) (by omega)
    rw [doS_onF live k n t d hf] at hdo
    refine Ev.pos rfl (Ev.bind hdo ?_)
    rw [if_pos rfl]
    cases hok : (onF live k n t d).2 with
    | false => exact Ev.neg (by simp) (Ev.bind (copyD_ev h) (Ev.ret' (by simp)))
    | true =>
      rw [if_pos rfl]
      refine Ev.pos rfl ?_
      by_cases h2 : ops.length = 200
      · rw [if_pos h2]
        exact Ev.pos (by omega) (Ev.bind (copyD_ev h) (Ev.ret _))
      · rw [if_neg h2]
        refine Ev.neg (by omega) (Ev.bind (l4Files_ev _ (onF_small hsz k n t d (by omega) hok)) ?_)
        cases hfn : filesB (onF live k n t d).1 with
        | false => exact Ev.neg (by simp) (Ev.bind (copyD_ev h) (Ev.ret' (by simp)))
        | true => exact Ev.pos rfl (Ev.bind (copyD_ev h) (Ev.pos (by show (ops.length + 1) * 56 ≤ _; omega) (Ev.pos (by show ops.length + 1 ≤ _; omega) (Ev.ret' (by simp)))))
theorem icopy_ev {live safe : List S58} {ops : List S63} (h : Inv live safe ops) : Ev (fun k => f58 k live safe ops) (live, safe, ops) := by
  have a := (filesB_said h.l).2.1
  have b := (filesB_said h.s).2.1
  have c := h.n
  unfold f58
  exact Ev.bind (copyFiles_ev live (by omega)) (Ev.bind (copyFiles_ev safe (by omega)) (Ev.pos (by omega) (Ev.pos (by omega) (Ev.ret _))))
theorem impl_act {live safe : List S58} {ops : List S63} (h : Inv live safe ops) (k : Int) (n t d : ByteArray) (hd : d.size ≤ 4194304) : Ev (fun q => f64 q live safe ops k n t d) (actR live safe ops k n t d) := by
  obtain ⟨hr, h60, hsz⟩ := filesB_said h.l
  have hn := h.n
  unfold f64 actR
  refine Ev.bind (isFormed_ev k n t d) ?_
  cases hf : formB k n t d with
  | false => exact Ev.neg (by simp) (Ev.bind (icopy_ev h) (Ev.ret' (by simp)))
  | true =>
    have hdo := on_ev live k n t d hr (by omega) (fun x hx => by have := hsz x hx; omega) (by omega)
    refine Ev.pos rfl (Ev.bind hdo ?_)
    rw [if_pos rfl]
    unfold onS
    cases hok : (onF live k n t d).2 with
    | false => exact Ev.bind (icopy_ev h) (Ev.ret' (by simp))
    | true =>
      have hln := onF_len live k n t d
      rw [if_pos rfl, if_pos rfl]
      by_cases h2 : ops.length = 200
      · rw [if_pos h2]
        exact Ev.pos (by omega) (Ev.bind (icopy_ev h) (Ev.ret _))
      · rw [if_neg h2]
        refine Ev.neg (by omega) (Ev.bind (areFiles_ev _ (onF_small hsz k n t d (by omega) hok) (by omega)) ?_)
        cases hfn : filesB (onF live k n t d).1 with
        | false => exact Ev.neg (by simp) (Ev.bind (icopy_ev h) (Ev.ret' (by simp)))
        | true => exact Ev.pos rfl (Ev.bind (icopy_ev h) (Ev.bind (copyFiles_ev _ (by omega)) (Ev.pos (by show (ops.length + 1) * 56 ≤ _; omega) (Ev.pos (by show ops.length + 1 ≤ _; omega) (Ev.ret' (by simp))))))
def stepsR (o : AR) : List S63 → AR → AR
  | [], now => (0, now.2)
  | op :: r, now =>
    if (actR now.2.1 now.2.2.1 now.2.2.2 op.f0 op.f1 op.f2 op.f3).1 = 0 then stepsR o r (actR now.2.1 now.2.2.1 now.2.2.2 op.f0 op.f1 op.f2 op.f3) else ((actR now.2.1 now.2.2.1 now.2.2.2 op.f0 op.f1 op.f2 op.f3).1, o.2)
def fresh (n : ByteArray) : ByteArray := n ++ (⟨#[46, 110, 101, 119]⟩ : ByteArray)
def opA (n d : ByteArray) : S63 := ⟨1, fresh n, ⟨#[]⟩, d⟩
def opB (n : ByteArray) : S63 := ⟨2, fresh n, n, ⟨#[]⟩⟩
def opC (n : ByteArray) : S63 := ⟨3, fresh n, ⟨#[]⟩, ⟨#[]⟩⟩
def opsR (live : List S58) (n d : ByteArray) : List S63 := if 0 ≤ idxP (nameIs (fresh n)) live then [opC n, opA n d, opB n] else [opA n d, opB n]
def replaceR (live safe : List S58) (ops : List S63) (n d : ByteArray) : AR :=
  if diskB live safe ops = true then stepsR (0, live, safe, ops) (opsR live n d) (0, live, safe, ops) else (1, [], [], [])
theorem Sm.inv {live safe : List S58} {ops : List S63} (hs : Sm live safe ops) (h : diskB live safe ops = true) : Inv live safe ops := by
  unfold diskB at h
  simp only [Bool.and_eq_true] at h
  exact ⟨h.1, h.2.1, hs.n, hs.o⟩
theorem two_ev {b0 b1 : List S58} {b2 : List S63} (h0 : Inv b0 b1 b2) {live safe : List S58} {ops : List S63} (h : Inv live safe ops) (c : Int) (n d : ByteArray) (hd : d.size ≤ 4194304) :
    Ev (fun k => ((f24 k live safe ops 1 (n ++ (⟨#[46, 110, 101, 119]⟩ : ByteArray)) (⟨#[]⟩ : ByteArray) d).bind fun t10 => (if t10.1 = 0 then ((f24 k t10.2.1 t10.2.2.1 t10.2.2.2 2 (n ++ (⟨#[46, 110, 101, 119]⟩ : ByteArray)) n (⟨#[]⟩ : ByteArray)).bind fun t11 => (if t11.1 = 0 then ((f21 k t11.2.1 t11.2.2.1 t11.2.2.2).bind fun t12 => some ((0 : Int), t12.1, t12.2.1, t12.2.2)) else ((f21 k b0 b1 b2).bind fun t13 => some (t11.1, t13.1, t13.2.1, t13.2.2)))) else ((f21 k b0 b1 b2).bind fun t14 => some (t10.1, t14.1, t14.2.1, t14.2.2))))) (stepsR (0, b0, b1, b2) [opA n d, opB n] (c, live, safe, ops)) := by
  have a1 := spec_act h 1 (fresh n) ⟨#[]⟩ d hd
  have i1 := actR_inv h 1 (fresh n) ⟨#[]⟩ d hd
  refine Ev.bind a1 ?_
  rw [stepsR]
  show Ev _ (if (actR live safe ops 1 (fresh n) ⟨#[]⟩ d).1 = 0 then stepsR (0, b0, b1, b2) [opB n] (actR live safe ops 1 (fresh n) ⟨#[]⟩ d) else ((actR live safe ops 1 (fresh n) ⟨#[]⟩ d).1, b0, b1, b2))
  generalize actR live safe ops 1 (fresh n) ⟨#[]⟩ d = x at *
  by_cases hx : x.1 = 0
  · rw [if_pos hx, stepsR]
    have a2 := spec_act i1 2 (fresh n) n ⟨#[]⟩ (Nat.zero_le _)
    have i2 := actR_inv i1 2 (fresh n) n ⟨#[]⟩ (Nat.zero_le _)
    refine Ev.pos hx (Ev.bind a2 ?_)
    show Ev _ (if (actR x.2.1 x.2.2.1 x.2.2.2 2 (fresh n) n ⟨#[]⟩).1 = 0 then stepsR (0, b0, b1, b2) [] (actR x.2.1 x.2.2.1 x.2.2.2 2 (fresh n) n ⟨#[]⟩) else ((actR x.2.1 x.2.2.1 x.2.2.2 2 (fresh n) n ⟨#[]⟩).1, b0, b1, b2))
    generalize actR x.2.1 x.2.2.1 x.2.2.2 2 (fresh n) n ⟨#[]⟩ = y at *
    by_cases hy : y.1 = 0
    · rw [if_pos hy, stepsR]
      exact Ev.pos hy (Ev.bind (copyD_ev i2) (Ev.ret _))
    · rw [if_neg hy]
      exact Ev.neg hy (Ev.bind (copyD_ev h0) (Ev.ret _))
  · rw [if_neg hx]
    exact Ev.neg hx (Ev.bind (copyD_ev h0) (Ev.ret _))
theorem spec_replace {live safe : List S58} {ops : List S63} (hs : Sm live safe ops) (n d : ByteArray) (hn : n.size ≤ 1048576) (hd : d.size ≤ 4194304) : Ev (fun k => f26 k live safe ops n d) (replaceR live safe ops n d) := by
  have hk := DiskOk_ev live safe ops hs.ls hs.ss (fun x hx => by have := hs.o x hx; omega)
  unfold f26 replaceR
  refine Ev.bind hk ?_
  cases hb : diskB live safe ops with
  | false => exact Ev.neg (by simp) (Ev.ret' (by simp))
  | true =>
    have h := hs.inv hb
    rw [if_pos rfl]
    refine Ev.pos rfl (Ev.pos (by omega) (Ev.bind (l4At_ev live (fresh n) (by have := hs.ln; omega)) ?_))
    unfold opsR
    by_cases hi : 0 ≤ idxP (nameIs (fresh n)) live
    · rw [if_pos hi]
      have a1 := spec_act h 3 (fresh n) ⟨#[]⟩ ⟨#[]⟩ (Nat.zero_le _)
      have i1 := actR_inv h 3 (fresh n) ⟨#[]⟩ ⟨#[]⟩ (Nat.zero_le _)
      refine Ev.pos hi (Ev.bind a1 ?_)
      rw [stepsR]
      show Ev _ (if (actR live safe ops 3 (fresh n) ⟨#[]⟩ ⟨#[]⟩).1 = 0 then stepsR (0, live, safe, ops) [opA n d, opB n] (actR live safe ops 3 (fresh n) ⟨#[]⟩ ⟨#[]⟩) else ((actR live safe ops 3 (fresh n) ⟨#[]⟩ ⟨#[]⟩).1, live, safe, ops))
      generalize actR live safe ops 3 (fresh n) ⟨#[]⟩ ⟨#[]⟩ = x at *
      by_cases hx : x.1 = 0
      · rw [if_pos hx]
        exact Ev.pos hx (two_ev h i1 x.1 n d hd)
      · rw [if_neg hx]
        exact Ev.neg hx (Ev.bind (copyD_ev h) (Ev.ret _))
    · rw [if_neg hi]
      exact Ev.neg hi (two_ev h h 0 n d hd)
theorem repl_loop {b0 b1 : List S58} {b2 : List S63} (h0 : Inv b0 b1 b2) (os : List S63) (hos : ∀ x ∈ os, x.f3.size ≤ 4194304) (hl : os.length ≤ 100) (e : Nat) : ∀ (i : Nat) (c : Int) (live safe : List S58) (ops : List S63), os.length - i = e → i ≤ os.length → Inv live safe ops →
    Ev (fun k => f62.l9 k os live safe ops (os.length : Int) (i : Int) b0 b1 b2) (stepsR (0, b0, b1, b2) (os.drop i) (c, live, safe, ops)) := by
  induction e with
  | zero =>
    intro i c live safe ops hd hi h
    refine Ev.step (fun k => by rw [f62.l9]) (Ev.neg (by omega) (Ev.ret' ?_))
    rw [List.drop_of_length_le (by omega), stepsR]
  | succ e ih =>
    intro i c live safe ops hd hi h
    have h1 : i < os.length := by omega
    refine Ev.step (fun k => by rw [f62.l9]) (Ev.pos (by omega) (Ev.pos (by omega) (Ev.pos (by omega) ?_)))
    rw [rdO_nat os i h1, List.drop_eq_getElem_cons h1, stepsR]
    have hop := hos _ (List.getElem_mem h1)
    generalize os[i] = op at *
    have a1 := impl_act h op.f0 op.f1 op.f2 op.f3 hop
    have i1 := actR_inv h op.f0 op.f1 op.f2 op.f3 hop
    refine Ev.bind a1 ?_
    show Ev _ (if (actR live safe ops op.f0 op.f1 op.f2 op.f3).1 = 0 then stepsR (0, b0, b1, b2) (os.drop (i + 1)) (actR live safe ops op.f0 op.f1 op.f2 op.f3) else ((actR live safe ops op.f0 op.f1 op.f2 op.f3).1, b0, b1, b2))
    generalize actR live safe ops op.f0 op.f1 op.f2 op.f3 = x at *
    by_cases hx : x.1 = 0
    · rw [if_pos hx]
      refine Ev.pos hx ?_
      rw [show IntKind.i64.wrap ((i : Int) + 1) = ((i + 1 : Nat) : Int) by rw [wr (by omega) (by omega)]; omega]
      exact ih (i + 1) x.1 x.2.1 x.2.2.1 x.2.2.2 (by omega) (by omega) i1
    · rw [if_neg hx]
      exact Ev.neg hx (Ev.bind (icopy_ev h0) (Ev.ret _))
theorem impl_repl {live safe : List S58} {ops : List S63} (hs : Sm live safe ops) (n d : ByteArray) (hn : n.size ≤ 1048576) (hd : d.size ≤ 4194304) : Ev (fun k => f62 k live safe ops n d) (replaceR live safe ops n d) := by
  have hk := isDisk_ev live safe ops hs.ls hs.ss (fun x hx => by have := hs.o x hx; omega) (by have := hs.ln; omega) (by have := hs.sn; omega)
  unfold f62 replaceR
  refine Ev.bind hk ?_
  cases hb : diskB live safe ops with
  | false => exact Ev.neg (by simp) (Ev.ret' (by simp))
  | true =>
    have h := hs.inv hb
    rw [if_pos rfl]
    refine Ev.pos rfl (Ev.pos (by omega) (Ev.bind (fileOf_ev live (fresh n) (by have := hs.ln; omega)) ?_))
    unfold opsR
    by_cases hi : 0 ≤ idxP (nameIs (fresh n)) live
    · rw [if_pos hi]
      refine Ev.pos hi (Ev.bind (a := [opC n, opA n d, opB n]) ?_ (Ev.bind (icopy_ev h) ?_))
      · unfold f87
        refine Ev.pos ⟨Int.le_refl _, by simp, rfl, by simp, by simp⟩ (Ev.ret' (by simp [opA, opB, opC, fresh]))
      · refine repl_loop h [opC n, opA n d, opB n] ?_ (by simp) _ 0 0 live safe ops rfl (Nat.zero_le _) h
        intro x hx
        simp only [List.mem_cons, List.not_mem_nil, or_false] at hx
        rcases hx with rfl | rfl | rfl
        · exact Nat.zero_le _
        · exact hd
        · exact Nat.zero_le _
    · rw [if_neg hi]
      refine Ev.neg hi (Ev.bind (icopy_ev h) ?_)
      refine repl_loop h [opA n d, opB n] ?_ (by simp) _ 0 0 live safe ops rfl (Nat.zero_le _) h
      intro x hx
      simp only [List.mem_cons, List.not_mem_nil, or_false] at hx
      rcases hx with rfl | rfl
      · exact hd
      · exact Nat.zero_le _
end Go.Proofs.YtopnfhlgaiocpaaGreat.P
namespace Go.Proofs.YtopnfhlgaiocpaaGreat.P
open Go Go.Proofs.YtopnfhlgaiocpaaGreat.PM Go.Proofs
end Go.Proofs.YtopnfhlgaiocpaaGreat.P
namespace Go.Proofs.YtopnfhlgaiocpaaGreat.P
open Go Go.Proofs.YtopnfhlgaiocpaaGreat.PM Go.Proofs
theorem bytesL_len (s : ByteArray) : (bytesL s).length = s.size := by
  unfold bytesL
  rw [List.length_map, Array.length_toList]
  rfl
theorem bytesL_at (s : ByteArray) (i : Nat) (h : i < s.size) : at' (bytesL s) (i : Int) = byteAt s (i : Int) := by
  rw [at_nat _ i (by rw [bytesL_len]; exact h), ← get_byte_nat s i h]
  unfold bytesL
  rw [List.getElem_map, Array.getElem_toList]
  rfl
theorem byteAt_b (s : ByteArray) (i : Int) : 0 ≤ byteAt s i ∧ byteAt s i ≤ 255 := by
  unfold byteAt
  cases h : s[i.toNat]? with
  | none => exact ⟨by decide, by decide⟩
  | some b =>
    have := b.toNat_lt
    show 0 ≤ (b.toNat : Int) ∧ (b.toNat : Int) ≤ 255
    omega
theorem byteAt_cut (s : ByteArray) (a b i : Nat) (h : a + i < b) (hb : b ≤ s.size) : byteAt (s.extract a b) (i : Int) = byteAt s ((a + i : Nat) : Int) := by
  have hs : i < (s.extract a b).size := by rw [ByteArray.size_extract]; omega
  rw [← get_byte_nat _ i hs, ← get_byte_nat s (a + i) (by omega), ByteArray.getElem_extract]
theorem strOf_take (s : ByteArray) (n : Nat) : strOf ((bytesL s).take n) = s.extract 0 n := by
  unfold strOf bytesL
  apply ByteArray.ext
  rw [ByteArray.data_extract]
  apply Array.toList_inj.1
  rw [Array.toList_extract, ← List.map_take, List.map_map]
  show List.map _ _ = (s.data.toList.drop 0).take (n - 0)
  rw [List.drop_zero, Nat.sub_zero]
  conv => rhs; rw [← List.map_id (List.take n s.data.toList)]
  apply List.map_congr_left
  intro x _
  show UInt8.ofNat (x.toNat : Int).toNat = x
  rw [Int.toNat_natCast, UInt8.ofNat_toNat]
theorem cut_cut (s : ByteArray) (a b : Nat) (h : a ≤ b) : (s.extract 0 b).extract a b = s.extract a b := by
  rw [ByteArray.extract_extract]
  congr 1 <;> omega
def word4 (s : ByteArray) (a : Nat) : Int := orI .u32 (orI .u32 (orI .u32 (IntKind.u32.wrap (byteAt s (a : Int))) (shlI .u32 (IntKind.u32.wrap (byteAt s ((a + 1 : Nat) : Int))) 8)) (shlI .u32 (IntKind.u32.wrap (byteAt s ((a + 2 : Nat) : Int))) 16)) (shlI .u32 (IntKind.u32.wrap (byteAt s ((a + 3 : Nat) : Int))) 24)
theorem u32_w (n : Int) : IntKind.u32.wrap n = n % 4294967296 := by simp [IntKind.wrap, IntKind.signed, IntKind.bits]
theorem u32_b (n : Int) : 0 ≤ IntKind.u32.wrap n ∧ IntKind.u32.wrap n ≤ 4294967295 := by
  rw [u32_w]
  omega
theorem word4_b (s : ByteArray) (a : Nat) : 0 ≤ word4 s a ∧ word4 s a ≤ 4294967295 := u32_b _
theorem l2Word_ev (s : ByteArray) (a b : Nat) (h : a + 4 = b) (hb : b ≤ s.size) : Ev (fun k => f91 k (s.extract a b)) (word4 s a) := by
  unfold f91
  have hs : (s.extract a b).size = 4 := by rw [ByteArray.size_extract]; omega
  have e (i : Nat) (hi : i < 4) : byteAt (s.extract a b) (i : Int) = byteAt s ((a + i : Nat) : Int) := byteAt_cut s a b i (by omega) hb
  have e0 := e 0 (by omega)
  have e1 := e 1 (by omega)
  have e2 := e 2 (by omega)
  have e3 := e 3 (by omega)
  refine Ev.pos (by omega) (Ev.pos (by omega) (Ev.pos (by omega) (Ev.pos (by omega) (Ev.ret' ?_))))
  unfold word4
  rw [show (byteAt (s.extract a b) 0) = _ from e0, show (byteAt (s.extract a b) 1) = _ from e1, show (byteAt (s.extract a b) 2) = _ from e2, show (byteAt (s.extract a b) 3) = _ from e3]
  rfl
theorem uint32_ev (s : ByteArray) (a : Nat) (h : a + 4 ≤ s.size) : Ev (fun k => f96 k (((bytesL s).drop a).take (s.size - a))) (word4 s a) := by
  unfold f96
  have hl : (((bytesL s).drop a).take (s.size - a)).length = s.size - a := by rw [List.length_take, List.length_drop, bytesL_len]; omega
  have e (i : Nat) (hi : i < 4) : at' (((bytesL s).drop a).take (s.size - a)) (i : Int) = byteAt s ((a + i : Nat) : Int) := by
    rw [at_nat _ i (by omega), List.getElem_take, List.getElem_drop, ← bytesL_at s (a + i) (by omega), at_nat _ (a + i) (by rw [bytesL_len]; omega)]
  have e0 := e 0 (by omega)
  have e1 := e 1 (by omega)
  have e2 := e 2 (by omega)
  have e3 := e 3 (by omega)
  refine Ev.pos (by omega) (Ev.pos (by omega) (Ev.pos (by omega) (Ev.pos (by omega) (Ev.ret' ?_))))
  unfold word4
  rw [show (at' (((bytesL s).drop a).take (s.size - a)) 0) = _ from e0, show (at' (((bytesL s).drop a).take (s.size - a)) 1) = _ from e1, show (at' (((bytesL s).drop a).take (s.size - a)) 2) = _ from e2, show (at' (((bytesL s).drop a).take (s.size - a)) 3) = _ from e3]
  rfl
theorem crc_bits (s : ByteArray) (n i : Nat) (hn : n ≤ 1073741824) (hi : i < n) (h : ∀ x : Int, ∃ r, Ev (fun k => f74.l3 k s x ((i + 1 : Nat) : Int)) r ∧ Ev (fun k => f97.l3 k s x (n : Int) ((i + 1 : Nat) : Int)) r) (d : Nat) : ∀ (j : Nat) (x : Int), 8 - j = d → j ≤ 8 → ∃ r, Ev (fun k => f74.l7 k s x (i : Int) (j : Int)) r ∧ Ev (fun k => f97.l7 k s x (n : Int) (i : Int) (j : Int)) r := by
  have wi : IntKind.i64.wrap ((i : Int) + 1) = ((i + 1 : Nat) : Int) := by rw [wr (by omega) (by omega)]; omega
  induction d with
  | zero =>
    intro j x hd hj
    obtain ⟨r, h1, h2⟩ := h x
    rw [← wi] at h1 h2
    exact ⟨r, Ev.step (fun k => by rw [f74.l7]) (Ev.neg (by omega) h1), Ev.step (fun k => by rw [f97.l7]) (Ev.neg (by omega) h2)⟩
  | succ d ih =>
    intro j x hd hj
    have wj : IntKind.i64.wrap ((j : Int) + 1) = ((j + 1 : Nat) : Int) := by rw [wr (by omega) (by omega)]; omega
    by_cases hb : andI .u32 x 1 = 1
    · obtain ⟨r, h1, h2⟩ := ih (j + 1) (xorI .u32 (shrI .u32 x 1) 3988292384) (by omega) (by omega)
      rw [← wj] at h1 h2
      exact ⟨r, Ev.step (fun k => by rw [f74.l7]) (Ev.pos (by omega) (Ev.pos hb h1)), Ev.step (fun k => by rw [f97.l7]) (Ev.pos (by omega) (Ev.pos hb h2))⟩
    · obtain ⟨r, h1, h2⟩ := ih (j + 1) (shrI .u32 x 1) (by omega) (by omega)
      rw [← wj] at h1 h2
      exact ⟨r, Ev.step (fun k => by rw [f74.l7]) (Ev.pos (by omega) (Ev.neg hb h1)), Ev.step (fun k => by rw [f97.l7]) (Ev.pos (by omega) (Ev.neg hb h2))⟩
theorem crc_loop (s : ByteArray) (hs : s.size ≤ 1073741824) (d : Nat) : ∀ (i : Nat) (x : Int), s.size - i = d → i ≤ s.size → ∃ r, Ev (fun k => f74.l3 k s x (i : Int)) r ∧ Ev (fun k => f97.l3 k s x (s.size : Int) (i : Int)) r := by
  induction d with
  | zero =>
    intro i x hd hi
    exact ⟨_, Ev.step (fun k => by rw [f74.l3]) (Ev.neg (by omega) (Ev.ret _)), Ev.step (fun k => by rw [f97.l3]) (Ev.neg (by omega) (Ev.ret _))⟩
  | succ d ih =>
    intro i x hd hi
    obtain ⟨r, h1, h2⟩ := crc_bits s s.size i hs (by omega) (fun x => ih (i + 1) x (by omega) (by omega)) 8 0 (xorI .u32 x (IntKind.u32.wrap (byteAt s i))) rfl (by omega)
    rw [show ((0 : Nat) : Int) = 0 from rfl] at h1 h2
    refine ⟨r, Ev.step (fun k => by rw [f74.l3]) (Ev.pos (by omega) (Ev.pos (by omega) ?_)), Ev.step (fun k => by rw [f97.l3]) (Ev.pos (by omega) (Ev.pos (by omega) (Ev.pos (by omega) ?_)))⟩
    · exact h1
    · exact h2
theorem crc_two (s : ByteArray) (hs : s.size ≤ 1073741824) : ∃ r, Ev (fun k => f74 k s) r ∧ Ev (fun k => f97 k s) r := by
  unfold f74 f97
  exact crc_loop s hs _ 0 _ rfl (Nat.zero_le _)
theorem or_shl (n c i : Nat) (hi : i ≤ 5) (hn : n < 2 ^ (7 * i)) (hc : c < 128) : orI .i64 (n : Int) (shlI .i64 (c : Int) (IntKind.i64.wrap (7 * (i : Int)))) = ((n + c * 2 ^ (7 * i) : Nat) : Int) ∧ n + c * 2 ^ (7 * i) < 2 ^ (7 * (i + 1)) ∧ 2 ^ (7 * i) ≤ 34359738368 := by
  have hp : 2 ^ (7 * i) ≤ 2 ^ 35 := Nat.pow_le_pow_right (by omega) (by omega)
  have hp' : 2 ^ (7 * i) ≤ 34359738368 := hp
  have hq : 2 ^ (7 * (i + 1)) = 128 * 2 ^ (7 * i) := by rw [show 7 * (i + 1) = 7 + 7 * i by omega, Nat.pow_add]
  have hm : c * 2 ^ (7 * i) ≤ 127 * 2 ^ (7 * i) := Nat.mul_le_mul_right _ (by omega)
  refine ⟨?_, by omega, hp'⟩
  have hs : shlI .i64 (c : Int) (IntKind.i64.wrap (7 * (i : Int))) = ((c * 2 ^ (7 * i) : Nat) : Int) := by
    unfold shlI
    rw [wr (n := 7 * (i : Int)) (by omega) (by omega), show (7 * (i : Int)).toNat = 7 * i by omega, show min (7 * i) IntKind.i64.bits = 7 * i from Nat.min_eq_left (by show 7 * i ≤ 64; omega)]
    rw [show ((c : Int) * 2 ^ (7 * i)) = ((c * 2 ^ (7 * i) : Nat) : Int) by rw [Int.natCast_mul, Int.natCast_pow]; rfl]
    exact wr (by omega) (by omega)
  rw [hs]
  unfold orI
  show IntKind.i64.wrap ((BitVec.ofInt 64 (n : Int) ||| BitVec.ofInt 64 ((c * 2 ^ (7 * i) : Nat) : Int)).toNat : Int) = _
  rw [BitVec.ofInt_natCast, BitVec.ofInt_natCast, BitVec.toNat_or, BitVec.toNat_ofNat, BitVec.toNat_ofNat, Nat.mod_eq_of_lt (by omega), Nat.mod_eq_of_lt (by omega), Nat.or_comm, ← Nat.shiftLeft_eq, ← Nat.shiftLeft_add_eq_or_of_lt hn, Nat.shiftLeft_eq, Nat.add_comm]
  exact wr (by omega) (by omega)
structure NumOk (s : ByteArray) (r : Int × ByteArray × Bool) : Prop where
  lo : 0 ≤ r.1
  hi : r.1 ≤ 1000000000000
  le : r.2.1.size ≤ s.size
theorem num_no (s : ByteArray) : NumOk s (0, (⟨#[]⟩ : ByteArray), false) := ⟨by decide, by decide, Nat.zero_le _⟩
theorem isNumber_ev (n : Int) : Ev (fun k => f83 k n) (decide (0 ≤ n) && decide (n ≤ 1000000000000)) := by
  unfold f83 f57
  by_cases h : 0 ≤ n
  · refine Ev.bind (Ev.pos h (Ev.ret _)) (Ev.ret' ?_)
    rw [decide_eq_true h, Bool.true_and]
  · refine Ev.bind (Ev.neg h (Ev.ret _)) (Ev.ret' ?_)
    rw [decide_eq_false h, Bool.false_and]
theorem take_loop (s : ByteArray) (d : Nat) : ∀ (i n : Nat), 6 - i = d → i ≤ 6 → n < 2 ^ (7 * i) → ∃ r, Ev (fun k => f47.l4 k s (n : Int) ((2 ^ (7 * i) : Nat) : Int) (i : Int)) r ∧ Ev (fun k => f80.l3 k s (n : Int) (i : Int)) r ∧ NumOk s r := by
  induction d with
  | zero =>
    intro i n hd hi hn
    by_cases hs : i < s.size
    · exact ⟨_, Ev.step (fun k => by rw [f47.l4]) (Ev.pos (by omega) (Ev.neg (by omega) (Ev.ret _))), Ev.step (fun k => by rw [f80.l3]) (Ev.pos (by omega) (Ev.neg (by omega) (Ev.ret _))), num_no s⟩
    · exact ⟨_, Ev.step (fun k => by rw [f47.l4]) (Ev.neg (by omega) (Ev.ret _)), Ev.step (fun k => by rw [f80.l3]) (Ev.neg (by omega) (Ev.ret _)), num_no s⟩
  | succ d ih =>
    intro i n hd hi hn
    by_cases hs : i < s.size
    case neg => exact ⟨_, Ev.step (fun k => by rw [f47.l4]) (Ev.neg (by omega) (Ev.ret _)), Ev.step (fun k => by rw [f80.l3]) (Ev.neg (by omega) (Ev.ret _)), num_no s⟩
    obtain ⟨b0, b1⟩ := byteAt_b s (i : Int)
    have wb : IntKind.i64.wrap (byteAt s (i : Int)) = byteAt s (i : Int) := wr (by omega) (by omega)
    have w7 : IntKind.i64.wrap (7 * (i : Int)) = 7 * (i : Int) := wr (by omega) (by omega)
    have w1 : IntKind.i64.wrap ((i : Int) + 1) = ((i + 1 : Nat) : Int) := by rw [wr (by omega) (by omega)]; omega
    obtain ⟨c, hc, ec⟩ : ∃ c : Nat, c < 128 ∧ (byteAt s (i : Int)).tmod 128 = (c : Int) := by
      rw [Int.tmod_eq_emod_of_nonneg b0]
      exact ⟨(byteAt s (i : Int) % 128).toNat, by omega, by omega⟩
    obtain ⟨eo, lo, hp⟩ := or_shl n c i (by omega) hn hc
    obtain ⟨p, ep⟩ : ∃ p : Nat, p = 2 ^ (7 * i) := ⟨_, rfl⟩
    have hq : 2 ^ (7 * (i + 1)) = 128 * p := by rw [show 7 * (i + 1) = 7 + 7 * i by omega, Nat.pow_add, ep]
    rw [← ep] at eo lo hp hn ⊢
    have hcp : c * p ≤ 127 * p := Nat.mul_le_mul_right _ (by omega)
    have es : IntKind.i64.wrap ((n : Int) + IntKind.i64.wrap ((c : Int) * (p : Int))) = ((n + c * p : Nat) : Int) := by
      rw [show (c : Int) * (p : Int) = ((c * p : Nat) : Int) by rw [Int.natCast_mul], wr (n := ((c * p : Nat) : Int)) (by omega) (by omega), wr (by omega) (by omega)]
      omega
    have ep2 : IntKind.i64.wrap ((p : Int) * 128) = ((2 ^ (7 * (i + 1)) : Nat) : Int) := by rw [wr (by omega) (by omega), hq]; omega
    by_cases h1 : byteAt s (i : Int) < 128
    · by_cases hz : byteAt s (i : Int) = 0 ∧ 0 < (i : Int)
      · refine ⟨_, Ev.step (fun k => by rw [f47.l4]) (Ev.pos (by omega) (Ev.pos (by omega) (Ev.pos (by omega) ?_))), Ev.step (fun k => by rw [f80.l3]) (Ev.pos (by omega) (Ev.pos (by omega) (Ev.pos (by omega) (Ev.pos (by omega) ?_)))), num_no s⟩
        · rw [wb]; exact Ev.pos h1 (Ev.pos hz.1 (Ev.pos hz.2 (Ev.ret _)))
        · rw [wb]; exact Ev.neg (by omega) (Ev.pos hz.1 (Ev.pos hz.2 (Ev.ret _)))
      · by_cases hm : n + c * p ≤ 1000000000000
        · refine ⟨(((n + c * p : Nat) : Int), s.extract (i + 1) s.size, true), Ev.step (fun k => by rw [f47.l4]) (Ev.pos (by omega) (Ev.pos (by omega) (Ev.pos (by omega) ?_))), Ev.step (fun k => by rw [f80.l3]) (Ev.pos (by omega) (Ev.pos (by omega) (Ev.pos (by omega) (Ev.pos (by omega) ?_)))), ⟨by omega, by show ((n + c * p : Nat) : Int) ≤ _; omega, by show (s.extract (i + 1) s.size).size ≤ _; rw [ByteArray.size_extract]; omega⟩⟩
          · rw [wb, ec, es, w1, Int.toNat_natCast]
            refine Ev.pos h1 ?_
            by_cases h0 : byteAt s (i : Int) = 0
            · exact Ev.pos h0 (Ev.neg (fun h => hz ⟨h0, h⟩) (Ev.neg (by omega) (Ev.pos (by omega) (Ev.pos (by omega) (Ev.ret _)))))
            · exact Ev.neg h0 (Ev.neg (by omega) (Ev.pos (by omega) (Ev.pos (by omega) (Ev.ret _))))
          · rw [wb, ec, eo, w1, Int.toNat_natCast]
            have hk := isNumber_ev ((n + c * p : Nat) : Int)
            rw [decide_eq_true (show (0 : Int) ≤ ((n + c * p : Nat) : Int) by omega), decide_eq_true (show ((n + c * p : Nat) : Int) ≤ 1000000000000 by omega)] at hk
            refine Ev.neg (by omega) ?_
            by_cases h0 : byteAt s (i : Int) = 0
            · exact Ev.pos h0 (Ev.neg (fun h => hz ⟨h0, h⟩) (Ev.bind hk (Ev.pos rfl (Ev.pos (by omega) (Ev.pos (by omega) (Ev.ret _))))))
            · exact Ev.neg h0 (Ev.bind hk (Ev.pos rfl (Ev.pos (by omega) (Ev.pos (by omega) (Ev.ret _)))))
        · refine ⟨_, Ev.step (fun k => by rw [f47.l4]) (Ev.pos (by omega) (Ev.pos (by omega) (Ev.pos (by omega) ?_))), Ev.step (fun k => by rw [f80.l3]) (Ev.pos (by omega) (Ev.pos (by omega) (Ev.pos (by omega) (Ev.pos (by omega) ?_)))), num_no s⟩
          · rw [wb, ec, es, w1, Int.toNat_natCast]
            refine Ev.pos h1 ?_
            by_cases h0 : byteAt s (i : Int) = 0
            · exact Ev.pos h0 (Ev.neg (fun h => hz ⟨h0, h⟩) (Ev.pos (by omega) (Ev.ret _)))
            · exact Ev.neg h0 (Ev.pos (by omega) (Ev.ret _))
          · rw [wb, ec, eo, w1, Int.toNat_natCast]
            have hk := isNumber_ev ((n + c * p : Nat) : Int)
            rw [decide_eq_true (show (0 : Int) ≤ ((n + c * p : Nat) : Int) by omega), decide_eq_false (show ¬ ((n + c * p : Nat) : Int) ≤ 1000000000000 by omega)] at hk
            refine Ev.neg (by omega) ?_
            by_cases h0 : byteAt s (i : Int) = 0
            · exact Ev.pos h0 (Ev.neg (fun h => hz ⟨h0, h⟩) (Ev.bind hk (Ev.neg (by simp) (Ev.ret _))))
            · exact Ev.neg h0 (Ev.bind hk (Ev.neg (by simp) (Ev.ret _)))
    · obtain ⟨r, r1, r2, ro⟩ := ih (i + 1) (n + c * p) (by omega) (by omega) lo
      refine ⟨r, Ev.step (fun k => by rw [f47.l4]) (Ev.pos (by omega) (Ev.pos (by omega) (Ev.pos (by omega) ?_))), Ev.step (fun k => by rw [f80.l3]) (Ev.pos (by omega) (Ev.pos (by omega) (Ev.pos (by omega) (Ev.pos (by omega) ?_)))), ro⟩
      · rw [wb, ec, es, w1, ep2]
        exact Ev.neg h1 r1
      · rw [wb, ec, eo, w1]
        exact Ev.pos (by omega) r2
theorem take_two (s : ByteArray) : ∃ r, Ev (fun k => f47 k s) r ∧ Ev (fun k => f80 k s) r ∧ NumOk s r := by
  unfold f47 f80
  exact take_loop s 6 0 0 rfl (by omega) (by decide)
theorem text_two (s : ByteArray) : ∃ r : ByteArray × ByteArray × Bool, Ev (fun k => f92 k s) r ∧ Ev (fun k => f98 k s) r := by
  unfold f92 f98
  obtain ⟨r, h1, h2, ⟨lo, hi, le⟩⟩ := take_two s
  cases hb : r.2.2 with
  | false => exact ⟨_, Ev.bind h1 (Ev.neg (by rw [hb]; simp) (Ev.ret _)), Ev.bind h2 (Ev.neg (by rw [hb]; simp) (Ev.ret _))⟩
  | true =>
    by_cases h3 : 20000 < r.1
    · exact ⟨_, Ev.bind h1 (Ev.pos hb (Ev.pos h3 (Ev.ret _))), Ev.bind h2 (Ev.pos hb (Ev.pos h3 (Ev.ret _)))⟩
    · by_cases h4 : (r.2.1.size : Int) < r.1
      · exact ⟨_, Ev.bind h1 (Ev.pos hb (Ev.neg h3 (Ev.pos h4 (Ev.ret _)))), Ev.bind h2 (Ev.pos hb (Ev.neg h3 (Ev.pos h4 (Ev.ret _))))⟩
      · exact ⟨_, Ev.bind h1 (Ev.pos hb (Ev.neg h3 (Ev.neg h4 (Ev.pos lo (Ev.pos (by omega) (Ev.ret _)))))), Ev.bind h2 (Ev.pos hb (Ev.neg h3 (Ev.neg h4 (Ev.pos lo (Ev.pos (by omega) (Ev.ret _))))))⟩
end Go.Proofs.YtopnfhlgaiocpaaGreat.P
namespace Go.Proofs.YtopnfhlgaiocpaaGreat.P
open Go Go.Proofs.YtopnfhlgaiocpaaGreat.PM Go.Proofs
theorem l1In_ev (n a b : Int) : Ev (fun k => f20 k n a b) (decide (a ≤ n) && decide (n ≤ b)) := by
  unfold f20
  by_cases h : a ≤ n
  · refine Ev.pos h (Ev.ret' ?_)
    rw [decide_eq_true h, Bool.true_and]
  · refine Ev.neg h (Ev.ret' ?_)
    rw [decide_eq_false h, Bool.false_and]
theorem in_ev (n a b : Int) : Ev (fun k => f57 k n a b) (decide (a ≤ n) && decide (n ≤ b)) := by
  unfold f57
  by_cases h : a ≤ n
  · refine Ev.pos h (Ev.ret' ?_)
    rw [decide_eq_true h, Bool.true_and]
  · refine Ev.neg h (Ev.ret' ?_)
    rw [decide_eq_false h, Bool.false_and]
theorem in_yes {n a b : Int} (h1 : a ≤ n) (h2 : n ≤ b) : Ev (fun k => f57 k n a b) true := (in_ev n a b).eq (by rw [decide_eq_true h1, decide_eq_true h2]; rfl)
theorem in_no {n a b : Int} (h : ¬ (a ≤ n ∧ n ≤ b)) : Ev (fun k => f57 k n a b) false := (in_ev n a b).eq (by
  by_cases h1 : a ≤ n
  · rw [decide_eq_false (fun h2 => h ⟨h1, h2⟩), Bool.and_false]
  · rw [decide_eq_false h1, Bool.false_and])
theorem l1In_yes {n a b : Int} (h1 : a ≤ n) (h2 : n ≤ b) : Ev (fun k => f20 k n a b) true := (l1In_ev n a b).eq (by rw [decide_eq_true h1, decide_eq_true h2]; rfl)
theorem l1In_no {n a b : Int} (h : ¬ (a ≤ n ∧ n ≤ b)) : Ev (fun k => f20 k n a b) false := (l1In_ev n a b).eq (by
  by_cases h1 : a ≤ n
  · rw [decide_eq_false (fun h2 => h ⟨h1, h2⟩), Bool.and_false]
  · rw [decide_eq_false h1, Bool.false_and])
structure FrOk (s : ByteArray) (r : Int × Int × List S88) : Prop where
  n : r.2.2.length ≤ s.size
theorem frames_loop (s : ByteArray) (hs : s.size ≤ 1073741824) (d : Nat) : ∀ (p : Nat) (q : List S88), s.size - p ≤ d → p ≤ s.size → q.length ≤ p → ∃ r, Ev (fun k => f46.l3 k q s (p : Int)) r ∧ Ev (fun k => f79.l3 k q s (p : Int)) r ∧ FrOk s r := by
  induction d with
  | zero =>
    intro p q hd hp hq
    have h0 : (s.extract p s.size).size = 0 := by rw [ByteArray.size_extract]; omega
    refine ⟨((p : Int), 0, q), Ev.step (fun k => by rw [f46.l3]) (Ev.neg (by omega) (Ev.ret _)), Ev.step (fun k => by rw [f79.l3]) ?_, ⟨by show q.length ≤ _; omega⟩⟩
    rw [Int.toNat_natCast]
    exact Ev.pos (by omega) (Ev.pos (by omega) (Ev.pos (by omega) (Ev.pos (by rw [bytesL_len]; omega) (Ev.ret _))))
  | succ d ih =>
    intro p q hd hp hq
    obtain ⟨t, ht⟩ : ∃ t, t = s.extract p s.size := ⟨_, rfl⟩
    have hz : t.size = s.size - p := by rw [ht, ByteArray.size_extract]; omega
    by_cases hpe : p = s.size
    · refine ⟨((p : Int), 0, q), Ev.step (fun k => by rw [f46.l3]) (Ev.neg (by omega) (Ev.ret _)), Ev.step (fun k => by rw [f79.l3]) ?_, ⟨by show q.length ≤ _; omega⟩⟩
      rw [Int.toNat_natCast, ← ht]
      exact Ev.pos (by omega) (Ev.pos (by omega) (Ev.pos (by omega) (Ev.pos (by rw [bytesL_len]; omega) (Ev.ret _))))
    have hl := bytesL_len t
    by_cases hm : (q.length : Int) = 2000
    · refine ⟨((p : Int), 5, q), Ev.step (fun k => by rw [f46.l3]) (Ev.pos (by omega) (Ev.pos hm (Ev.ret _))), Ev.step (fun k => by rw [f79.l3]) ?_, ⟨by show q.length ≤ _; omega⟩⟩
      rw [Int.toNat_natCast, ← ht]
      exact Ev.pos (by omega) (Ev.pos (by omega) (Ev.pos (by omega) (Ev.neg (by rw [hl]; omega) (Ev.pos hm (Ev.ret _)))))
    obtain ⟨b0, b1⟩ := byteAt_b t 0
    have hb : at' (bytesL t) 0 = byteAt t 0 := bytesL_at t 0 (by omega)
    have wb : IntKind.i64.wrap (byteAt t 0) = byteAt t 0 := wr (by omega) (by omega)
    have err (c : Int) (hc : c ≠ 0) (h : Ev (fun k => f71 k t) (0, (⟨#[]⟩ : ByteArray), 0, c)) : Ev (fun k => f46.l3 k q s (p : Int)) ((p : Int), c, q) := by
      refine Ev.step (fun k => by rw [f46.l3]) (Ev.pos (by omega) (Ev.neg hm (Ev.pos (by omega) (Ev.pos (by omega) ?_))))
      rw [Int.toNat_natCast, ← ht]
      exact Ev.bind h (Ev.neg hc (Ev.ret _))
    by_cases hk : 1 ≤ byteAt t 0 ∧ byteAt t 0 ≤ 100
    case neg =>
      refine ⟨((p : Int), 2, q), err 2 (by decide) ?_, Ev.step (fun k => by rw [f79.l3]) ?_, ⟨by show q.length ≤ _; omega⟩⟩
      · unfold f71
        refine Ev.pos (by omega) ?_
        rw [wb]
        exact Ev.bind (l1In_no hk) (Ev.neg (by simp) (Ev.ret _))
      · rw [Int.toNat_natCast, ← ht, hb]
        refine Ev.pos (by omega) (Ev.pos (by omega) (Ev.pos (by omega) (Ev.neg (by rw [hl]; omega) (Ev.neg hm (Ev.pos (by rw [hl]; omega) ?_)))))
        by_cases h1 : byteAt t 0 < 1
        · exact Ev.pos h1 (Ev.ret _)
        · exact Ev.neg h1 (Ev.pos (by omega) (Ev.ret _))
    have hin : Ev (fun k => f20 k (IntKind.i64.wrap (byteAt t 0)) 1 100) true := by rw [wb]; exact l1In_yes hk.1 hk.2
    by_cases h5 : t.size < 5
    · refine ⟨((p : Int), 1, q), err 1 (by decide) ?_, Ev.step (fun k => by rw [f79.l3]) ?_, ⟨by show q.length ≤ _; omega⟩⟩
      · unfold f71
        exact Ev.pos (by omega) (Ev.bind hin (Ev.pos rfl (Ev.pos (by omega) (Ev.ret _))))
      · rw [Int.toNat_natCast, ← ht, hb]
        exact Ev.pos (by omega) (Ev.pos (by omega) (Ev.pos (by omega) (Ev.neg (by rw [hl]; omega) (Ev.neg hm (Ev.pos (by rw [hl]; omega) (Ev.neg (by omega) (Ev.neg (by omega) (Ev.pos (by rw [hl]; omega) (Ev.ret _)))))))))
    have hw1 : Ev (fun k => f91 k (t.extract 1 5)) (word4 t 1) := l2Word_ev t 1 5 rfl (by omega)
    have hw2 : Ev (fun k => f96 k (((bytesL t).drop 1).take ((bytesL t).length - 1))) (word4 t 1) := by rw [hl]; exact uint32_ev t 1 (by omega)
    obtain ⟨w0, w1⟩ := word4_b t 1
    obtain ⟨w, hw⟩ : ∃ w : Nat, word4 t 1 = (w : Int) := ⟨(word4 t 1).toNat, by omega⟩
    rw [hw] at hw1 hw2 w0 w1
    have ww : IntKind.i64.wrap (w : Int) = (w : Int) := wr (by omega) (by omega)
    have w9 : IntKind.i64.wrap (9 + (w : Int)) = ((9 + w : Nat) : Int) := by rw [wr (by omega) (by omega)]; omega
    have w5 : IntKind.i64.wrap (5 + (w : Int)) = ((5 + w : Nat) : Int) := by rw [wr (by omega) (by omega)]; omega
    have w54 : IntKind.i64.wrap (((5 + w : Nat) : Int) + 4) = ((9 + w : Nat) : Int) := by rw [wr (by omega) (by omega)]; omega
    have w94 : IntKind.i64.wrap (((9 + w : Nat) : Int) - 4) = ((5 + w : Nat) : Int) := by rw [wr (by omega) (by omega)]; omega
    by_cases hL : 20000 < (w : Int)
    · refine ⟨((p : Int), 3, q), err 3 (by decide) ?_, Ev.step (fun k => by rw [f79.l3]) ?_, ⟨by show q.length ≤ _; omega⟩⟩
      · unfold f71
        exact Ev.pos (by omega) (Ev.bind hin (Ev.pos rfl (Ev.neg (by omega) (Ev.pos (by omega) (Ev.bind hw1 (Ev.pos hL (Ev.ret _)))))))
      · rw [Int.toNat_natCast, ← ht, hb]
        exact Ev.pos (by omega) (Ev.pos (by omega) (Ev.pos (by omega) (Ev.neg (by rw [hl]; omega) (Ev.neg hm (Ev.pos (by rw [hl]; omega) (Ev.neg (by omega) (Ev.neg (by omega) (Ev.neg (by rw [hl]; omega) (Ev.pos (by rw [hl]; omega) (Ev.pos (by rw [hl]; omega) (Ev.bind hw2 (Ev.pos hL (Ev.ret _)))))))))))))
    by_cases hS : t.size < 9 + w
    · refine ⟨((p : Int), 1, q), err 1 (by decide) ?_, Ev.step (fun k => by rw [f79.l3]) ?_, ⟨by show q.length ≤ _; omega⟩⟩
      · unfold f71
        refine Ev.pos (by omega) (Ev.bind hin (Ev.pos rfl (Ev.neg (by omega) (Ev.pos (by omega) (Ev.bind hw1 (Ev.neg hL ?_))))))
        rw [ww, w9]
        exact Ev.pos (by omega) (Ev.ret _)
      · rw [Int.toNat_natCast, ← ht, hb]
        refine Ev.pos (by omega) (Ev.pos (by omega) (Ev.pos (by omega) (Ev.neg (by rw [hl]; omega) (Ev.neg hm (Ev.pos (by rw [hl]; omega) (Ev.neg (by omega) (Ev.neg (by omega) (Ev.neg (by rw [hl]; omega) (Ev.pos (by rw [hl]; omega) (Ev.pos (by rw [hl]; omega) (Ev.bind hw2 (Ev.neg hL ?_))))))))))))
        rw [ww, w5, w54]
        exact Ev.pos (by rw [hl]; omega) (Ev.ret _)
    obtain ⟨cr, c1, c2⟩ := crc_two (t.extract 0 (5 + w)) (by rw [ByteArray.size_extract]; omega)
    have hv1 : Ev (fun k => f91 k (t.extract (5 + w) (9 + w))) (word4 t (5 + w)) := l2Word_ev t (5 + w) (9 + w) (by omega) (by omega)
    have hv2 : Ev (fun k => f96 k (((bytesL t).drop (5 + w)).take ((bytesL t).length - (5 + w)))) (word4 t (5 + w)) := by rw [hl]; exact uint32_ev t (5 + w) (by omega)
    have hfz : (t.extract 0 (5 + w)).size = 5 + w := by rw [ByteArray.size_extract]; omega
    by_cases hC : word4 t (5 + w) = cr
    case neg =>
      refine ⟨((p : Int), 4, q), err 4 (by decide) ?_, Ev.step (fun k => by rw [f79.l3]) ?_, ⟨by show q.length ≤ _; omega⟩⟩
      · unfold f71
        refine Ev.pos (by omega) (Ev.bind hin (Ev.pos rfl (Ev.neg (by omega) (Ev.pos (by omega) (Ev.bind hw1 (Ev.neg hL ?_))))))
        rw [ww, w9, w94, Int.toNat_natCast, Int.toNat_natCast]
        exact Ev.neg (by omega) (Ev.pos (by omega) (Ev.pos (by omega) (Ev.pos (by omega) (Ev.pos (by omega) (Ev.bind hv1 (Ev.pos (by omega) (Ev.bind c1 (Ev.neg hC (Ev.ret _)))))))))
      · rw [Int.toNat_natCast, ← ht, hb]
        refine Ev.pos (by omega) (Ev.pos (by omega) (Ev.pos (by omega) (Ev.neg (by rw [hl]; omega) (Ev.neg hm (Ev.pos (by rw [hl]; omega) (Ev.neg (by omega) (Ev.neg (by omega) (Ev.neg (by rw [hl]; omega) (Ev.pos (by rw [hl]; omega) (Ev.pos (by rw [hl]; omega) (Ev.bind hw2 (Ev.neg hL ?_))))))))))))
        rw [ww, w5, w54, Int.toNat_natCast, strOf_take]
        exact Ev.neg (by rw [hl]; omega) (Ev.pos (by omega) (Ev.pos (by rw [hl]; omega) (Ev.pos (by rw [hl]; omega) (Ev.bind hv2 (Ev.bind c2 (Ev.neg hC (Ev.ret _)))))))
    have wn1 : IntKind.i64.wrap ((p : Int) + ((9 + w : Nat) : Int)) = ((p + (9 + w) : Nat) : Int) := by rw [wr (by omega) (by omega)]; omega
    have eb : (t.extract 0 (5 + w)).extract 5 (5 + w) = t.extract 5 (5 + w) := cut_cut t 5 (5 + w) (by omega)
    obtain ⟨r, r1, r2, ro⟩ := ih (p + (9 + w)) (q ++ [(⟨byteAt t 0, t.extract 5 (5 + w)⟩ : S88)]) (by omega) (by omega) (by rw [List.length_append, List.length_singleton]; omega)
    refine ⟨r, ?_, Ev.step (fun k => by rw [f79.l3]) ?_, ro⟩
    · have hf : Ev (fun k => f71 k t) (byteAt t 0, t.extract 5 (5 + w), ((9 + w : Nat) : Int), 0) := by
        unfold f71
        refine Ev.pos (by omega) (Ev.bind hin (Ev.pos rfl (Ev.neg (by omega) (Ev.pos (by omega) (Ev.bind hw1 (Ev.neg hL ?_))))))
        rw [ww, w9, w94, wb, Int.toNat_natCast, Int.toNat_natCast]
        exact Ev.neg (by omega) (Ev.pos (by omega) (Ev.pos (by omega) (Ev.pos (by omega) (Ev.pos (by omega) (Ev.bind hv1 (Ev.pos (by omega) (Ev.bind c1 (Ev.pos hC (Ev.pos (by omega) (Ev.ret _))))))))))
      refine Ev.step (fun k => by rw [f46.l3]) (Ev.pos (by omega) (Ev.neg hm (Ev.pos (by omega) (Ev.pos (by omega) ?_))))
      rw [Int.toNat_natCast, ← ht]
      refine Ev.bind hf (Ev.pos rfl (Ev.pos (by omega) (Ev.pos (by omega) ?_)))
      show Ev (fun k => f46.l3 k _ s (IntKind.i64.wrap ((p : Int) + ((9 + w : Nat) : Int)))) r
      rw [wn1]
      exact r1
    · rw [Int.toNat_natCast, ← ht, hb]
      refine Ev.pos (by omega) (Ev.pos (by omega) (Ev.pos (by omega) (Ev.neg (by rw [hl]; omega) (Ev.neg hm (Ev.pos (by rw [hl]; omega) (Ev.neg (by omega) (Ev.neg (by omega) (Ev.neg (by rw [hl]; omega) (Ev.pos (by rw [hl]; omega) (Ev.pos (by rw [hl]; omega) (Ev.bind hw2 (Ev.neg hL ?_))))))))))))
      rw [ww, w5, w54, Int.toNat_natCast, strOf_take]
      refine Ev.neg (by rw [hl]; omega) (Ev.pos (by omega) (Ev.pos (by rw [hl]; omega) (Ev.pos (by rw [hl]; omega) (Ev.bind hv2 (Ev.bind c2 (Ev.pos hC ?_))))))
      rw [hfz, eb, wb, wn1]
      exact Ev.pos (by omega) (Ev.pos (by omega) (Ev.pos (by omega) r2))
theorem frames_two (s : ByteArray) (hs : s.size ≤ 1073741824) : ∃ r, Ev (fun k => f46 k s) r ∧ Ev (fun k => f79 k s) r ∧ FrOk s r := by
  unfold f46 f79
  exact frames_loop s hs s.size 0 [] (by omega) (Nat.zero_le _) (Nat.le_refl _)
end Go.Proofs.YtopnfhlgaiocpaaGreat.P
namespace Go.Proofs.YtopnfhlgaiocpaaGreat.P
open Go Go.Proofs.YtopnfhlgaiocpaaGreat.PM Go.Proofs
def entB (t k : Int) (b : ByteArray) : Bool := (decide (1 ≤ t) && decide (t ≤ 1000000000000)) && ((decide (0 ≤ k) && decide (k ≤ 9)) && decide ((b.size : Int) ≤ 4000))
theorem entB_said {t k : Int} {b : ByteArray} (h : entB t k b = true) : (1 ≤ t ∧ t ≤ 1000000000000) ∧ (0 ≤ k ∧ k ≤ 9) ∧ (b.size : Int) ≤ 4000 := by
  unfold entB at h
  simp only [Bool.and_eq_true, decide_eq_true_eq] at h
  exact ⟨h.1, h.2.1, h.2.2⟩
theorem l5Entry_ev (t k : Int) (b : ByteArray) : Ev (fun q => f49 q t k b) (entB t k b) := by
  unfold f49 entB
  refine Ev.bind (l1In_ev t 1 1000000000000) ?_
  cases decide (1 ≤ t) && decide (t ≤ 1000000000000) with
  | false => exact Ev.neg (by simp) (Ev.ret _)
  | true =>
    refine Ev.pos rfl (Ev.bind (l1In_ev k 0 9) ?_)
    cases decide (0 ≤ k) && decide (k ≤ 9) with
    | false => exact Ev.neg (by simp) (Ev.ret _)
    | true => exact Ev.pos rfl (Ev.ret _)
theorem isEntry_ev (t k : Int) (b : ByteArray) : Ev (fun q => f84 q t k b) (entB t k b) := by
  unfold f84 entB
  refine Ev.bind (in_ev t 1 1000000000000) ?_
  cases decide (1 ≤ t) && decide (t ≤ 1000000000000) with
  | false => exact Ev.neg (by simp) (Ev.ret _)
  | true =>
    refine Ev.pos rfl (Ev.bind (in_ev k 0 9) ?_)
    cases decide (0 ≤ k) && decide (k ≤ 9) with
    | false => exact Ev.neg (by simp) (Ev.ret _)
    | true => exact Ev.pos rfl (Ev.ret _)
abbrev EnR := Int × Int × ByteArray × Bool
def entI (r : EnR) : EnR := if r.2.2.2 = true then (r.1, r.2.1, r.2.2.1, true) else (0, 0, (⟨#[]⟩ : ByteArray), false)
theorem entry_two (kd : Int) (s : ByteArray) : ∃ r : EnR, Ev (fun k => f72 k kd s) r ∧ Ev (fun k => f81 k kd s) (entI r) ∧ (r.2.2.2 = true → entB r.1 r.2.1 r.2.2.1 = true) := by
  obtain ⟨a, a1, a2, _⟩ := take_two s
  obtain ⟨b, b1, b2, _⟩ := take_two a.2.1
  obtain ⟨c, c1, c2⟩ := text_two b.2.1
  unfold f72 f81
  have no : ∀ {g f : Nat → Option EnR}, Ev g (a.1, b.1, c.1, false) → Ev f (0, 0, (⟨#[]⟩ : ByteArray), false) → ∃ r : EnR, Ev g r ∧ Ev f (entI r) ∧ (r.2.2.2 = true → entB r.1 r.2.1 r.2.2.1 = true) := fun h1 h2 => ⟨_, h1, h2, fun h => by cases h⟩
  by_cases h1 : kd = 2
  case neg => exact no (Ev.bind a1 (Ev.bind b1 (Ev.bind c1 (Ev.neg h1 (Ev.ret _))))) (Ev.bind a2 (Ev.bind b2 (Ev.bind c2 (Ev.neg h1 (Ev.ret _)))))
  by_cases h2 : a.2.2 = true
  case neg => exact no (Ev.bind a1 (Ev.bind b1 (Ev.bind c1 (Ev.pos h1 (Ev.neg h2 (Ev.ret _)))))) (Ev.bind a2 (Ev.bind b2 (Ev.bind c2 (Ev.pos h1 (Ev.neg h2 (Ev.ret _))))))
  by_cases h3 : b.2.2 = true
  case neg => exact no (Ev.bind a1 (Ev.bind b1 (Ev.bind c1 (Ev.pos h1 (Ev.pos h2 (Ev.neg h3 (Ev.ret _))))))) (Ev.bind a2 (Ev.bind b2 (Ev.bind c2 (Ev.pos h1 (Ev.pos h2 (Ev.neg h3 (Ev.ret _)))))))
  by_cases h4 : c.2.2 = true
  case neg => exact no (Ev.bind a1 (Ev.bind b1 (Ev.bind c1 (Ev.pos h1 (Ev.pos h2 (Ev.pos h3 (Ev.neg h4 (Ev.ret _)))))))) (Ev.bind a2 (Ev.bind b2 (Ev.bind c2 (Ev.pos h1 (Ev.pos h2 (Ev.pos h3 (Ev.neg h4 (Ev.ret _))))))))
  by_cases h5 : strEq c.2.1 (⟨#[]⟩ : ByteArray) = true
  case neg => exact no (Ev.bind a1 (Ev.bind b1 (Ev.bind c1 (Ev.pos h1 (Ev.pos h2 (Ev.pos h3 (Ev.pos h4 (Ev.neg h5 (Ev.ret _))))))))) (Ev.bind a2 (Ev.bind b2 (Ev.bind c2 (Ev.pos h1 (Ev.pos h2 (Ev.pos h3 (Ev.pos h4 (Ev.neg h5 (Ev.ret _)))))))))
  have e1 := l5Entry_ev a.1 b.1 c.1
  have e2 := isEntry_ev a.1 b.1 c.1
  cases hb : entB a.1 b.1 c.1 with
  | false =>
    rw [hb] at e1 e2
    exact no (Ev.bind a1 (Ev.bind b1 (Ev.bind c1 (Ev.pos h1 (Ev.pos h2 (Ev.pos h3 (Ev.pos h4 (Ev.pos h5 (Ev.bind e1 (Ev.ret _)))))))))) (Ev.bind a2 (Ev.bind b2 (Ev.bind c2 (Ev.pos h1 (Ev.pos h2 (Ev.pos h3 (Ev.pos h4 (Ev.pos h5 (Ev.bind e2 (Ev.neg (by simp) (Ev.ret _)))))))))))
  | true =>
    rw [hb] at e1 e2
    exact ⟨(a.1, b.1, c.1, true), Ev.bind a1 (Ev.bind b1 (Ev.bind c1 (Ev.pos h1 (Ev.pos h2 (Ev.pos h3 (Ev.pos h4 (Ev.pos h5 (Ev.bind e1 (Ev.ret _))))))))), Ev.bind a2 (Ev.bind b2 (Ev.bind c2 (Ev.pos h1 (Ev.pos h2 (Ev.pos h3 (Ev.pos h4 (Ev.pos h5 (Ev.bind e2 (Ev.pos rfl (Ev.ret _)))))))))), fun _ => hb⟩
theorem strOf_app (a b : List Int) : strOf (a ++ b) = strOf a ++ strOf b := by
  unfold strOf
  apply ByteArray.ext
  rw [ByteArray.data_append]
  simp
theorem strOf_bytes (s : ByteArray) : strOf (bytesL s) = s := by
  have h := strOf_take s s.size
  rwa [List.take_of_length_le (by rw [bytesL_len]; exact Nat.le_refl _), ByteArray.extract_zero_size] at h
theorem put_loop (d : Nat) : ∀ (n : Int) (q : List Int), 0 ≤ n → n ≤ 1000000000000 → n < 128 ^ (d + 1) → q.length + d ≤ 9 → ∃ r : ByteArray, Ev (fun k => f51.l4 k q n) r ∧ Ev (fun k => f89.l2 k q n) r ∧ r.size ≤ 10 := by
  induction d with
  | zero =>
    intro n q h0 hn h1 hq
    refine ⟨_, Ev.step (fun k => by rw [f51.l4]) (Ev.neg (by omega) (Ev.pos (by omega) (Ev.pos (by omega) (Ev.ret _)))), Ev.step (fun k => by rw [f89.l2]) (Ev.neg (by omega) (Ev.pos (by omega) (Ev.pos (by omega) (Ev.ret _)))), ?_⟩
    rw [strOf_size, List.length_append, List.length_singleton]; omega
  | succ d ih =>
    intro n q h0 hn h1 hq
    by_cases h : 128 ≤ n
    · have e : n.tdiv 128 = n / 128 := Int.tdiv_eq_ediv_of_nonneg h0
      have hp : (128 : Int) ^ (d + 1 + 1) = 128 ^ (d + 1) * 128 := Int.pow_succ 128 (d + 1)
      have hb : IntKind.i64.wrap (n.tdiv 128) = n / 128 := by
        rw [e]
        exact wr (by omega) (by omega)
      obtain ⟨r, r1, r2, rs⟩ := ih (n / 128) (q ++ [(IntKind.u8.wrap (IntKind.i64.wrap ((n.tmod 128) + 128)))]) (by omega) (by omega) (by omega) (by rw [List.length_append, List.length_singleton]; omega)
      rw [← hb] at r1 r2
      exact ⟨r, Ev.step (fun k => by rw [f51.l4]) (Ev.pos h (Ev.pos (by omega) (Ev.pos (by omega) r1))), Ev.step (fun k => by rw [f89.l2]) (Ev.pos h (Ev.pos (by omega) (Ev.pos (by omega) r2))), rs⟩
    · refine ⟨_, Ev.step (fun k => by rw [f51.l4]) (Ev.neg (by omega) (Ev.pos (by omega) (Ev.pos (by omega) (Ev.ret _)))), Ev.step (fun k => by rw [f89.l2]) (Ev.neg (by omega) (Ev.pos (by omega) (Ev.pos (by omega) (Ev.ret _)))), ?_⟩
      rw [strOf_size, List.length_append, List.length_singleton]; omega
theorem put_two (n : Int) (h0 : 0 ≤ n) (h1 : n ≤ 1000000000000) : ∃ r : ByteArray, Ev (fun k => f51 k n) r ∧ Ev (fun k => f89 k n) r ∧ r.size ≤ 10 := by
  obtain ⟨r, r1, r2, rs⟩ := put_loop 6 n [] h0 h1 (by omega) (by decide)
  refine ⟨r, ?_, ?_, rs⟩
  · unfold f51
    exact Ev.bind (l1In_yes h0 h1) (Ev.pos rfl r1)
  · unfold f89
    exact r2
theorem putText_ev (s : ByteArray) (hs : s.size ≤ 20000) : ∃ r : ByteArray, Ev (fun k => f52 k s) r ∧ r.size ≤ s.size + 10 := by
  unfold f52
  obtain ⟨r, r1, _, rs⟩ := put_two (s.size : Int) (by omega) (by omega)
  exact ⟨_, Ev.neg (by omega) (Ev.bind r1 (Ev.pos (by omega) (Ev.ret _))), by rw [ByteArray.size_append]; omega⟩
def four (n : Int) : List Int := [(IntKind.u8.wrap n), (IntKind.u8.wrap (shrI .u32 n 8)), (IntKind.u8.wrap (shrI .u32 n 16)), (IntKind.u8.wrap (shrI .u32 n 24))]
theorem four_ev (n : Int) : Ev (fun k => f73 k n) (strOf (four n)) := by unfold f73; exact Ev.ret _
theorem appendFour_ev (n : Int) (o : List Int) (ho : o.length ≤ 1073741824) : Ev (fun k => f101 k n o) (o ++ four n) := by
  unfold f101
  exact Ev.pos (by omega) (Ev.pos (by omega) (Ev.ret _))
theorem four_len (n : Int) : (four n).length = 4 := rfl
theorem frame_two (kd : Int) (s : ByteArray) (h1 : 1 ≤ kd) (h2 : kd ≤ 100) (hs : s.size ≤ 20000) : ∃ r : ByteArray, Ev (fun k => f50 k kd s) r ∧ Ev (fun k => f88 k kd s) r ∧ r.size ≤ 20009 := by
  unfold f50 f88
  obtain ⟨a, ha⟩ : ∃ a, a = four (IntKind.u32.wrap (s.size : Int)) := ⟨_, rfl⟩
  have al : a.length = 4 := by rw [ha]; rfl
  obtain ⟨t, ht⟩ : ∃ t, t = (strOf [(IntKind.u8.wrap kd)] ++ strOf a) ++ s := ⟨_, rfl⟩
  have hk : (strOf [(IntKind.u8.wrap kd)]).size = 1 := rfl
  have hz : t.size = s.size + 5 := by rw [ht, ByteArray.size_append, ByteArray.size_append, hk, strOf_size, al]; omega
  obtain ⟨c, c1, c2⟩ := crc_two t (by omega)
  have e1 := four_ev (IntKind.u32.wrap (s.size : Int))
  have e2 := appendFour_ev (IntKind.u32.wrap (s.size : Int)) [(IntKind.u8.wrap kd)] (by simp)
  rw [← ha] at e1 e2
  have et : strOf (([(IntKind.u8.wrap kd)] ++ a) ++ bytesL s) = t := by rw [strOf_app, strOf_app, strOf_bytes, ht]
  have e3 := appendFour_ev c (([(IntKind.u8.wrap kd)] ++ a) ++ bytesL s) (by rw [List.length_append, List.length_append, List.length_singleton, al, bytesL_len]; omega)
  refine ⟨t ++ strOf (four c), ?_, ?_, ?_⟩
  · refine Ev.bind (l1In_yes h1 h2) (Ev.pos rfl (Ev.neg (by omega) (Ev.bind e1 (Ev.pos (by rw [strOf_size, al]; omega) (Ev.pos (by rw [strOf_size, al]; omega) ?_)))))
    rw [← ht]
    exact Ev.bind c1 (Ev.bind (four_ev c) (Ev.pos (by rw [strOf_size, strOf_size, al, four_len]; omega) (Ev.ret _)))
  · refine Ev.bind (in_yes h1 h2) (Ev.pos rfl (Ev.neg (by omega) (Ev.bind e2 (Ev.pos (by rw [List.length_append, List.length_singleton, al, bytesL_len]; omega) (Ev.pos (by rw [List.length_append, List.length_singleton, al, bytesL_len]; omega) ?_)))))
    rw [et]
    refine Ev.bind c2 (Ev.bind e3 (Ev.ret' ?_))
    rw [strOf_app, et]
  · rw [ByteArray.size_append, strOf_size, four_len, hz]; omega
theorem entryText_ev (t k : Int) (b : ByteArray) (h : entB t k b = true) : ∃ r : ByteArray, Ev (fun q => f25 q t k b) r := by
  obtain ⟨⟨t0, t1⟩, ⟨k0, k1⟩, hb⟩ := entB_said h
  have he := l5Entry_ev t k b
  rw [h] at he
  obtain ⟨x, x1, _, xs⟩ := put_two t (by omega) t1
  obtain ⟨y, y1, _, ys⟩ := put_two k k0 (by omega)
  obtain ⟨z, z1, zs⟩ := putText_ev b (by omega)
  obtain ⟨r, r1, _, _⟩ := frame_two 2 ((x ++ y) ++ z) (by decide) (by decide) (by rw [ByteArray.size_append, ByteArray.size_append]; omega)
  unfold f25
  exact ⟨r, Ev.bind he (Ev.pos rfl (Ev.bind x1 (Ev.bind y1 (Ev.pos (by omega) (Ev.bind z1 (Ev.pos (by omega) (Ev.bind r1 (Ev.ret _))))))))⟩
end Go.Proofs.YtopnfhlgaiocpaaGreat.P
namespace Go.Proofs.YtopnfhlgaiocpaaGreat.P
open Go Go.Proofs.YtopnfhlgaiocpaaGreat.PM Go.Proofs
theorem ev_det {α : Type} {g : Nat → Option α} {a b : α} (h : Ev g a) (h' : Ev g b) : a = b := by
  obtain ⟨K, h⟩ := h
  obtain ⟨L, h'⟩ := h'
  exact Option.some.inj ((h (max K L) (by omega)).symm.trans (h' (max K L) (by omega)))
theorem u8_w (n : Int) : IntKind.u8.wrap n = n % 256 := by simp [IntKind.wrap, IntKind.signed, IntKind.bits]
theorem bytesL_drop (s : ByteArray) (i : Nat) (h : i < s.size) : (bytesL s).drop i = byteAt s (i : Int) :: (bytesL s).drop (i + 1) := by
  rw [List.drop_eq_getElem_cons (by rw [bytesL_len]; exact h), ← bytesL_at s i h, at_nat _ i (by rw [bytesL_len]; exact h)]
theorem can_loop (s : ByteArray) (d : Nat) : ∀ (i n : Nat), 6 - i = d → i ≤ 6 → n < 2 ^ (7 * i) → ∃ r : Int × ByteArray × Bool, Ev (fun k => f47.l4 k s (n : Int) ((2 ^ (7 * i) : Nat) : Int) (i : Int)) r ∧
    (r.2.2 = true → ∃ V m : Nat, r.1 = ((n + V * 2 ^ (7 * i) : Nat) : Int) ∧ i ≤ m ∧ m < s.size ∧ r.2.1 = s.extract (m + 1) s.size ∧ (0 < i → 0 < V) ∧ V < 128 ^ d ∧ ∀ q : List Int, q.length ≤ 1000 + i → Ev (fun k => f51.l4 k q (V : Int)) (strOf (q ++ ((bytesL s).drop i).take (m + 1 - i)))) := by
  induction d with
  | zero =>
    intro i n hd hi hn
    by_cases hs : i < s.size
    · exact ⟨(0, (⟨#[]⟩ : ByteArray), false), Ev.step (fun k => by rw [f47.l4]) (Ev.pos (by omega) (Ev.neg (by omega) (Ev.ret _))), fun h => by cases h⟩
    · exact ⟨(0, (⟨#[]⟩ : ByteArray), false), Ev.step (fun k => by rw [f47.l4]) (Ev.neg (by omega) (Ev.ret _)), fun h => by cases h⟩
  | succ d ih =>
    intro i n hd hi hn
    by_cases hs : i < s.size
    case neg => exact ⟨(0, (⟨#[]⟩ : ByteArray), false), Ev.step (fun k => by rw [f47.l4]) (Ev.neg (by omega) (Ev.ret _)), fun h => by cases h⟩
    obtain ⟨b0, b1⟩ := byteAt_b s (i : Int)
    have wb : IntKind.i64.wrap (byteAt s (i : Int)) = byteAt s (i : Int) := wr (by omega) (by omega)
    have w1 : IntKind.i64.wrap ((i : Int) + 1) = ((i + 1 : Nat) : Int) := by rw [wr (by omega) (by omega)]; omega
    obtain ⟨c, hc, ec, eb⟩ : ∃ c : Nat, c < 128 ∧ (byteAt s (i : Int)).tmod 128 = (c : Int) ∧ (c : Int) = byteAt s (i : Int) % 128 := by
      rw [Int.tmod_eq_emod_of_nonneg b0]
      exact ⟨(byteAt s (i : Int) % 128).toNat, by omega, by omega, by omega⟩
    obtain ⟨_, lo, hp⟩ := or_shl n c i (by omega) hn hc
    obtain ⟨p, ep⟩ : ∃ p : Nat, p = 2 ^ (7 * i) := ⟨_, rfl⟩
    have hq : 2 ^ (7 * (i + 1)) = 128 * p := by rw [show 7 * (i + 1) = 7 + 7 * i by omega, Nat.pow_add, ep]
    rw [← ep] at lo hp hn ⊢
    have hcp : c * p ≤ 127 * p := Nat.mul_le_mul_right _ (by omega)
    have es : IntKind.i64.wrap ((n : Int) + IntKind.i64.wrap ((c : Int) * (p : Int))) = ((n + c * p : Nat) : Int) := by
      rw [show (c : Int) * (p : Int) = ((c * p : Nat) : Int) by rw [Int.natCast_mul], wr (n := ((c * p : Nat) : Int)) (by omega) (by omega), wr (by omega) (by omega)]
      omega
    have ep2 : IntKind.i64.wrap ((p : Int) * 128) = ((2 ^ (7 * (i + 1)) : Nat) : Int) := by rw [wr (by omega) (by omega), hq]; omega
    have hd6 : 128 ^ (d + 1) ≤ 128 ^ 6 := Nat.pow_le_pow_right (by omega) (by omega)
    have hd6' : 128 ^ (d + 1) ≤ 4398046511104 := hd6
    have hds : 128 ^ (d + 1) = 128 ^ d * 128 := Nat.pow_succ ..
    have hdp : 1 ≤ 128 ^ d := Nat.one_le_pow _ _ (by omega)
    by_cases h1 : byteAt s (i : Int) < 128
    · by_cases hz : byteAt s (i : Int) = 0 ∧ 0 < (i : Int)
      · refine ⟨(0, (⟨#[]⟩ : ByteArray), false), Ev.step (fun k => by rw [f47.l4]) (Ev.pos (by omega) (Ev.pos (by omega) (Ev.pos (by omega) ?_))), fun h => by cases h⟩
        rw [wb]; exact Ev.pos h1 (Ev.pos hz.1 (Ev.pos hz.2 (Ev.ret _)))
      · by_cases hm : n + c * p ≤ 1000000000000
        · refine ⟨(((n + c * p : Nat) : Int), s.extract (i + 1) s.size, true), Ev.step (fun k => by rw [f47.l4]) (Ev.pos (by omega) (Ev.pos (by omega) (Ev.pos (by omega) ?_))), fun _ => ⟨c, i, rfl, Nat.le_refl _, hs, rfl, fun h0 => ?_, by omega, fun q hql => ?_⟩⟩
          · rw [wb, ec, es, w1, Int.toNat_natCast]
            refine Ev.pos h1 ?_
            by_cases h0 : byteAt s (i : Int) = 0
            · exact Ev.pos h0 (Ev.neg (fun h => hz ⟨h0, h⟩) (Ev.neg (by omega) (Ev.pos (by omega) (Ev.pos (by omega) (Ev.ret _)))))
            · exact Ev.neg h0 (Ev.neg (by omega) (Ev.pos (by omega) (Ev.pos (by omega) (Ev.ret _))))
          · have : ¬ byteAt s (i : Int) = 0 := fun h => hz ⟨h, by omega⟩
            omega
          · refine Ev.step (fun k => by rw [f51.l4]) (Ev.neg (by omega) (Ev.pos (by omega) (Ev.pos (by omega) (Ev.ret' ?_))))
            rw [bytesL_drop s i hs, show i + 1 - i = 0 + 1 by omega, List.take_succ_cons, List.take_zero, u8_w, show (c : Int) % 256 = byteAt s (i : Int) by omega]
        · refine ⟨(0, (⟨#[]⟩ : ByteArray), false), Ev.step (fun k => by rw [f47.l4]) (Ev.pos (by omega) (Ev.pos (by omega) (Ev.pos (by omega) ?_))), fun h => by cases h⟩
          rw [wb, ec, es, w1, Int.toNat_natCast]
          refine Ev.pos h1 ?_
          by_cases h0 : byteAt s (i : Int) = 0
          · exact Ev.pos h0 (Ev.neg (fun h => hz ⟨h0, h⟩) (Ev.pos (by omega) (Ev.ret _)))
          · exact Ev.neg h0 (Ev.pos (by omega) (Ev.ret _))
    · obtain ⟨r, r1, ro⟩ := ih (i + 1) (n + c * p) (by omega) (by omega) lo
      refine ⟨r, Ev.step (fun k => by rw [f47.l4]) (Ev.pos (by omega) (Ev.pos (by omega) (Ev.pos (by omega) ?_))), fun hr => ?_⟩
      · rw [wb, ec, es, w1, ep2]
        exact Ev.neg h1 r1
      · obtain ⟨V, m, e1, hm, hms, e2, hV, hVd, hput⟩ := ro hr
        have hV0 := hV (by omega)
        refine ⟨c + V * 128, m, ?_, by omega, hms, e2, fun _ => by omega, by omega, fun q hql => ?_⟩
        · rw [e1, hq, Nat.add_mul, Nat.mul_assoc, Nat.add_assoc]
        · have t1 : ((c + V * 128 : Nat) : Int).tmod 128 = (c : Int) := by rw [Int.tmod_eq_emod_of_nonneg (by omega)]; omega
          have t2 : IntKind.i64.wrap (((c + V * 128 : Nat) : Int).tdiv 128) = (V : Int) := by rw [Int.tdiv_eq_ediv_of_nonneg (by omega), wr (by omega) (by omega)]; omega
          refine Ev.step (fun k => by rw [f51.l4]) (Ev.pos (by omega) (Ev.pos (by omega) (Ev.pos (by omega) ?_)))
          rw [t1, t2, wr (n := (c : Int) + 128) (by omega) (by omega), u8_w, show ((c : Int) + 128) % 256 = byteAt s (i : Int) by omega]
          have := hput (q ++ [byteAt s (i : Int)]) (by rw [List.length_append, List.length_singleton]; omega)
          rw [bytesL_drop s i hs, show m + 1 - i = (m + 1 - (i + 1)) + 1 by omega, List.take_succ_cons]
          rwa [List.append_assoc, List.singleton_append] at this
theorem join_cut (s : ByteArray) {a b c : Nat} (h1 : a ≤ b) (h2 : b ≤ c) : s.extract a b ++ s.extract b c = s.extract a c := by
  rw [ByteArray.extract_append_extract]
  congr 1 <;> omega
theorem take_said {s : ByteArray} {r : Int × ByteArray × Bool} (h : Ev (fun k => f47 k s) r) (hr : r.2.2 = true) : ∃ p : ByteArray, Ev (fun k => f51 k r.1) p ∧ p ++ r.2.1 = s := by
  obtain ⟨x, x1, _, xo⟩ := take_two s
  obtain rfl := ev_det h x1
  obtain ⟨y, y1, yo⟩ := can_loop s 6 0 0 rfl (by omega) (by decide)
  have e : r = y := ev_det h (by unfold f47; exact y1)
  rw [← e] at yo
  obtain ⟨V, m, e1, hm, hms, e2, _, _, hput⟩ := yo hr
  have hp := hput [] (Nat.zero_le _)
  rw [List.nil_append, List.drop_zero, Nat.sub_zero, strOf_take] at hp
  have ev : r.1 = (V : Int) := by rw [e1]; simp
  refine ⟨s.extract 0 (m + 1), ?_, ?_⟩
  · unfold f51
    refine Ev.bind (l1In_yes xo.lo xo.hi) (Ev.pos rfl ?_)
    rw [ev]
    exact hp
  · rw [e2, join_cut s (Nat.zero_le _) (by omega), ByteArray.extract_zero_size]
theorem text_said {s : ByteArray} {r : ByteArray × ByteArray × Bool} (h : Ev (fun k => f92 k s) r) (hr : r.2.2 = true) : ∃ p : ByteArray, Ev (fun k => f52 k r.1) p ∧ p ++ r.2.1 = s := by
  obtain ⟨x, x1, _, xo⟩ := take_two s
  cases hb : x.2.2 with
  | false =>
    have := ev_det h (show Ev (fun k => f92 k s) (_, _, false) by unfold f92; exact Ev.bind x1 (Ev.neg (by rw [hb]; simp) (Ev.ret _)))
    rw [this] at hr
    cases hr
  | true =>
    by_cases h3 : 20000 < x.1
    · have := ev_det h (show Ev (fun k => f92 k s) (_, _, false) by unfold f92; exact Ev.bind x1 (Ev.pos hb (Ev.pos h3 (Ev.ret _))))
      rw [this] at hr
      cases hr
    · by_cases h4 : (x.2.1.size : Int) < x.1
      · have := ev_det h (show Ev (fun k => f92 k s) (_, _, false) by unfold f92; exact Ev.bind x1 (Ev.pos hb (Ev.neg h3 (Ev.pos h4 (Ev.ret _)))))
        rw [this] at hr
        cases hr
      · have lo := xo.lo
        have := ev_det h (show Ev (fun k => f92 k s) (x.2.1.extract 0 x.1.toNat, x.2.1.extract x.1.toNat x.2.1.size, true) by unfold f92; exact Ev.bind x1 (Ev.pos hb (Ev.neg h3 (Ev.neg h4 (Ev.pos lo (Ev.pos (by omega) (Ev.ret _)))))))
        obtain ⟨p, p1, p2⟩ := take_said x1 hb
        rw [this]
        have hz : (x.2.1.extract 0 x.1.toNat).size = x.1.toNat := by rw [ByteArray.size_extract]; omega
        obtain ⟨p', p1', _, ps⟩ := put_two x.1 lo (by omega)
        obtain rfl := ev_det p1 p1'
        refine ⟨p ++ x.2.1.extract 0 x.1.toNat, ?_, ?_⟩
        · unfold f52
          show Ev (fun k => if 20000 < ((x.2.1.extract 0 x.1.toNat).size : Int) then _ else _) _
          refine Ev.neg (by rw [hz]; omega) ?_
          rw [hz, show ((x.1.toNat : Nat) : Int) = x.1 by omega]
          exact Ev.bind p1 (Ev.pos (by omega) (Ev.ret _))
        · show p ++ x.2.1.extract 0 x.1.toNat ++ x.2.1.extract x.1.toNat x.2.1.size = s
          rw [ByteArray.append_assoc, join_cut _ (Nat.zero_le _) (by omega), ByteArray.extract_zero_size]
          exact p2
theorem entry_said {kd : Int} {s : ByteArray} {r : EnR} (hs : s.size ≤ 20000) (h : Ev (fun k => f72 k kd s) r) (hr : r.2.2.2 = true) : kd = 2 ∧ ∃ w : ByteArray, Ev (fun k => f25 k r.1 r.2.1 r.2.2.1) w ∧ Ev (fun k => f50 k kd s) w := by
  obtain ⟨a, a1, _, _⟩ := take_two s
  obtain ⟨b, b1, _, _⟩ := take_two a.2.1
  obtain ⟨c, c1, _⟩ := text_two b.2.1
  have no : Ev (fun k => f72 k kd s) (a.1, b.1, c.1, false) → False := fun h' => by
    rw [ev_det h h'] at hr
    cases hr
  unfold f72 at no
  by_cases h1 : kd = 2
  case neg => exact (no (Ev.bind a1 (Ev.bind b1 (Ev.bind c1 (Ev.neg h1 (Ev.ret _)))))).elim
  by_cases h2 : a.2.2 = true
  case neg => exact (no (Ev.bind a1 (Ev.bind b1 (Ev.bind c1 (Ev.pos h1 (Ev.neg h2 (Ev.ret _))))))).elim
  by_cases h3 : b.2.2 = true
  case neg => exact (no (Ev.bind a1 (Ev.bind b1 (Ev.bind c1 (Ev.pos h1 (Ev.pos h2 (Ev.neg h3 (Ev.ret _)))))))).elim
  by_cases h4 : c.2.2 = true
  case neg => exact (no (Ev.bind a1 (Ev.bind b1 (Ev.bind c1 (Ev.pos h1 (Ev.pos h2 (Ev.pos h3 (Ev.neg h4 (Ev.ret _))))))))).elim
  by_cases h5 : strEq c.2.1 (⟨#[]⟩ : ByteArray) = true
  case neg => exact (no (Ev.bind a1 (Ev.bind b1 (Ev.bind c1 (Ev.pos h1 (Ev.pos h2 (Ev.pos h3 (Ev.pos h4 (Ev.neg h5 (Ev.ret _)))))))))).elim
  have e1 := l5Entry_ev a.1 b.1 c.1
  cases hb : entB a.1 b.1 c.1 with
  | false =>
    rw [hb] at e1
    exact (no (Ev.bind a1 (Ev.bind b1 (Ev.bind c1 (Ev.pos h1 (Ev.pos h2 (Ev.pos h3 (Ev.pos h4 (Ev.pos h5 (Ev.bind e1 (Ev.ret _))))))))))).elim
  | true =>
    rw [hb] at e1
    have er := ev_det h (show Ev (fun k => f72 k kd s) (a.1, b.1, c.1, true) by unfold f72; exact Ev.bind a1 (Ev.bind b1 (Ev.bind c1 (Ev.pos h1 (Ev.pos h2 (Ev.pos h3 (Ev.pos h4 (Ev.pos h5 (Ev.bind e1 (Ev.ret _))))))))))
    rw [er]
    obtain ⟨x, x1, x2⟩ := take_said a1 h2
    obtain ⟨y, y1, y2⟩ := take_said b1 h3
    obtain ⟨z, z1, z2⟩ := text_said c1 h4
    have ez : c.2.1 = (⟨#[]⟩ : ByteArray) := (strEq_iff _ _).1 h5
    have e : (x ++ y) ++ z = s := by
      rw [← x2, ← y2, ← z2, ez, ByteArray.append_assoc, show z ++ (⟨#[]⟩ : ByteArray) = z from ByteArray.append_empty]
    have hz : x.size + y.size + z.size = s.size := by rw [← e, ByteArray.size_append, ByteArray.size_append]
    obtain ⟨w, w1, _, _⟩ := frame_two 2 s (by decide) (by decide) hs
    refine ⟨h1, w, ?_, by rw [h1]; exact w1⟩
    unfold f25
    refine Ev.bind e1 (Ev.pos rfl (Ev.bind x1 (Ev.bind y1 (Ev.pos (by omega) (Ev.bind z1 (Ev.pos (by omega) ?_))))))
    rw [e]
    exact Ev.bind w1 (Ev.ret _)
end Go.Proofs.YtopnfhlgaiocpaaGreat.P
namespace Go.Proofs.YtopnfhlgaiocpaaGreat.P
open Go Go.Proofs.YtopnfhlgaiocpaaGreat.PM Go.Proofs
theorem or_add32 (x y i : Nat) (hx : x < 2 ^ i) (hi : i ≤ 24) (hy : y < 256) : orI .u32 (x : Int) (shlI .u32 (y : Int) (i : Int)) = ((x + y * 2 ^ i : Nat) : Int) := by
  have hp : 2 ^ i ≤ 2 ^ 24 := Nat.pow_le_pow_right (by omega) hi
  have hp' : 2 ^ i ≤ 16777216 := hp
  have hm : y * 2 ^ i ≤ 255 * 2 ^ i := Nat.mul_le_mul_right _ (by omega)
  have hs : shlI .u32 (y : Int) (i : Int) = ((y * 2 ^ i : Nat) : Int) := by
    unfold shlI
    rw [Int.toNat_natCast, show min i IntKind.u32.bits = i from Nat.min_eq_left (by show i ≤ 32; omega)]
    rw [show ((y : Int) * 2 ^ i) = ((y * 2 ^ i : Nat) : Int) by rw [Int.natCast_mul, Int.natCast_pow]; rfl, u32_w]
    omega
  rw [hs]
  unfold orI
  show IntKind.u32.wrap ((BitVec.ofInt 32 (x : Int) ||| BitVec.ofInt 32 ((y * 2 ^ i : Nat) : Int)).toNat : Int) = _
  rw [BitVec.ofInt_natCast, BitVec.ofInt_natCast, BitVec.toNat_or, BitVec.toNat_ofNat, BitVec.toNat_ofNat, Nat.mod_eq_of_lt (by omega), Nat.mod_eq_of_lt (by omega), Nat.or_comm, ← Nat.shiftLeft_eq, ← Nat.shiftLeft_add_eq_or_of_lt hx, Nat.shiftLeft_eq, Nat.add_comm, u32_w]
  omega
theorem word4_eq (s : ByteArray) (a : Nat) : word4 s a = byteAt s (a : Int) + byteAt s ((a + 1 : Nat) : Int) * 256 + byteAt s ((a + 2 : Nat) : Int) * 65536 + byteAt s ((a + 3 : Nat) : Int) * 16777216 := by
  have w (i : Int) : ∃ n : Nat, n < 256 ∧ byteAt s i = (n : Int) ∧ IntKind.u32.wrap (byteAt s i) = (n : Int) := by
    obtain ⟨h0, h1⟩ := byteAt_b s i
    refine ⟨(byteAt s i).toNat, by omega, by omega, ?_⟩
    rw [u32_w]
    omega
  obtain ⟨b0, l0, e0, v0⟩ := w (a : Int)
  obtain ⟨b1, l1, e1, v1⟩ := w ((a + 1 : Nat) : Int)
  obtain ⟨b2, l2, e2, v2⟩ := w ((a + 2 : Nat) : Int)
  obtain ⟨b3, l3, e3, v3⟩ := w ((a + 3 : Nat) : Int)
  unfold word4
  rw [v0, v1, v2, v3, e0, e1, e2, e3]
  rw [show (8 : Int) = ((8 : Nat) : Int) from rfl, or_add32 b0 b1 8 (by omega) (by omega) l1]
  rw [show (16 : Int) = ((16 : Nat) : Int) from rfl, or_add32 (b0 + b1 * 2 ^ 8) b2 16 (by omega) (by omega) l2]
  rw [show (24 : Int) = ((24 : Nat) : Int) from rfl, or_add32 (b0 + b1 * 2 ^ 8 + b2 * 2 ^ 16) b3 24 (by omega) (by omega) l3]
  omega
theorem strOf_cut (s : ByteArray) (a n : Nat) : strOf (((bytesL s).drop a).take n) = s.extract a (a + n) := by
  have h := strOf_take s (a + n)
  unfold strOf bytesL
  apply ByteArray.ext
  rw [ByteArray.data_extract]
  apply Array.toList_inj.1
  rw [Array.toList_extract, ← List.map_drop, ← List.map_take, List.map_map]
  show List.map _ _ = (s.data.toList.drop a).take (a + n - a)
  rw [Nat.add_sub_cancel_left]
  conv => rhs; rw [← List.map_id (List.take n (List.drop a s.data.toList))]
  apply List.map_congr_left
  intro x _
  show UInt8.ofNat (x.toNat : Int).toNat = x
  rw [Int.toNat_natCast, UInt8.ofNat_toNat]
theorem four_word (s : ByteArray) (a : Nat) (h : a + 4 ≤ s.size) : strOf (four (word4 s a)) = s.extract a (a + 4) := by
  rw [← strOf_cut, bytesL_drop s a (by omega), bytesL_drop s (a + 1) (by omega), bytesL_drop s (a + 1 + 1) (by omega), bytesL_drop s (a + 1 + 1 + 1) (by omega)]
  rw [List.take_succ_cons, List.take_succ_cons, List.take_succ_cons, List.take_succ_cons, List.take_zero]
  have e := word4_eq s a
  obtain ⟨p0, q0⟩ := byteAt_b s (a : Int)
  obtain ⟨p1, q1⟩ := byteAt_b s ((a + 1 : Nat) : Int)
  obtain ⟨p2, q2⟩ := byteAt_b s ((a + 2 : Nat) : Int)
  obtain ⟨p3, q3⟩ := byteAt_b s ((a + 3 : Nat) : Int)
  have s8 (w : Int) : shrI .u32 w 8 = w / 256 := by
    show w.fdiv (2 ^ 8) = _
    rw [Int.fdiv_eq_ediv_of_nonneg _ (by decide)]
    rfl
  have s16 (w : Int) : shrI .u32 w 16 = w / 65536 := by
    show w.fdiv (2 ^ 16) = _
    rw [Int.fdiv_eq_ediv_of_nonneg _ (by decide)]
    rfl
  have s24 (w : Int) : shrI .u32 w 24 = w / 16777216 := by
    show w.fdiv (2 ^ 24) = _
    rw [Int.fdiv_eq_ediv_of_nonneg _ (by decide)]
    rfl
  unfold four
  rw [u8_w, u8_w, u8_w, u8_w, s8, s16, s24]
  congr 1
  simp only [List.cons.injEq, and_true]
  refine ⟨by omega, ?_, ?_, ?_⟩
  · show _ = byteAt s ((a + 1 : Nat) : Int); omega
  · show _ = byteAt s ((a + 2 : Nat) : Int); omega
  · show _ = byteAt s ((a + 3 : Nat) : Int); omega
theorem frame_back (t : ByteArray) (w : Nat) (hw : 9 + w ≤ t.size) (hl : w ≤ 20000) (k0 : 1 ≤ byteAt t 0) (k1 : byteAt t 0 ≤ 100) (e : word4 t 1 = (w : Int)) (hc : Ev (fun k => f74 k (t.extract 0 (5 + w))) (word4 t (5 + w))) : Ev (fun k => f50 k (byteAt t 0) (t.extract 5 (5 + w))) (t.extract 0 (9 + w)) := by
  unfold f50
  have hz : (t.extract 5 (5 + w)).size = w := by rw [ByteArray.size_extract]; omega
  have h1 : strOf [IntKind.u8.wrap (byteAt t 0)] = t.extract 0 1 := by
    rw [← strOf_take, show bytesL t = (bytesL t).drop 0 from rfl, bytesL_drop t 0 (by omega), List.take_succ_cons, List.take_zero, u8_w, show byteAt t 0 % 256 = byteAt t ((0 : Nat) : Int) by show _ = byteAt t 0; omega]
  have h4 : strOf (four (IntKind.u32.wrap ((t.extract 5 (5 + w)).size : Int))) = t.extract 1 5 := by
    rw [hz, u32_w, show (w : Int) % 4294967296 = word4 t 1 by omega]
    exact four_word t 1 (by omega)
  have e1 := four_ev (IntKind.u32.wrap ((t.extract 5 (5 + w)).size : Int))
  rw [h4] at e1
  have e2 := four_ev (word4 t (5 + w))
  rw [four_word t (5 + w) (by omega), show 5 + w + 4 = 9 + w by omega] at e2
  have z1 : (t.extract 1 5).size = 4 := by rw [ByteArray.size_extract]; omega
  have z2 : (t.extract (5 + w) (9 + w)).size = 4 := by rw [ByteArray.size_extract]; omega
  refine Ev.bind (l1In_yes k0 k1) (Ev.pos rfl (Ev.neg (by omega) (Ev.bind e1 (Ev.pos (by omega) (Ev.pos (by omega) ?_)))))
  rw [h1, join_cut t (by omega) (by omega), join_cut t (by omega) (by omega)]
  refine Ev.bind hc (Ev.bind e2 (Ev.pos (by omega) (Ev.ret' ?_)))
  rw [join_cut t (by omega) (by omega)]
abbrev FrT := Int × ByteArray × Int × Int
theorem l2Frame_said (t : ByteArray) (h0 : 0 < t.size) (ht : t.size ≤ 1073741824) : ∃ r : FrT, Ev (fun k => f71 k t) r ∧ (r.2.2.2 = 0 → ∃ w : Nat, 9 + w ≤ t.size ∧ w ≤ 20000 ∧ r = (byteAt t 0, t.extract 5 (5 + w), ((9 + w : Nat) : Int), 0) ∧ Ev (fun k => f50 k (byteAt t 0) (t.extract 5 (5 + w))) (t.extract 0 (9 + w))) := by
  obtain ⟨b0, b1⟩ := byteAt_b t 0
  have wb : IntKind.i64.wrap (byteAt t 0) = byteAt t 0 := wr (by omega) (by omega)
  unfold f71
  by_cases hk : 1 ≤ byteAt t 0 ∧ byteAt t 0 ≤ 100
  case neg =>
    refine ⟨(0, (⟨#[]⟩ : ByteArray), 0, 2), Ev.pos (by omega) ?_, fun h => absurd h (by decide)⟩
    rw [wb]
    exact Ev.bind (l1In_no hk) (Ev.neg (by simp) (Ev.ret _))
  have hin : Ev (fun k => f20 k (IntKind.i64.wrap (byteAt t 0)) 1 100) true := by rw [wb]; exact l1In_yes hk.1 hk.2
  by_cases h5 : t.size < 5
  · exact ⟨(0, (⟨#[]⟩ : ByteArray), 0, 1), Ev.pos (by omega) (Ev.bind hin (Ev.pos rfl (Ev.pos (by omega) (Ev.ret _)))), fun h => absurd h (by decide)⟩
  have hw1 : Ev (fun k => f91 k (t.extract 1 5)) (word4 t 1) := l2Word_ev t 1 5 rfl (by omega)
  obtain ⟨w0, w1⟩ := word4_b t 1
  obtain ⟨w, hw⟩ : ∃ w : Nat, word4 t 1 = (w : Int) := ⟨(word4 t 1).toNat, by omega⟩
  rw [hw] at hw1 w0 w1
  have ww : IntKind.i64.wrap (w : Int) = (w : Int) := wr (by omega) (by omega)
  have w9 : IntKind.i64.wrap (9 + (w : Int)) = ((9 + w : Nat) : Int) := by rw [wr (by omega) (by omega)]; omega
  have w94 : IntKind.i64.wrap (((9 + w : Nat) : Int) - 4) = ((5 + w : Nat) : Int) := by rw [wr (by omega) (by omega)]; omega
  by_cases hL : 20000 < (w : Int)
  · exact ⟨(0, (⟨#[]⟩ : ByteArray), 0, 3), Ev.pos (by omega) (Ev.bind hin (Ev.pos rfl (Ev.neg (by omega) (Ev.pos (by omega) (Ev.bind hw1 (Ev.pos hL (Ev.ret _))))))), fun h => absurd h (by decide)⟩
  by_cases hS : t.size < 9 + w
  · refine ⟨(0, (⟨#[]⟩ : ByteArray), 0, 1), Ev.pos (by omega) (Ev.bind hin (Ev.pos rfl (Ev.neg (by omega) (Ev.pos (by omega) (Ev.bind hw1 (Ev.neg hL ?_)))))), fun h => absurd h (by decide)⟩
    rw [ww, w9]
    exact Ev.pos (by omega) (Ev.ret _)
  obtain ⟨cr, c1, _⟩ := crc_two (t.extract 0 (5 + w)) (by rw [ByteArray.size_extract]; omega)
  have hv1 : Ev (fun k => f91 k (t.extract (5 + w) (9 + w))) (word4 t (5 + w)) := l2Word_ev t (5 + w) (9 + w) (by omega) (by omega)
  by_cases hC : word4 t (5 + w) = cr
  case neg =>
    refine ⟨(0, (⟨#[]⟩ : ByteArray), 0, 4), Ev.pos (by omega) (Ev.bind hin (Ev.pos rfl (Ev.neg (by omega) (Ev.pos (by omega) (Ev.bind hw1 (Ev.neg hL ?_)))))), fun h => absurd h (by decide)⟩
    rw [ww, w9, w94, Int.toNat_natCast, Int.toNat_natCast]
    exact Ev.neg (by omega) (Ev.pos (by omega) (Ev.pos (by omega) (Ev.pos (by omega) (Ev.pos (by omega) (Ev.bind hv1 (Ev.pos (by omega) (Ev.bind c1 (Ev.neg hC (Ev.ret _)))))))))
  refine ⟨(byteAt t 0, t.extract 5 (5 + w), ((9 + w : Nat) : Int), 0), Ev.pos (by omega) (Ev.bind hin (Ev.pos rfl (Ev.neg (by omega) (Ev.pos (by omega) (Ev.bind hw1 (Ev.neg hL ?_)))))), fun _ => ⟨w, by omega, by omega, rfl, frame_back t w (by omega) (by omega) hk.1 hk.2 hw (by rw [hC]; exact c1)⟩⟩
  rw [ww, w9, w94, wb, Int.toNat_natCast, Int.toNat_natCast]
  exact Ev.neg (by omega) (Ev.pos (by omega) (Ev.pos (by omega) (Ev.pos (by omega) (Ev.pos (by omega) (Ev.bind hv1 (Ev.pos (by omega) (Ev.bind c1 (Ev.pos hC (Ev.pos (by omega) (Ev.ret _))))))))))
def FrRel (s : ByteArray) : Nat → List S88 → Prop
  | _, [] => True
  | p, f :: r => p + 9 + f.f1.size ≤ s.size ∧ f.f1.size ≤ 20000 ∧ Ev (fun k => f50 k f.f0 f.f1) (s.extract p (p + 9 + f.f1.size)) ∧ FrRel s (p + 9 + f.f1.size) r
theorem rel_loop (s : ByteArray) (hs : s.size ≤ 1073741824) (d : Nat) : ∀ (p : Nat) (q : List S88), s.size - p ≤ d → p ≤ s.size → q.length ≤ p → ∃ (r : Int × Int × List S88) (fs : List S88), Ev (fun k => f46.l3 k q s (p : Int)) r ∧ r.2.2 = q ++ fs ∧ FrRel s p fs := by
  induction d with
  | zero =>
    intro p q hd hp hq
    exact ⟨((p : Int), 0, q), [], Ev.step (fun k => by rw [f46.l3]) (Ev.neg (by omega) (Ev.ret _)), (List.append_nil _).symm, trivial⟩
  | succ d ih =>
    intro p q hd hp hq
    by_cases hpe : p = s.size
    · exact ⟨((p : Int), 0, q), [], Ev.step (fun k => by rw [f46.l3]) (Ev.neg (by omega) (Ev.ret _)), (List.append_nil _).symm, trivial⟩
    by_cases hm : (q.length : Int) = 2000
    · exact ⟨((p : Int), 5, q), [], Ev.step (fun k => by rw [f46.l3]) (Ev.pos (by omega) (Ev.pos hm (Ev.ret _))), (List.append_nil _).symm, trivial⟩
    obtain ⟨t, ht⟩ : ∃ t, t = s.extract p s.size := ⟨_, rfl⟩
    have hz : t.size = s.size - p := by rw [ht, ByteArray.size_extract]; omega
    obtain ⟨r, r1, ro⟩ := l2Frame_said t (by omega) (by omega)
    by_cases hc : r.2.2.2 = 0
    case neg =>
      clear ro
      refine ⟨((p : Int), r.2.2.2, q), [], Ev.step (fun k => by rw [f46.l3]) ?_, (List.append_nil _).symm, trivial⟩
      refine Ev.pos (by omega) (Ev.neg hm (Ev.pos (by omega) (Ev.pos (by omega) ?_)))
      rw [Int.toNat_natCast, ← ht]
      exact Ev.bind r1 (Ev.neg hc (Ev.ret _))
    obtain ⟨w, hw, hw2, e, hf⟩ := ro hc
    have hbz : (t.extract 5 (5 + w)).size = w := by rw [ByteArray.size_extract]; omega
    have et : t.extract 0 (9 + w) = s.extract p (p + 9 + w) := by rw [ht, ByteArray.extract_extract]; congr 1; omega
    obtain ⟨x, fs, x1, x2, x3⟩ := ih (p + (9 + w)) (q ++ [(⟨byteAt t 0, t.extract 5 (5 + w)⟩ : S88)]) (by omega) (by omega) (by rw [List.length_append, List.length_singleton]; omega)
    have wn1 : IntKind.i64.wrap ((p : Int) + ((9 + w : Nat) : Int)) = ((p + (9 + w) : Nat) : Int) := by rw [wr (by omega) (by omega)]; omega
    refine ⟨x, (⟨byteAt t 0, t.extract 5 (5 + w)⟩ : S88) :: fs, Ev.step (fun k => by rw [f46.l3]) ?_, by rw [x2, List.append_assoc, List.singleton_append], ?_⟩
    · refine Ev.pos (by omega) (Ev.neg hm (Ev.pos (by omega) (Ev.pos (by omega) ?_)))
      rw [Int.toNat_natCast, ← ht]
      rw [e] at r1
      refine Ev.bind r1 (Ev.pos rfl (Ev.pos (by omega) (Ev.pos (by omega) ?_)))
      show Ev (fun k => f46.l3 k _ s (IntKind.i64.wrap ((p : Int) + ((9 + w : Nat) : Int)))) x
      rw [wn1]
      exact x1
    · unfold FrRel
      simp only [hbz]
      refine ⟨by omega, by omega, ?_, ?_⟩
      · rw [← et]; exact hf
      · rw [show p + 9 + w = p + (9 + w) by omega]; exact x3
theorem frames_rel {s : ByteArray} (hs : s.size ≤ 1073741824) {r : Int × Int × List S88} (h : Ev (fun k => f46 k s) r) : FrRel s 0 r.2.2 := by
  obtain ⟨x, fs, x1, x2, x3⟩ := rel_loop s hs s.size 0 [] (by omega) (Nat.zero_le _) (Nat.le_refl _)
  have e := ev_det h (show Ev (fun k => f46 k s) x by unfold f46; exact x1)
  rw [e, x2]
  exact x3
noncomputable def txt (e : S61) : ByteArray := by
  classical
  exact if h : ∃ t, Ev (fun k => f25 k e.f0 e.f1 e.f2) t then h.choose else default
theorem txt_of {e : S61} {t : ByteArray} (h : Ev (fun k => f25 k e.f0 e.f1 e.f2) t) : txt e = t := by
  unfold txt
  rw [dif_pos ⟨t, h⟩]
  exact ev_det (Exists.choose_spec (⟨t, h⟩ : ∃ t, Ev (fun k => f25 k e.f0 e.f1 e.f2) t)) h
noncomputable def txts (l : List S61) : ByteArray := l.foldl (fun b e => b ++ txt e) (⟨#[]⟩ : ByteArray)
theorem txts_snoc (l : List S61) (e : S61) : txts (l ++ [e]) = txts l ++ txt e := by unfold txts; rw [List.foldl_append]; rfl
def okE (e : S61) : Prop := entB e.f0 e.f1 e.f2 = true
theorem canlog_loop (s : ByteArray) (hs : s.size ≤ 1073741824) (fs : List S88) (hl : fs.length ≤ 1073741824) (term : Int) (d : Nat) : ∀ (i P : Nat) (q : List S61), fs.length - i = d → i ≤ fs.length → q.length = i → i ≤ 500 → P ≤ s.size → txts q = s.extract 0 P → (∀ e ∈ q, okE e) → FrRel s P (fs.drop i) →
    ∃ r : Int × List S61, Ev (fun k => f48.l5 k q fs term (P : Int) (i : Int)) r ∧ (∃ Z : Nat, r.1 = (Z : Int) ∧ Z ≤ s.size ∧ txts r.2 = s.extract 0 Z) ∧ (∀ e ∈ r.2, okE e) := by
  induction d with
  | zero =>
    intro i P q hd hi hq h5 hP ht ho _
    exact ⟨((P : Int), q), Ev.step (fun k => by rw [f48.l5]) (Ev.neg (by omega) (Ev.ret _)), ⟨P, rfl, hP, ht⟩, ho⟩
  | succ d ih =>
    intro i P q hd hi hq h5 hP ht ho hr
    have stop : ∀ {g : Nat → Option (Int × List S61)}, Ev g ((P : Int), q) → ∃ r : Int × List S61, Ev g r ∧ (∃ Z : Nat, r.1 = (Z : Int) ∧ Z ≤ s.size ∧ txts r.2 = s.extract 0 Z) ∧ (∀ e ∈ r.2, okE e) := fun h => ⟨_, h, ⟨P, rfl, hP, ht⟩, ho⟩
    have hlt : i < fs.length := by omega
    rw [List.drop_eq_getElem_cons hlt] at hr
    obtain ⟨hz, hz2, hw, hr⟩ := hr
    have ha : at' fs (i : Int) = fs[i] := at_nat fs i hlt
    obtain ⟨e, e1, _, eb⟩ := entry_two (at' fs (i : Int)).f0 (at' fs (i : Int)).f1
    have w1 : IntKind.i64.wrap ((i : Int) + 1) = ((i + 1 : Nat) : Int) := by rw [wr (by omega) (by omega)]; omega
    have w2 : IntKind.i64.wrap ((i : Int) - 1) = (i : Int) - 1 := wr (by omega) (by omega)
    have st : ∀ {f : Nat → Option (Int × List S61)}, (∃ r : Int × List S61, Ev f r ∧ (∃ Z : Nat, r.1 = (Z : Int) ∧ Z ≤ s.size ∧ txts r.2 = s.extract 0 Z) ∧ (∀ e ∈ r.2, okE e)) → (∀ k, f48.l5 (k + 1) q fs term (P : Int) (i : Int) = f k) → ∃ r : Int × List S61, Ev (fun k => f48.l5 k q fs term (P : Int) (i : Int)) r ∧ (∃ Z : Nat, r.1 = (Z : Int) ∧ Z ≤ s.size ∧ txts r.2 = s.extract 0 Z) ∧ (∀ e ∈ r.2, okE e) := fun ⟨r, h, h'⟩ hk => ⟨r, Ev.step hk h, h'⟩
    refine st ?_ (fun k => by rw [f48.l5])
    by_cases h6 : i < 500
    case neg => exact stop (Ev.pos (by omega) (Ev.neg (by omega) (Ev.ret _)))
    cases hok : e.2.2.2 with
    | false => exact stop (Ev.pos (by omega) (Ev.pos (by omega) (Ev.pos (by omega) (Ev.bind e1 (Ev.neg (by rw [hok]; simp) (Ev.ret _))))))
    | true =>
      have hb := eb hok
      by_cases h7 : term < e.1
      · exact stop (Ev.pos (by omega) (Ev.pos (by omega) (Ev.pos (by omega) (Ev.bind e1 (Ev.pos hok (Ev.pos h7 (Ev.ret _)))))))
      by_cases h8 : 0 < (i : Int) ∧ e.1 < (at' q ((i : Int) - 1)).f0
      · refine stop (Ev.pos (by omega) (Ev.pos (by omega) (Ev.pos (by omega) (Ev.bind e1 (Ev.pos hok (Ev.neg h7 (Ev.pos h8.1 ?_)))))))
        rw [w2]
        exact Ev.pos (by omega) (Ev.pos (by omega) (Ev.pos h8.2 (Ev.ret _)))
      · rw [ha] at e1
        obtain ⟨_, t, t1, t2⟩ := entry_said hz2 e1 hok
        have et : t = s.extract P (P + 9 + fs[i].f1.size) := ev_det t2 hw
        have tz : t.size = 9 + fs[i].f1.size := by rw [et, ByteArray.size_extract]; omega
        obtain ⟨r, r1, r2, r3⟩ := ih (i + 1) (P + 9 + fs[i].f1.size) (q ++ [(⟨e.1, e.2.1, e.2.2.1⟩ : S61)]) (by omega) (by omega) (by rw [List.length_append, List.length_singleton, hq]) (by omega) hz (by
          rw [txts_snoc, ht, txt_of (e := ⟨e.1, e.2.1, e.2.2.1⟩) t1, et, join_cut s (Nat.zero_le _) (by omega)]) (fun x hx => by
          rcases List.mem_append.1 hx with hx | hx
          · exact ho x hx
          · rw [List.mem_singleton.1 hx]; exact hb) hr
        have wP : IntKind.i64.wrap ((P : Int) + (t.size : Int)) = ((P + 9 + fs[i].f1.size : Nat) : Int) := by rw [wr (by omega) (by omega)]; omega
        refine ⟨r, Ev.pos (by omega) (Ev.pos (by omega) (Ev.pos (by omega) ?_)), r2, r3⟩
        rw [ha]
        refine Ev.bind e1 (Ev.pos hok (Ev.neg h7 ?_))
        by_cases h0 : 0 < (i : Int)
        · refine Ev.pos h0 ?_
          rw [w2, w1]
          refine Ev.pos (by omega) (Ev.pos (by omega) (Ev.neg (fun h => h8 ⟨h0, h⟩) (Ev.pos (by omega) (Ev.pos (by omega) (Ev.bind t1 ?_)))))
          rw [wP]
          exact r1
        · rw [w1]
          refine Ev.neg h0 (Ev.pos (by omega) (Ev.pos (by omega) (Ev.bind t1 ?_)))
          rw [wP]
          exact r1
theorem log_said {s : ByteArray} (hs : s.size ≤ 1073741824) {term : Int} {r : Int × List S61} (h : Ev (fun k => f48 k s term) r) : (∃ Z : Nat, r.1 = (Z : Int) ∧ Z ≤ s.size ∧ txts r.2 = s.extract 0 Z) ∧ (∀ e ∈ r.2, okE e) := by
  obtain ⟨fs, f1, _, fo⟩ := frames_two s hs
  have hr := frames_rel hs f1
  have fl := fo.n
  obtain ⟨x, x1, x2, x3⟩ := canlog_loop s hs fs.2.2 (by omega) term _ 0 0 [] rfl (Nat.zero_le _) rfl (by omega) (Nat.zero_le _) (by
    show (⟨#[]⟩ : ByteArray) = s.extract 0 0
    apply ByteArray.ext
    rw [ByteArray.data_extract]
    simp) (fun e he => by cases he) hr
  have e := ev_det h (show Ev (fun k => f48 k s term) x by unfold f48; exact Ev.bind f1 x1)
  rw [e]
  exact ⟨x2, x3⟩
end Go.Proofs.YtopnfhlgaiocpaaGreat.P
namespace Go.Proofs.YtopnfhlgaiocpaaGreat.P
open Go Go.Proofs.YtopnfhlgaiocpaaGreat.PM Go.Proofs
theorem log_loop (fs : List S88) (hl : fs.length ≤ 1073741824) (term vote b00 b01 : Int) (d : Nat) : ∀ (i : Nat) (q : List S61) (sz x : Int), fs.length - i = d → i ≤ fs.length → q.length = i → i ≤ 500 → 0 < i → (at' q ((i : Int) - 1)).f0 = x →
    ∃ r : Int × List S61, Ev (fun k => f48.l5 k q fs term sz (i : Int)) r ∧ Ev (fun k => f56.l20v1 k fs q x (fs.length : Int) (i : Int) b00 b01 term vote) (term, vote, true, r.2) ∧ r.2.length ≤ 500 := by
  induction d with
  | zero =>
    intro i q sz x hd hi hq h5 h0 hx
    exact ⟨(sz, q), Ev.step (fun k => by rw [f48.l5]) (Ev.neg (by omega) (Ev.ret _)), Ev.step (fun k => by rw [f56.l20v1]) (Ev.neg (by omega) (Ev.ret _)), by show q.length ≤ 500; omega⟩
  | succ d ih =>
    intro i q sz x hd hi hq h5 h0 hx
    obtain ⟨e, e1, e2, eb⟩ := entry_two (at' fs (i : Int)).f0 (at' fs (i : Int)).f1
    have w1 : IntKind.i64.wrap ((i : Int) + 1) = ((i + 1 : Nat) : Int) := by rw [wr (by omega) (by omega)]; omega
    have w2 : IntKind.i64.wrap ((i : Int) - 1) = (i : Int) - 1 := wr (by omega) (by omega)
    cases ho : e.2.2.2 with
    | false =>
      have hI : entI e = (0, 0, (⟨#[]⟩ : ByteArray), false) := by unfold entI; rw [ho]; rfl
      rw [hI] at e2
      refine ⟨(sz, q), Ev.step (fun k => by rw [f48.l5]) ?_, Ev.step (fun k => by rw [f56.l20v1]) ?_, by show q.length ≤ 500; omega⟩
      · refine Ev.pos (by omega) ?_
        by_cases h6 : i < 500
        · exact Ev.pos (by omega) (Ev.pos (by omega) (Ev.bind e1 (Ev.neg (by rw [ho]; simp) (Ev.ret _))))
        · exact Ev.neg (by omega) (Ev.ret _)
      · exact Ev.pos (by omega) (Ev.pos (by omega) (Ev.pos (by omega) (Ev.bind e2 (Ev.neg (by simp) (Ev.ret _)))))
    | true =>
      have hI : entI e = (e.1, e.2.1, e.2.2.1, true) := by unfold entI; rw [ho]; rfl
      rw [hI] at e2
      have hb := eb ho
      by_cases h6 : i < 500 ∧ ¬ term < e.1 ∧ ¬ e.1 < x
      · obtain ⟨h6, h7, h8⟩ := h6
        obtain ⟨s, s1⟩ := entryText_ev e.1 e.2.1 e.2.2.1 hb
        obtain ⟨r, r1, r2, rl⟩ := ih (i + 1) (q ++ [(⟨e.1, e.2.1, e.2.2.1⟩ : S61)]) (IntKind.i64.wrap (sz + (s.size : Int))) e.1 (by omega) (by omega) (by rw [List.length_append, List.length_singleton, hq]) (by omega) (by omega) (by
          rw [show ((i + 1 : Nat) : Int) - 1 = ((i : Nat) : Int) by omega, at_nat _ i (by rw [List.length_append, List.length_singleton]; omega), List.getElem_append_right (by omega)]
          simp [hq])
        refine ⟨r, Ev.step (fun k => by rw [f48.l5]) ?_, Ev.step (fun k => by rw [f56.l20v1]) ?_, rl⟩
        · refine Ev.pos (by omega) (Ev.pos (by omega) (Ev.pos (by omega) (Ev.bind e1 (Ev.pos ho (Ev.neg h7 (Ev.pos (by omega) ?_))))))
          rw [w2, hx]
          refine Ev.pos (by omega) (Ev.pos (by omega) (Ev.neg h8 (Ev.pos (by omega) (Ev.pos (by omega) (Ev.bind s1 ?_)))))
          rw [w1]
          exact r1
        · refine Ev.pos (by omega) (Ev.pos (by omega) (Ev.pos (by omega) (Ev.bind e2 (Ev.pos rfl (Ev.neg h8 (Ev.neg h7 (Ev.neg (by omega) (Ev.pos (by omega) (Ev.pos (by omega) ?_)))))))))
          rw [w1]
          exact r2
      · refine ⟨(sz, q), Ev.step (fun k => by rw [f48.l5]) (Ev.pos (by omega) ?_), Ev.step (fun k => by rw [f56.l20v1]) ?_, by show q.length ≤ 500; omega⟩
        · by_cases h9 : i < 500
          · refine Ev.pos (by omega) (Ev.pos (by omega) (Ev.bind e1 (Ev.pos ho ?_)))
            by_cases h7 : term < e.1
            · exact Ev.pos h7 (Ev.ret _)
            · refine Ev.neg h7 (Ev.pos (by omega) ?_)
              rw [w2, hx]
              exact Ev.pos (by omega) (Ev.pos (by omega) (Ev.pos (Decidable.byContradiction fun h8 => h6 ⟨h9, h7, h8⟩) (Ev.ret _)))
          · exact Ev.neg (by omega) (Ev.ret _)
        · refine Ev.pos (by omega) (Ev.pos (by omega) (Ev.pos (by omega) (Ev.bind e2 (Ev.pos rfl ?_))))
          by_cases h8 : e.1 < x
          · exact Ev.pos h8 (Ev.ret _)
          · by_cases h7 : term < e.1
            · exact Ev.neg h8 (Ev.pos h7 (Ev.ret _))
            · exact Ev.neg h8 (Ev.neg h7 (Ev.pos (by
                have : ¬ i < 500 := fun h9 => h6 ⟨h9, h7, h8⟩
                omega) (Ev.ret _)))
theorem log_first (fs : List S88) (hl : fs.length ≤ 1073741824) (term vote b00 b01 : Int) : ∃ r : Int × List S61, Ev (fun k => f48.l5 k ([] : List S61) fs term 0 0) r ∧ Ev (fun k => f56.l20 k fs 0 (fs.length : Int) 0 b00 b01 term vote) (term, vote, true, r.2) ∧ r.2.length ≤ 500 := by
  by_cases hn : 0 < fs.length
  case neg => exact ⟨(0, []), Ev.step (fun k => by rw [f48.l5]) (Ev.neg (by omega) (Ev.ret _)), Ev.step (fun k => by rw [f56.l20]) (Ev.neg (by omega) (Ev.ret _)), Nat.zero_le _⟩
  obtain ⟨e, e1, e2, eb⟩ := entry_two (at' fs 0).f0 (at' fs 0).f1
  have w1 : IntKind.i64.wrap ((0 : Int) + 1) = ((1 : Nat) : Int) := by rw [wr (by omega) (by omega)]; omega
  cases ho : e.2.2.2 with
  | false =>
    have hI : entI e = (0, 0, (⟨#[]⟩ : ByteArray), false) := by unfold entI; rw [ho]; rfl
    rw [hI] at e2
    refine ⟨(0, []), Ev.step (fun k => by rw [f48.l5]) ?_, Ev.step (fun k => by rw [f56.l20]) ?_, Nat.zero_le _⟩
    · exact Ev.pos (by omega) (Ev.pos (by omega) (Ev.pos (by omega) (Ev.bind e1 (Ev.neg (by rw [ho]; simp) (Ev.ret _)))))
    · exact Ev.pos (by omega) (Ev.pos (by omega) (Ev.pos (by omega) (Ev.bind e2 (Ev.neg (by simp) (Ev.ret _)))))
  | true =>
    have hI : entI e = (e.1, e.2.1, e.2.2.1, true) := by unfold entI; rw [ho]; rfl
    rw [hI] at e2
    have hb := eb ho
    have h8 : ¬ e.1 < 0 := by have := (entB_said hb).1.1; omega
    by_cases h7 : term < e.1
    · exact ⟨(0, []), Ev.step (fun k => by rw [f48.l5]) (Ev.pos (by omega) (Ev.pos (by omega) (Ev.pos (by omega) (Ev.bind e1 (Ev.pos ho (Ev.pos h7 (Ev.ret _))))))), Ev.step (fun k => by rw [f56.l20]) (Ev.pos (by omega) (Ev.pos (by omega) (Ev.pos (by omega) (Ev.bind e2 (Ev.pos rfl (Ev.neg h8 (Ev.pos h7 (Ev.ret _)))))))), Nat.zero_le _⟩
    · obtain ⟨s, s1⟩ := entryText_ev e.1 e.2.1 e.2.2.1 hb
      obtain ⟨r, r1, r2, rl⟩ := log_loop fs hl term vote b00 b01 _ 1 [(⟨e.1, e.2.1, e.2.2.1⟩ : S61)] (IntKind.i64.wrap (0 + (s.size : Int))) e.1 rfl (by omega) rfl (by omega) (by omega) rfl
      rw [← w1] at r1 r2
      refine ⟨r, Ev.step (fun k => by rw [f48.l5]) ?_, Ev.step (fun k => by rw [f56.l20]) ?_, rl⟩
      · refine Ev.pos (by omega) (Ev.pos (by omega) (Ev.pos (by omega) (Ev.bind e1 (Ev.pos ho (Ev.neg h7 (Ev.neg (by omega) (Ev.pos (by simp) (Ev.pos (by simp) (Ev.bind s1 ?_)))))))))
        exact r1
      · refine Ev.pos (by omega) (Ev.pos (by omega) (Ev.pos (by omega) (Ev.bind e2 (Ev.pos rfl (Ev.neg h8 (Ev.neg h7 (Ev.pos (by omega) ?_)))))))
        exact r2
def nVote : ByteArray := ⟨#[118, 111, 116, 101]⟩
def nLog : ByteArray := ⟨#[108, 111, 103]⟩
theorem at_file {live : List S58} (h : filesB live = true) {i : Int} (h0 : 0 ≤ i) (h1 : i < live.length) : (at' live i).f1.size ≤ 1073741824 := by
  have := (filesB_said h).2.2 _ (getD_mem default live i h0 h1)
  show (live.getD i.toNat default).f1.size ≤ _
  omega
def logData (live : List S58) : ByteArray := if 0 ≤ idxP (nameIs nLog) live then (at' live (idxP (nameIs nLog) live)).f1 else (⟨#[]⟩ : ByteArray)
def LogOk (live : List S58) (sz : Int) (es : List S61) : Prop := (∀ x ∈ es, okE x) ∧ ∃ Z : Nat, sz = (Z : Int) ∧ Z ≤ (logData live).size ∧ txts es = (logData live).extract 0 Z
theorem log_part {live : List S58} (h : filesB live = true) (term vote : Int) : ∃ (sz : Int) (es : List S61),
    Ev (fun k => ((f23 k live (⟨#[108, 111, 103]⟩ : ByteArray)).bind fun t5 => (if 0 ≤ t5 then (if t5 < (live.length : Int) then ((f48 k ((at' live t5).f1) term).bind fun t6 => some (term, vote, t6.1, true, t6.2)) else none) else some (term, vote, 0, true, ([] : List S61))))) (term, vote, sz, true, es) ∧
    Ev (fun k => ((f60 k live (⟨#[108, 111, 103]⟩ : ByteArray)).bind fun t6 => (if 0 ≤ t6 then (if t6 < (live.length : Int) then ((f79 k ((at' live t6).f1)).bind fun t7 => (f56.l20 k t7.2.2 0 ((t7.2.2.length : Nat) : Int) 0 0 0 term vote)) else none) else some (term, vote, true, ([] : List S61))))) (term, vote, true, es) ∧ es.length ≤ 500 ∧ LogOk live sz es := by
  have hn := (filesB_said h).2.1
  have a1 := l4At_ev live nLog (by omega)
  have a2 := fileOf_ev live nLog (by omega)
  have hlt := idxP_lt (nameIs nLog) live
  by_cases h0 : 0 ≤ idxP (nameIs nLog) live
  · obtain ⟨fs, f1, f2, fo⟩ := frames_two (at' live (idxP (nameIs nLog) live)).f1 (at_file h h0 hlt)
    have fl := fo.n
    have fz := at_file h h0 hlt
    obtain ⟨r, r1, r2, rl⟩ := log_first fs.2.2 (by omega) term vote 0 0
    have hlog : Ev (fun k => f48 k (at' live (idxP (nameIs nLog) live)).f1 term) r := by
      unfold f48
      exact Ev.bind f1 r1
    obtain ⟨⟨Z, z1, z2, z3⟩, z4⟩ := log_said fz hlog
    have ed : logData live = (at' live (idxP (nameIs nLog) live)).f1 := by unfold logData; rw [if_pos h0]
    exact ⟨r.1, r.2, Ev.bind a1 (Ev.pos h0 (Ev.pos hlt (Ev.bind hlog (Ev.ret _)))), Ev.bind a2 (Ev.pos h0 (Ev.pos hlt (Ev.bind f2 r2))), rl, z4, Z, z1, by rw [ed]; exact z2, by rw [ed]; exact z3⟩
  · refine ⟨0, [], Ev.bind a1 (Ev.neg h0 (Ev.ret _)), Ev.bind a2 (Ev.neg h0 (Ev.ret _)), Nat.zero_le _, (fun x hx => by cases hx), ⟨0, rfl, Nat.zero_le _, ?_⟩⟩
    show (⟨#[]⟩ : ByteArray) = (logData live).extract 0 0
    apply ByteArray.ext
    rw [ByteArray.data_extract]
    simp
theorem journal_two {live safe : List S58} {ops : List S63} (hs : Sm live safe ops) (hd : diskB live safe ops = true) : ∃ (t v sz : Int) (ok : Bool) (es : List S61),
    Ev (fun k => f19 k live safe ops) (t, v, sz, ok, es) ∧ Ev (fun k => f56 k live safe ops) (if ok = true then (t, v, true, es) else (0, 0, false, [])) ∧ (0 ≤ t ∧ t ≤ 1000000000000) ∧ (0 ≤ v ∧ v ≤ 1000000000000) ∧ es.length ≤ 500 ∧ (ok = true → LogOk live sz es) := by
  have hI := hs.inv hd
  have hk := isDisk_ev live safe ops hs.ls hs.ss (fun x hx => by have := hs.o x hx; omega) (by have := hs.ln; omega) (by have := hs.sn; omega)
  rw [hd] at hk
  have hn := hs.ln
  have a1 := l4At_ev live nVote (by omega)
  have a2 := fileOf_ev live nVote (by omega)
  have hlt := idxP_lt (nameIs nVote) live
  unfold f19 f56
  by_cases h0 : 0 ≤ idxP (nameIs nVote) live
  case neg =>
    obtain ⟨sz, es, l1, l2, el, lo⟩ := log_part hI.l 0 0
    exact ⟨0, 0, sz, true, es, Ev.bind a1 (Ev.neg h0 l1), Ev.bind hk (Ev.pos rfl (Ev.bind a2 (Ev.neg h0 l2))), ⟨by omega, by omega⟩, ⟨by omega, by omega⟩, el, fun _ => lo⟩
  obtain ⟨fs, f1, f2, fo⟩ := frames_two (at' live (idxP (nameIs nVote) live)).f1 (at_file hI.l h0 hlt)
  obtain ⟨code, hc⟩ : ∃ c, c = fs.2.1 := ⟨_, rfl⟩
  have no : ∀ {g f : Nat → Option (Int × Int × Int × Bool × List S61)} {u : Nat → Option (Int × Int × Bool × List S61)}, Ev g (0, 0, 0, false, []) → Ev u (0, 0, false, []) → ∃ (t v sz : Int) (ok : Bool) (es : List S61), Ev g (t, v, sz, ok, es) ∧ Ev u (if ok = true then (t, v, true, es) else (0, 0, false, [])) ∧ (0 ≤ t ∧ t ≤ 1000000000000) ∧ (0 ≤ v ∧ v ≤ 1000000000000) ∧ es.length ≤ 500 ∧ (ok = true → LogOk live sz es) := fun h1 h2 => ⟨0, 0, 0, false, [], h1, h2, ⟨by omega, by omega⟩, ⟨by omega, by omega⟩, Nat.zero_le _, fun h => by cases h⟩
  by_cases h1 : fs.2.1 = 0
  case neg => exact no (f := fun _ => none) (Ev.bind a1 (Ev.pos h0 (Ev.pos hlt (Ev.bind f1 (Ev.neg h1 (Ev.ret _)))))) (Ev.bind hk (Ev.pos rfl (Ev.bind a2 (Ev.pos h0 (Ev.pos hlt (Ev.bind f2 (Ev.neg h1 (Ev.ret _))))))))
  by_cases h2 : ((fs.2.2.length : Nat) : Int) = 1
  case neg => exact no (f := fun _ => none) (Ev.bind a1 (Ev.pos h0 (Ev.pos hlt (Ev.bind f1 (Ev.pos h1 (Ev.neg h2 (Ev.ret _))))))) (Ev.bind hk (Ev.pos rfl (Ev.bind a2 (Ev.pos h0 (Ev.pos hlt (Ev.bind f2 (Ev.pos h1 (Ev.neg h2 (Ev.ret _)))))))))
  have h3 : 0 < fs.2.2.length := by omega
  obtain ⟨x, x1, x2, xo⟩ := take_two (at' fs.2.2 0).f1
  obtain ⟨y, y1, y2, yo⟩ := take_two x.2.1
  by_cases h4 : (at' fs.2.2 0).f0 = 1
  case neg => exact no (f := fun _ => none) (Ev.bind a1 (Ev.pos h0 (Ev.pos hlt (Ev.bind f1 (Ev.pos h1 (Ev.pos h2 (Ev.pos h3 (Ev.bind x1 (Ev.bind y1 (Ev.neg h4 (Ev.ret _))))))))))) (Ev.bind hk (Ev.pos rfl (Ev.bind a2 (Ev.pos h0 (Ev.pos hlt (Ev.bind f2 (Ev.pos h1 (Ev.pos h2 (Ev.pos h3 (Ev.neg h4 (Ev.ret _)))))))))))
  by_cases h5 : x.2.2 = true
  case neg => exact no (f := fun _ => none) (Ev.bind a1 (Ev.pos h0 (Ev.pos hlt (Ev.bind f1 (Ev.pos h1 (Ev.pos h2 (Ev.pos h3 (Ev.bind x1 (Ev.bind y1 (Ev.pos h4 (Ev.neg h5 (Ev.ret _)))))))))))) (Ev.bind hk (Ev.pos rfl (Ev.bind a2 (Ev.pos h0 (Ev.pos hlt (Ev.bind f2 (Ev.pos h1 (Ev.pos h2 (Ev.pos h3 (Ev.pos h4 (Ev.bind x2 (Ev.bind y2 (Ev.neg h5 (Ev.ret _))))))))))))))
  by_cases h6 : y.2.2 = true
  case neg => exact no (f := fun _ => none) (Ev.bind a1 (Ev.pos h0 (Ev.pos hlt (Ev.bind f1 (Ev.pos h1 (Ev.pos h2 (Ev.pos h3 (Ev.bind x1 (Ev.bind y1 (Ev.pos h4 (Ev.pos h5 (Ev.neg h6 (Ev.ret _))))))))))))) (Ev.bind hk (Ev.pos rfl (Ev.bind a2 (Ev.pos h0 (Ev.pos hlt (Ev.bind f2 (Ev.pos h1 (Ev.pos h2 (Ev.pos h3 (Ev.pos h4 (Ev.bind x2 (Ev.bind y2 (Ev.pos h5 (Ev.neg h6 (Ev.ret _)))))))))))))))
  by_cases h7 : strEq y.2.1 (⟨#[]⟩ : ByteArray) = true
  case neg => exact no (f := fun _ => none) (Ev.bind a1 (Ev.pos h0 (Ev.pos hlt (Ev.bind f1 (Ev.pos h1 (Ev.pos h2 (Ev.pos h3 (Ev.bind x1 (Ev.bind y1 (Ev.pos h4 (Ev.pos h5 (Ev.pos h6 (Ev.neg h7 (Ev.ret _)))))))))))))) (Ev.bind hk (Ev.pos rfl (Ev.bind a2 (Ev.pos h0 (Ev.pos hlt (Ev.bind f2 (Ev.pos h1 (Ev.pos h2 (Ev.pos h3 (Ev.pos h4 (Ev.bind x2 (Ev.bind y2 (Ev.pos h5 (Ev.pos h6 (Ev.neg h7 (Ev.ret _))))))))))))))))
  obtain ⟨sz, es, l1, l2, el, lo⟩ := log_part hI.l x.1 y.1
  exact ⟨x.1, y.1, sz, true, es, Ev.bind a1 (Ev.pos h0 (Ev.pos hlt (Ev.bind f1 (Ev.pos h1 (Ev.pos h2 (Ev.pos h3 (Ev.bind x1 (Ev.bind y1 (Ev.pos h4 (Ev.pos h5 (Ev.pos h6 (Ev.pos h7 l1)))))))))))), Ev.bind hk (Ev.pos rfl (Ev.bind a2 (Ev.pos h0 (Ev.pos hlt (Ev.bind f2 (Ev.pos h1 (Ev.pos h2 (Ev.pos h3 (Ev.pos h4 (Ev.bind x2 (Ev.bind y2 (Ev.pos h5 (Ev.pos h6 (Ev.pos h7 l2)))))))))))))), ⟨xo.lo, xo.hi⟩, ⟨yo.lo, yo.hi⟩, el, fun _ => lo⟩
end Go.Proofs.YtopnfhlgaiocpaaGreat.P
namespace Go.Proofs.YtopnfhlgaiocpaaGreat.P
open Go Go.Proofs.YtopnfhlgaiocpaaGreat.PM Go.Proofs
theorem eqEntryS_loop (l : List S61) (hl : l.length ≤ 1073741824) (d : Nat) : ∀ i : Nat, l.length - i = d → i ≤ l.length → Ev (fun k => f11.l4 k l l (i : Int)) true := by
  induction d with
  | zero => intro i hd hi; exact Ev.step (fun k => by rw [f11.l4]) (Ev.neg (by omega) (Ev.ret _))
  | succ d ih =>
    intro i hd hi
    have hn := ih (i + 1) (by omega) (by omega)
    rw [show ((i + 1 : Nat) : Int) = IntKind.i64.wrap ((i : Int) + 1) by rw [wr (by omega) (by omega)]; omega] at hn
    exact Ev.step (fun k => by rw [f11.l4]) (Ev.pos (by omega) (Ev.pos (by omega) (Ev.pos (by omega) (Ev.bind (a := true) (by unfold f34; exact Ev.pos rfl (Ev.pos rfl (Ev.pos (strEq_self _) (Ev.ret _)))) (Ev.pos rfl hn)))))
noncomputable def mkE (a : Int) : Nat → List S61
  | 0 => []
  | n + 1 => ⟨a, a + 1, mt (a + 2)⟩ :: mkE (a + 3) n
theorem markE_loop : ∀ (r p : List S61) (a : Int), 0 ≤ a → a + 3 * r.length ≤ 4611686018427387904 → p.length + r.length ≤ 1073741824 → Ev (fun k => f13.l2 k (p ++ r) a (p.length : Int)) (a + 3 * r.length, p ++ mkE a r.length)
  | [], p, a, h0, h1, h2 => by
    refine Ev.step (fun k => by rw [f13.l2]) (Ev.neg (by simp) (Ev.ret' ?_))
    simp [mkE]
  | x :: r, p, a, h0, h1, h2 => by
    rw [List.length_cons] at h1 h2
    refine Ev.step (fun k => by rw [f13.l2]) (Ev.pos (by rw [List.length_append, List.length_cons]; omega) (Ev.pos (by omega) ?_))
    rw [wr (n := a + 1) (by omega) (by omega), wr (n := a + 1 + 1) (by omega) (by omega), wr (n := a + 1 + 1 + 1) (by omega) (by omega), wr (n := (p.length : Int) + 1) (by omega) (by omega), Int.toNat_natCast, show a + 1 + 1 + 1 = a + 3 by omega, show a + 1 + 1 = a + 2 by omega]
    refine Ev.bind (mt_ev (a + 2) (by omega) (by omega)) ?_
    rw [set_mid]
    have ih := markE_loop r (p ++ [⟨a, a + 1, mt (a + 2)⟩]) (a + 3) (by omega) (by omega) (by rw [List.length_append]; simp; omega)
    rw [List.append_assoc, List.singleton_append, List.length_append, List.length_singleton, show ((p.length + 1 : Nat) : Int) = (p.length : Int) + 1 by omega] at ih
    refine ih.eq ?_
    rw [List.length_cons, mkE, List.append_assoc]
    simp only [Prod.mk.injEq, List.singleton_append, and_true]
    omega
theorem sm_of {live safe : List S58} {ops : List S63} (s0 : smallF live) (s1 : smallF safe) (s2 : ∀ x ∈ ops, x.f3.size ≤ 4194304) (h : diskB live safe ops = true) : Sm live safe ops := by
  have hd := diskB_said h
  unfold diskB at h
  simp only [Bool.and_eq_true] at h
  exact ⟨by have := (filesB_said h.1).2.1; omega, s0, by have := (filesB_said h.2.1).2.1; omega, s1, hd.2.1, s2⟩
theorem number_yes {n : Int} (h0 : 0 ≤ n) (h1 : n ≤ 1000000000000) : Ev (fun k => f83 k n) true := (isNumber_ev n).eq (by rw [decide_eq_true h0, decide_eq_true h1]; rfl)
theorem stepsR_form {o : AR} (ho : Inv o.2.1 o.2.2.1 o.2.2.2) : ∀ (os : List S63) (now : AR), (∀ x ∈ os, x.f3.size ≤ 4194304) → Inv now.2.1 now.2.2.1 now.2.2.2 → ((stepsR o os now).1 ≠ 0 → (stepsR o os now).2 = o.2) ∧ Inv (stepsR o os now).2.1 (stepsR o os now).2.2.1 (stepsR o os now).2.2.2
  | [], now, _, h => ⟨fun hc => absurd rfl hc, h⟩
  | op :: r, now, hs, h => by
    have i1 := actR_inv h op.f0 op.f1 op.f2 op.f3 (hs op (List.mem_cons_self ..))
    have ih := stepsR_form ho r (actR now.2.1 now.2.2.1 now.2.2.2 op.f0 op.f1 op.f2 op.f3) (fun x hx => hs x (List.mem_cons_of_mem _ hx)) i1
    rw [stepsR]
    by_cases h0 : (actR now.2.1 now.2.2.1 now.2.2.2 op.f0 op.f1 op.f2 op.f3).1 = 0
    · rw [if_pos h0]
      exact ih
    · rw [if_neg h0]
      exact ⟨fun _ => rfl, ho⟩
theorem opsR_small (live : List S58) (n d : ByteArray) (hd : d.size ≤ 4194304) : ∀ x ∈ opsR live n d, x.f3.size ≤ 4194304 := by
  intro x hx
  unfold opsR at hx
  split at hx
  · simp only [List.mem_cons, List.not_mem_nil, or_false] at hx
    rcases hx with rfl | rfl | rfl
    · exact Nat.zero_le _
    · exact hd
    · exact Nat.zero_le _
  · simp only [List.mem_cons, List.not_mem_nil, or_false] at hx
    rcases hx with rfl | rfl
    · exact hd
    · exact Nat.zero_le _
theorem replR_form {live safe : List S58} {ops : List S63} (h : Inv live safe ops) (hk : diskB live safe ops = true) (n d : ByteArray) (hd : d.size ≤ 4194304) : ((replaceR live safe ops n d).1 ≠ 0 → (replaceR live safe ops n d).2 = (live, safe, ops)) ∧ Inv (replaceR live safe ops n d).2.1 (replaceR live safe ops n d).2.2.1 (replaceR live safe ops n d).2.2.2 := by
  unfold replaceR
  rw [if_pos hk]
  exact stepsR_form (o := (0, live, safe, ops)) h _ _ (opsR_small live n d hd) h
theorem sync_two {a b : List S58} {c : List S63} (h : Inv a b c) : ∃ r : List S58 × List S58 × List S63, Ev (fun k => f27 k a b c) r ∧ Ev (fun k => f63 k a b c) r ∧ r.1.length ≤ 60 ∧ r.2.1.length ≤ 60 ∧ r.2.2.length ≤ 200 := by
  have h60 := (filesB_said h.l).2.1
  have h61 := (filesB_said h.s).2.1
  have k1 := DiskOk_ev a b c (small_of h.l) (small_of h.s) (fun x hx => by have := h.o x hx; omega)
  have k2 := isDisk_ev a b c (small_of h.l) (small_of h.s) (fun x hx => by have := h.o x hx; omega) (by omega) (by omega)
  unfold f27 f63
  cases hb : diskB a b c with
  | false =>
    rw [hb] at k1 k2
    exact ⟨([], [], []), Ev.bind k1 (Ev.neg (by simp) (Ev.ret _)), Ev.bind k2 (Ev.neg (by simp) (Ev.ret _)), Nat.zero_le _, Nat.zero_le _, Nat.zero_le _⟩
  | true =>
    rw [hb] at k1 k2
    exact ⟨(a, a, []), Ev.bind k1 (Ev.pos rfl (Ev.pos (by omega) (Ev.pos (by omega) (Ev.ret _)))), Ev.bind k2 (Ev.pos rfl (Ev.bind (copyFiles_ev a (by omega)) (Ev.ret _))), h60, h60, Nat.zero_le _⟩
def SzAR (r : AR) : Prop := r.2.1.length ≤ 1048576 ∧ r.2.2.1.length ≤ 1048576 ∧ r.2.2.2.length ≤ 1048576
theorem SzAR.inv {c : Int} {a b : List S58} {o : List S63} (h : Inv a b o) : SzAR (c, a, b, o) := by
  have h60 := (filesB_said h.l).2.1
  have h61 := (filesB_said h.s).2.1
  have h62 := h.n
  exact ⟨by show a.length ≤ _; omega, by show b.length ≤ _; omega, by show o.length ≤ _; omega⟩
end Go.Proofs.YtopnfhlgaiocpaaGreat.P
namespace Go.Proofs.YtopnfhlgaiocpaaGreat.P
open Go Go.Proofs.YtopnfhlgaiocpaaGreat.PM Go.Proofs
theorem putText_two (s : ByteArray) (hs : s.size ≤ 4000) : ∃ r : ByteArray, Ev (fun k => f52 k s) r ∧ Ev (fun k => f90 k s) r ∧ r.size ≤ s.size + 10 := by
  unfold f52 f90
  obtain ⟨r, r1, r2, rs⟩ := put_two (s.size : Int) (by omega) (by omega)
  exact ⟨_, Ev.neg (by omega) (Ev.bind r1 (Ev.pos (by omega) (Ev.ret _))), Ev.bind r2 (Ev.pos (by omega) (Ev.ret _)), by rw [ByteArray.size_append]; omega⟩
theorem frame_size (kd : Int) (s : ByteArray) (h1 : 1 ≤ kd) (h2 : kd ≤ 100) (hs : s.size ≤ 4030) : ∃ r : ByteArray, Ev (fun k => f50 k kd s) r ∧ Ev (fun k => f88 k kd s) r ∧ r.size ≤ 4040 := by
  obtain ⟨r, r1, r2, _⟩ := frame_two kd s h1 h2 (by omega)
  refine ⟨r, r1, r2, ?_⟩
  obtain ⟨a, ha⟩ : ∃ a, a = four (IntKind.u32.wrap (s.size : Int)) := ⟨_, rfl⟩
  have al : a.length = 4 := by rw [ha]; rfl
  have hk : (strOf [(IntKind.u8.wrap kd)]).size = 1 := rfl
  have hz : ((strOf [(IntKind.u8.wrap kd)] ++ strOf a) ++ s).size = s.size + 5 := by rw [ByteArray.size_append, ByteArray.size_append, hk, strOf_size, al]; omega
  obtain ⟨c, c1, _⟩ := crc_two ((strOf [(IntKind.u8.wrap kd)] ++ strOf a) ++ s) (by omega)
  have e1 := four_ev (IntKind.u32.wrap (s.size : Int))
  rw [← ha] at e1
  have e := ev_det r1 (show Ev (fun k => f50 k kd s) (((strOf [(IntKind.u8.wrap kd)] ++ strOf a) ++ s) ++ strOf (four c)) by
    unfold f50
    refine Ev.bind (l1In_yes h1 h2) (Ev.pos rfl (Ev.neg (by omega) (Ev.bind e1 (Ev.pos (by rw [strOf_size, al]; omega) (Ev.pos (by rw [strOf_size, al]; omega) ?_)))))
    exact Ev.bind c1 (Ev.bind (four_ev c) (Ev.pos (by rw [strOf_size, strOf_size, al, four_len]; omega) (Ev.ret _))))
  rw [e, ByteArray.size_append, strOf_size, four_len, hz]
  omega
theorem entry_both {e : S61} (h : okE e) : Ev (fun k => f25 k e.f0 e.f1 e.f2) (txt e) ∧ Ev (fun k => f65 k e.f0 e.f1 e.f2) (txt e) ∧ (txt e).size ≤ 4040 := by
  have h' := h
  obtain ⟨⟨t0, t1⟩, ⟨k0, k1⟩, hb⟩ := entB_said h'
  have he := l5Entry_ev e.f0 e.f1 e.f2
  rw [show entB e.f0 e.f1 e.f2 = true from h] at he
  obtain ⟨x, x1, x2, xs⟩ := put_two e.f0 (by omega) t1
  obtain ⟨y, y1, y2, ys⟩ := put_two e.f1 k0 (by omega)
  obtain ⟨z, z1, z2, zs⟩ := putText_two e.f2 (by omega)
  obtain ⟨r, r1, r2, rs⟩ := frame_size 2 ((x ++ y) ++ z) (by decide) (by decide) (by rw [ByteArray.size_append, ByteArray.size_append]; omega)
  have hr : Ev (fun k => f25 k e.f0 e.f1 e.f2) r := by
    unfold f25
    exact Ev.bind he (Ev.pos rfl (Ev.bind x1 (Ev.bind y1 (Ev.pos (by omega) (Ev.bind z1 (Ev.pos (by omega) (Ev.bind r1 (Ev.ret _))))))))
  rw [txt_of hr]
  refine ⟨hr, ?_, rs⟩
  unfold f65
  exact Ev.bind x2 (Ev.bind y2 (Ev.pos (by omega) (Ev.bind z2 (Ev.pos (by omega) (Ev.bind r2 (Ev.ret _))))))
theorem txts_take (l : List S61) (i : Nat) (h : i < l.length) : txts (l.take (i + 1)) = txts (l.take i) ++ txt l[i] := by
  rw [List.take_succ_eq_append_getElem h, txts_snoc]
theorem txts_size_take (l : List S61) (h : ∀ e ∈ l, okE e) : ∀ n : Nat, n ≤ l.length → (txts (l.take n)).size ≤ 4040 * n
  | 0, _ => Nat.zero_le _
  | n + 1, hn => by
    have h1 := txts_size_take l h n (by omega)
    have h2 := (entry_both (h _ (List.getElem_mem (show n < l.length by omega)))).2.2
    rw [txts_take l n (by omega), ByteArray.size_append]
    omega
theorem txts_size (l : List S61) (h : ∀ e ∈ l, okE e) : (txts l).size ≤ 4040 * l.length := by
  have := txts_size_take l h l.length (Nat.le_refl _)
  rwa [List.take_of_length_le (Nat.le_refl _)] at this
theorem texts_loop (l : List S61) (ho : ∀ e ∈ l, okE e) (hl : l.length ≤ 1000000) (d : Nat) : ∀ i : Nat, l.length - i = d → i ≤ l.length → Ev (fun k => f61.l3 k (txts (l.take i)) l (l.length : Int) (i : Int)) (txts l) := by
  induction d with
  | zero =>
    intro i hd hi
    refine Ev.step (fun k => by rw [f61.l3]) (Ev.neg (by omega) (Ev.ret' ?_))
    rw [List.take_of_length_le (by omega)]
  | succ d ih =>
    intro i hd hi
    have hlt : i < l.length := by omega
    have hn := ih (i + 1) (by omega) (by omega)
    have he := entry_both (ho _ (List.getElem_mem hlt))
    have hs := txts_size (l.take i) (fun x hx => ho x (List.mem_of_mem_take hx))
    rw [List.length_take] at hs
    have hz := he.2.2
    refine Ev.step (fun k => by rw [f61.l3]) (Ev.pos (by omega) (Ev.pos (by omega) (Ev.pos (by omega) ?_)))
    rw [at_nat l i hlt]
    refine Ev.bind he.2.1 (Ev.pos (by omega) ?_)
    rw [← txts_take l i hlt, show IntKind.i64.wrap ((i : Int) + 1) = ((i + 1 : Nat) : Int) by rw [wr (by omega) (by omega)]; omega]
    exact hn
theorem texts_ev (l : List S61) (ho : ∀ e ∈ l, okE e) (hl : l.length ≤ 1000000) : Ev (fun k => f61 k l) (txts l) := by
  unfold f61
  exact texts_loop l ho hl _ 0 rfl (Nat.zero_le _)
theorem jok_loop (t v : Int) (l : List S61) (hl : l.length ≤ 1000000) (d : Nat) : ∀ (i : Nat) (x : Int), l.length - i = d → i ≤ l.length → (i = 0 → x = 0) → (0 < i → (at' l ((i : Int) - 1)).f0 = x) → ∃ b : Bool, Ev (fun k => f22.l4 k (i : Int) t v l) b ∧ Ev (fun k => f59.l5 k x l (l.length : Int) (i : Int) t v l) b ∧ (b = true → ∀ e ∈ l.drop i, okE e) := by
  induction d with
  | zero =>
    intro i x hd hi h0 h1
    refine ⟨true, Ev.step (fun k => by rw [f22.l4]) (Ev.neg (by omega) (Ev.ret _)), Ev.step (fun k => by rw [f59.l5]) (Ev.neg (by omega) (Ev.ret _)), fun _ e he => ?_⟩
    rw [List.drop_of_length_le (by omega)] at he
    cases he
  | succ d ih =>
    intro i x hd hi h0 h1
    have hlt : i < l.length := by omega
    have w1 : IntKind.i64.wrap ((i : Int) + 1) = ((i + 1 : Nat) : Int) := by rw [wr (by omega) (by omega)]; omega
    have w2 : IntKind.i64.wrap ((i : Int) - 1) = (i : Int) - 1 := wr (by omega) (by omega)
    have ha := at_nat l i hlt
    have e1 := l5Entry_ev l[i].f0 l[i].f1 l[i].f2
    have e2 := isEntry_ev l[i].f0 l[i].f1 l[i].f2
    cases hb : entB l[i].f0 l[i].f1 l[i].f2 with
    | false =>
      rw [hb] at e1 e2
      refine ⟨false, Ev.step (fun k => by rw [f22.l4]) ?_, Ev.step (fun k => by rw [f59.l5]) ?_, fun h => by cases h⟩
      · refine Ev.pos (by omega) (Ev.pos (by omega) ?_)
        rw [ha]
        exact Ev.bind e1 (Ev.neg (by simp) (Ev.ret _))
      · refine Ev.pos (by omega) (Ev.pos (by omega) (Ev.pos (by omega) ?_))
        rw [ha]
        exact Ev.bind e2 (Ev.neg (by simp) (Ev.ret _))
    | true =>
      rw [hb] at e1 e2
      have h1t := (entB_said hb).1.1
      by_cases hT : t < l[i].f0
      · refine ⟨false, Ev.step (fun k => by rw [f22.l4]) ?_, Ev.step (fun k => by rw [f59.l5]) ?_, fun h => by cases h⟩
        · refine Ev.pos (by omega) (Ev.pos (by omega) ?_)
          rw [ha]
          exact Ev.bind e1 (Ev.pos rfl (Ev.pos hT (Ev.ret _)))
        · refine Ev.pos (by omega) (Ev.pos (by omega) (Ev.pos (by omega) ?_))
          rw [ha]
          refine Ev.bind e2 (Ev.pos rfl ?_)
          by_cases hx : l[i].f0 < x
          · exact Ev.pos hx (Ev.ret _)
          · exact Ev.neg hx (Ev.pos hT (Ev.ret _))
      by_cases hx : l[i].f0 < x
      · have hi0 : 0 < i := by
          rcases Nat.eq_zero_or_pos i with h | h
          · have := h0 h; omega
          · exact h
        refine ⟨false, Ev.step (fun k => by rw [f22.l4]) ?_, Ev.step (fun k => by rw [f59.l5]) ?_, fun h => by cases h⟩
        · refine Ev.pos (by omega) (Ev.pos (by omega) ?_)
          rw [ha, w2, h1 hi0]
          exact Ev.bind e1 (Ev.pos rfl (Ev.neg hT (Ev.pos (by omega) (Ev.pos (by omega) (Ev.pos (by omega) (Ev.pos hx (Ev.ret _)))))))
        · refine Ev.pos (by omega) (Ev.pos (by omega) (Ev.pos (by omega) ?_))
          rw [ha]
          exact Ev.bind e2 (Ev.pos rfl (Ev.pos hx (Ev.ret _)))
      · obtain ⟨b, b1, b2, b3⟩ := ih (i + 1) l[i].f0 (by omega) (by omega) (fun h => by omega) (fun _ => by rw [show ((i + 1 : Nat) : Int) - 1 = (i : Int) by omega, ha])
        refine ⟨b, Ev.step (fun k => by rw [f22.l4]) ?_, Ev.step (fun k => by rw [f59.l5]) ?_, fun h e he => ?_⟩
        · refine Ev.pos (by omega) (Ev.pos (by omega) ?_)
          rw [ha]
          refine Ev.bind e1 (Ev.pos rfl (Ev.neg hT ?_))
          rw [w1, w2]
          by_cases hi0 : 0 < i
          · rw [h1 hi0]
            exact Ev.pos (by omega) (Ev.pos (by omega) (Ev.pos (by omega) (Ev.neg hx b1)))
          · exact Ev.neg (by omega) b1
        · refine Ev.pos (by omega) (Ev.pos (by omega) (Ev.pos (by omega) ?_))
          rw [ha]
          refine Ev.bind e2 (Ev.pos rfl (Ev.neg hx (Ev.neg hT ?_)))
          rw [w1]
          exact b2
        · rw [List.drop_eq_getElem_cons hlt] at he
          rcases List.mem_cons.1 he with rfl | he
          · exact hb
          · exact b3 h e he
theorem jok_two {t v : Int} (t0 : 0 ≤ t) (t1 : t ≤ 1000000000000) (v0 : 0 ≤ v) (v1 : v ≤ 1000000000000) (l : List S61) (hl : l.length ≤ 4611686018427387904) : ∃ b : Bool, Ev (fun k => f22 k t v l) b ∧ Ev (fun k => f59 k t v l) b ∧ (b = true → l.length ≤ 500 ∧ ∀ e ∈ l, okE e) := by
  unfold f22 f59
  by_cases h5 : 500 < (l.length : Int)
  · exact ⟨false, Ev.bind (l1In_yes t0 t1) (Ev.pos rfl (Ev.bind (l1In_yes v0 v1) (Ev.pos rfl (Ev.pos h5 (Ev.ret _))))), Ev.bind (number_yes t0 t1) (Ev.pos rfl (Ev.bind (number_yes v0 v1) (Ev.pos rfl (Ev.pos h5 (Ev.ret _))))), fun h => by cases h⟩
  · obtain ⟨b, b1, b2, b3⟩ := jok_loop t v l (by omega) _ 0 0 rfl (Nat.zero_le _) (fun _ => rfl) (fun h => absurd h (Nat.lt_irrefl _))
    exact ⟨b, Ev.bind (l1In_yes t0 t1) (Ev.pos rfl (Ev.bind (l1In_yes v0 v1) (Ev.pos rfl (Ev.neg h5 b1)))), Ev.bind (number_yes t0 t1) (Ev.pos rfl (Ev.bind (number_yes v0 v1) (Ev.pos rfl (Ev.neg h5 b2)))), fun h => ⟨by omega, b3 h⟩⟩
theorem add_loop {b0 b1 : List S58} {b2 : List S63} (h0 : Inv b0 b1 b2) (l : List S61) (ho : ∀ e ∈ l, okE e) (hl : l.length ≤ 1000000) (d : Nat) : ∀ (i : Nat) (live safe : List S58) (ops : List S63), l.length - i = d → i ≤ l.length → Inv live safe ops →
    ∃ r : AR, Ev (fun k => f6.l17v1 k live safe ops l 0 (i : Int) b0 b1 b2) r ∧ Ev (fun k => f31.l20 k live safe ops l (l.length : Int) (i : Int) b0 b1 b2) r ∧ SzAR r := by
  induction d with
  | zero =>
    intro i live safe ops hd hi h
    obtain ⟨w, w1, w2, z0, z1, z2⟩ := sync_two h
    exact ⟨(0, w.1, w.2.1, w.2.2), Ev.step (fun k => by rw [f6.l17v1]) (Ev.neg (by omega) (Ev.pos rfl (Ev.bind w1 (Ev.ret _)))), Ev.step (fun k => by rw [f31.l20]) (Ev.neg (by omega) (Ev.bind w2 (Ev.ret _))), ⟨by show w.1.length ≤ _; omega, by show w.2.1.length ≤ _; omega, by show w.2.2.length ≤ _; omega⟩⟩
  | succ d ih =>
    intro i live safe ops hd hi h
    have hlt : i < l.length := by omega
    have w1 : IntKind.i64.wrap ((i : Int) + 1) = ((i + 1 : Nat) : Int) := by rw [wr (by omega) (by omega)]; omega
    obtain ⟨e1, e2, ez⟩ := entry_both (ho _ (List.getElem_mem hlt))
    have a1 := spec_act h 1 nLog (⟨#[]⟩ : ByteArray) (txt l[i]) (by omega)
    have a2 := impl_act h 1 nLog (⟨#[]⟩ : ByteArray) (txt l[i]) (by omega)
    have i1 := actR_inv h 1 nLog (⟨#[]⟩ : ByteArray) (txt l[i]) (by omega)
    generalize actR live safe ops 1 nLog (⟨#[]⟩ : ByteArray) (txt l[i]) = x at *
    by_cases hx : x.1 = 0
    · obtain ⟨r, r1, r2, rz⟩ := ih (i + 1) x.2.1 x.2.2.1 x.2.2.2 (by omega) (by omega) i1
      refine ⟨r, Ev.step (fun k => by rw [f6.l17v1]) ?_, Ev.step (fun k => by rw [f31.l20]) ?_, rz⟩
      · refine Ev.pos (by omega) (Ev.pos rfl (Ev.pos (by omega) ?_))
        rw [at_nat l i hlt]
        refine Ev.bind e1 (Ev.bind a1 ?_)
        rw [hx, w1]
        exact r1
      · refine Ev.pos (by omega) (Ev.pos (by omega) (Ev.pos (by omega) ?_))
        rw [at_nat l i hlt]
        refine Ev.bind e2 (Ev.bind a2 (Ev.pos hx ?_))
        rw [w1]
        exact r2
    · refine ⟨(x.1, b0, b1, b2), Ev.step (fun k => by rw [f6.l17v1]) ?_, Ev.step (fun k => by rw [f31.l20]) ?_, SzAR.inv h0⟩
      · refine Ev.pos (by omega) (Ev.pos rfl (Ev.pos (by omega) ?_))
        rw [at_nat l i hlt]
        refine Ev.bind e1 (Ev.bind a1 ?_)
        rw [w1]
        refine Ev.step (fun k => by rw [f6.l17v1]) ?_
        by_cases hn : i + 1 < l.length
        · exact Ev.pos (by omega) (Ev.neg hx (Ev.bind (copyD_ev h0) (Ev.ret _)))
        · exact Ev.neg (by omega) (Ev.neg hx (Ev.bind (copyD_ev h0) (Ev.ret _)))
      · refine Ev.pos (by omega) (Ev.pos (by omega) (Ev.pos (by omega) ?_))
        rw [at_nat l i hlt]
        exact Ev.bind e2 (Ev.bind a2 (Ev.neg hx (Ev.bind (icopy_ev h0) (Ev.ret _))))
theorem add_two {b0 b1 : List S58} {b2 : List S63} (h0 : Inv b0 b1 b2) (l : List S61) (ho : ∀ e ∈ l, okE e) (hl : l.length ≤ 1000000) :
    ∃ r : AR, Ev (fun k => f6.l17 k l 0 0 b0 b1 b2 b0 b1 b2) r ∧ Ev (fun k => ((f58 k b0 b1 b2).bind fun t11 => (f31.l20 k t11.1 t11.2.1 t11.2.2 l (l.length : Int) 0 b0 b1 b2))) r ∧ SzAR r := by
  obtain ⟨r, r1, r2, rz⟩ := add_loop h0 l ho hl _ 0 b0 b1 b2 rfl (Nat.zero_le _) h0
  refine ⟨r, ?_, Ev.bind (icopy_ev h0) r2, rz⟩
  refine Ev.step (fun k => by rw [f6.l17]) ?_
  obtain ⟨K, hK⟩ := r1
  refine ⟨K, fun k hk => ?_⟩
  have := hK (k + 1) (by omega)
  simp only [f6.l17v1] at this
  exact this
theorem new_loop {b0 b1 : List S58} {b2 : List S63} (l : List S61) (ho : ∀ e ∈ l, okE e) (hl : l.length ≤ 1000000) {r : AR} (hr : Ev (fun k => ((f26 k b0 b1 b2 (⟨#[108, 111, 103]⟩ : ByteArray) (txts l)).bind fun t18 => (if t18.1 = 0 then ((f27 k t18.2.1 t18.2.2.1 t18.2.2.2).bind fun t19 => some ((0 : Int), t19.1, t19.2.1, t19.2.2)) else ((f21 k b0 b1 b2).bind fun t20 => some (t18.1, t20.1, t20.2.1, t20.2.2))))) r) (c0 c1 : List S58) (c2 : List S63) (d : Nat) : ∀ i : Nat, l.length - i = d → i ≤ l.length → Ev (fun k => f6.l22 k l (txts (l.take i)) (i : Int) b0 b1 b2 c0 c1 c2) r := by
  induction d with
  | zero =>
    intro i hd hi
    refine Ev.step (fun k => by rw [f6.l22]) (Ev.neg (by omega) ?_)
    rw [List.take_of_length_le (by omega)]
    exact hr
  | succ d ih =>
    intro i hd hi
    have hlt : i < l.length := by omega
    have hn := ih (i + 1) (by omega) (by omega)
    have he := entry_both (ho _ (List.getElem_mem hlt))
    have hs := txts_size (l.take i) (fun x hx => ho x (List.mem_of_mem_take hx))
    rw [List.length_take] at hs
    have hz := he.2.2
    refine Ev.step (fun k => by rw [f6.l22]) (Ev.pos (by omega) (Ev.pos (by omega) ?_))
    rw [at_nat l i hlt]
    refine Ev.bind he.1 (Ev.pos (by omega) ?_)
    rw [← txts_take l i hlt, show IntKind.i64.wrap ((i : Int) + 1) = ((i + 1 : Nat) : Int) by rw [wr (by omega) (by omega)]; omega]
    exact hn
theorem new_two {b0 b1 : List S58} {b2 : List S63} (hs : Sm b0 b1 b2) (hk : diskB b0 b1 b2 = true) (l : List S61) (ho : ∀ e ∈ l, okE e) (hl : l.length ≤ 500) :
    ∃ r : AR, Ev (fun k => f6.l22 k l (⟨#[]⟩ : ByteArray) 0 b0 b1 b2 b0 b1 b2) r ∧ Ev (fun k => ((f61 k l).bind fun t6 => ((f62 k b0 b1 b2 (⟨#[108, 111, 103]⟩ : ByteArray) t6).bind fun t7 => (if t7.1 = 0 then ((f63 k t7.2.1 t7.2.2.1 t7.2.2.2).bind fun t8 => some ((0 : Int), t8.1, t8.2.1, t8.2.2)) else ((f58 k b0 b1 b2).bind fun t9 => some (t7.1, t9.1, t9.2.1, t9.2.2)))))) r ∧ SzAR r := by
  have hI := hs.inv hk
  have hz := txts_size l ho
  have r1 := spec_replace hs nLog (txts l) (by decide) (by omega)
  have r2 := impl_repl hs nLog (txts l) (by decide) (by omega)
  obtain ⟨hf, hi⟩ := replR_form hI hk nLog (txts l) (by omega)
  have ht := texts_ev l ho (by omega)
  generalize replaceR b0 b1 b2 nLog (txts l) = u at *
  obtain ⟨uc, ul, us, uo⟩ := u
  simp only at hf hi
  by_cases hc : uc = 0
  · obtain ⟨w, w1, w2, z0, z1, z2⟩ := sync_two hi
    refine ⟨(0, w.1, w.2.1, w.2.2), new_loop l ho (by omega) ?_ b0 b1 b2 _ 0 rfl (Nat.zero_le _), Ev.bind ht (Ev.bind r2 (Ev.pos hc (Ev.bind w2 (Ev.ret _)))), ⟨by show w.1.length ≤ _; omega, by show w.2.1.length ≤ _; omega, by show w.2.2.length ≤ _; omega⟩⟩
    exact Ev.bind r1 (Ev.pos hc (Ev.bind w1 (Ev.ret _)))
  · refine ⟨(uc, b0, b1, b2), new_loop l ho (by omega) ?_ b0 b1 b2 _ 0 rfl (Nat.zero_le _), Ev.bind ht (Ev.bind r2 (Ev.neg hc (Ev.bind (icopy_ev hI) (Ev.ret _)))), SzAR.inv hI⟩
    exact Ev.bind r1 (Ev.neg hc (Ev.bind (copyD_ev hI) (Ev.ret _)))
theorem file_whole {live : List S58} {sz : Int} {es : List S61} (h : LogOk live sz es) : strEq (logData live) (txts es) = true ↔ sz = ((logData live).size : Int) := by
  obtain ⟨_, Z, z1, z2, z3⟩ := h
  rw [strEq_iff, z3, z1]
  constructor
  · intro h
    have := congrArg ByteArray.size h
    rw [ByteArray.size_extract] at this
    omega
  · intro h
    have : Z = (logData live).size := by omega
    rw [this, ByteArray.extract_zero_size]
theorem entries_two {live safe : List S58} {ops : List S63} (s0 : smallF live) (s1 : smallF safe) (s2 : ∀ x ∈ ops, x.f3.size ≤ 1048576) (n0 : live.length ≤ 1048576) (n1 : safe.length ≤ 1048576) (frm : Int) (l : List S61) (hl : l.length ≤ 1048576) : ∃ r : AR, Ev (fun k => f6 k live safe ops frm l) r ∧ Ev (fun k => f9 k live safe ops frm l) r ∧ SzAR r := by
  have s2' : ∀ x ∈ ops, x.f3.size ≤ 4194304 := fun x hx => by have := s2 x hx; omega
  have k1 := DiskOk_ev live safe ops s0 s1 (fun x hx => by have := s2 x hx; omega)
  have k2 := isDisk_ev live safe ops s0 s1 (fun x hx => by have := s2 x hx; omega) n0 n1
  suffices H : ∃ r : AR, Ev (fun k => f6 k live safe ops frm l) r ∧ Ev (fun k => f31 k live safe ops frm l) r ∧ SzAR r by
    obtain ⟨r, r1, r2, rz⟩ := H
    refine ⟨r, r1, ?_, rz⟩
    unfold f9
    exact Ev.bind r2 (Ev.ret _)
  unfold f6 f31
  cases hd : diskB live safe ops with
  | false =>
    rw [hd] at k1 k2
    exact ⟨(1, [], [], []), Ev.bind k1 (Ev.neg (by simp) (Ev.ret _)), Ev.bind k2 (Ev.neg (by simp) (Ev.ret _)), ⟨Nat.zero_le _, Nat.zero_le _, Nat.zero_le _⟩⟩
  | true =>
  rw [hd] at k1 k2
  have hs := sm_of s0 s1 s2' hd
  have hI := hs.inv hd
  obtain ⟨t, v, sz, ok, es, j1, j2, ⟨jt0, jt1⟩, ⟨jv0, jv1⟩, el, jl⟩ := journal_two hs hd
  have c1 := copyD_ev hI
  have c2 := icopy_ev hI
  have hz : SzAR ((11 : Int), live, safe, ops) := SzAR.inv hI
  cases ok with
  | false => exact ⟨_, Ev.bind k1 (Ev.pos rfl (Ev.bind j1 (Ev.neg (by simp) (Ev.bind c1 (Ev.ret _))))), Ev.bind k2 (Ev.pos rfl (Ev.bind j2 (Ev.neg (by simp) (Ev.bind c2 (Ev.ret _))))), hz⟩
  | true =>
  have jl := jl rfl
  rw [if_pos rfl] at j2
  by_cases hF : 0 ≤ frm ∧ frm ≤ ((es.length : Nat) : Int)
  case neg => exact ⟨_, Ev.bind k1 (Ev.pos rfl (Ev.bind j1 (Ev.pos rfl (Ev.bind (l1In_no hF) (Ev.neg (by simp) (Ev.bind c1 (Ev.ret _))))))), Ev.bind k2 (Ev.pos rfl (Ev.bind j2 (Ev.pos rfl (Ev.bind (in_no hF) (Ev.neg (by simp) (Ev.bind c2 (Ev.ret _))))))), hz⟩
  have ht : (es.take frm.toNat).length = frm.toNat := by rw [List.length_take]; omega
  have ht1 : (List.take frm.toNat (t, v, true, es).2.2.2).length = frm.toNat := ht
  have ht2 : (List.take frm.toNat (t, v, sz, true, es).2.2.2.2).length = frm.toNat := ht
  have hn1 : ((t, v, true, es).2.2.2).length = es.length := rfl
  have hn2 : ((t, v, sz, true, es).2.2.2.2).length = es.length := rfl
  obtain ⟨b, b1, b2, b3⟩ := jok_two jt0 jt1 jv0 jv1 (es.take frm.toNat ++ l) (by rw [List.length_append]; omega)
  by_cases h5 : 500 < (l.length : Int)
  · refine ⟨_, Ev.bind k1 (Ev.pos rfl (Ev.bind j1 (Ev.pos rfl (Ev.bind (l1In_yes hF.1 hF.2) (Ev.pos rfl (Ev.pos h5 (Ev.bind c1 (Ev.ret _)))))))), Ev.bind k2 (Ev.pos rfl (Ev.bind j2 (Ev.pos rfl (Ev.bind (in_yes hF.1 hF.2) (Ev.pos rfl (Ev.pos hF.1 (Ev.pos hF.2 (Ev.pos (by omega) (Ev.pos (by omega) (Ev.pos (by omega) (Ev.pos (by omega) (Ev.bind b2 (Ev.neg ?_ (Ev.bind c2 (Ev.ret _))))))))))))))), hz⟩
    intro hb
    have := (b3 hb).1
    rw [List.length_append] at this
    omega
  cases b with
  | false => exact ⟨_, Ev.bind k1 (Ev.pos rfl (Ev.bind j1 (Ev.pos rfl (Ev.bind (l1In_yes hF.1 hF.2) (Ev.pos rfl (Ev.neg h5 (Ev.pos hF.1 (Ev.pos hF.2 (Ev.pos (by omega) (Ev.pos (by omega) (Ev.pos (by omega) (Ev.pos (by omega) (Ev.bind b1 (Ev.neg (by simp) (Ev.bind c1 (Ev.ret _)))))))))))))))), Ev.bind k2 (Ev.pos rfl (Ev.bind j2 (Ev.pos rfl (Ev.bind (in_yes hF.1 hF.2) (Ev.pos rfl (Ev.pos hF.1 (Ev.pos hF.2 (Ev.pos (by omega) (Ev.pos (by omega) (Ev.pos (by omega) (Ev.pos (by omega) (Ev.bind b2 (Ev.neg (by simp) (Ev.bind c2 (Ev.ret _))))))))))))))), hz⟩
  | true =>
  obtain ⟨hall, hok⟩ := b3 rfl
  have hlo : ∀ e ∈ l, okE e := fun e he => hok e (List.mem_append_right _ he)
  have hn := hs.ln
  have a1 := l4At_ev live nLog (by omega)
  have a2 := fileOf_ev live nLog (by omega)
  have hlt := idxP_lt (nameIs nLog) live
  have tes := texts_ev es jl.1 (by omega)
  have hw := file_whole jl
  obtain ⟨n, m1, m2, mz⟩ := new_two hs hd (es.take frm.toNat ++ l) hok hall
  obtain ⟨a, g1, g2, gz⟩ := add_two hI l hlo (by omega)
  by_cases h0 : 0 ≤ idxP (nameIs nLog) live
  · have ed : logData live = (at' live (idxP (nameIs nLog) live)).f1 := by unfold logData; rw [if_pos h0]
    rw [ed] at hw
    by_cases hE : frm = ((es.length : Nat) : Int)
    · by_cases hS : sz = (((at' live (idxP (nameIs nLog) live)).f1).size : Int)
      · exact ⟨a, Ev.bind k1 (Ev.pos rfl (Ev.bind j1 (Ev.pos rfl (Ev.bind (l1In_yes hF.1 hF.2) (Ev.pos rfl (Ev.neg h5 (Ev.pos hF.1 (Ev.pos hF.2 (Ev.pos (by omega) (Ev.pos (by omega) (Ev.pos (by omega) (Ev.pos (by omega) (Ev.bind b1 (Ev.pos rfl (Ev.bind a1 (Ev.pos h0 (Ev.pos hlt (Ev.pos hE (Ev.pos hS g1))))))))))))))))))), Ev.bind k2 (Ev.pos rfl (Ev.bind j2 (Ev.pos rfl (Ev.bind (in_yes hF.1 hF.2) (Ev.pos rfl (Ev.pos hF.1 (Ev.pos hF.2 (Ev.pos (by omega) (Ev.pos (by omega) (Ev.pos (by omega) (Ev.pos (by omega) (Ev.bind b2 (Ev.pos rfl (Ev.bind a2 (Ev.pos h0 (Ev.pos hlt (Ev.neg (by omega) (Ev.bind tes (Ev.pos (hw.2 hS) g2))))))))))))))))))), gz⟩
      · exact ⟨n, Ev.bind k1 (Ev.pos rfl (Ev.bind j1 (Ev.pos rfl (Ev.bind (l1In_yes hF.1 hF.2) (Ev.pos rfl (Ev.neg h5 (Ev.pos hF.1 (Ev.pos hF.2 (Ev.pos (by omega) (Ev.pos (by omega) (Ev.pos (by omega) (Ev.pos (by omega) (Ev.bind b1 (Ev.pos rfl (Ev.bind a1 (Ev.pos h0 (Ev.pos hlt (Ev.pos hE (Ev.neg hS m1))))))))))))))))))), Ev.bind k2 (Ev.pos rfl (Ev.bind j2 (Ev.pos rfl (Ev.bind (in_yes hF.1 hF.2) (Ev.pos rfl (Ev.pos hF.1 (Ev.pos hF.2 (Ev.pos (by omega) (Ev.pos (by omega) (Ev.pos (by omega) (Ev.pos (by omega) (Ev.bind b2 (Ev.pos rfl (Ev.bind a2 (Ev.pos h0 (Ev.pos hlt (Ev.neg (by omega) (Ev.bind tes (Ev.neg (fun h => hS (hw.1 h)) m2))))))))))))))))))), mz⟩
    · exact ⟨n, Ev.bind k1 (Ev.pos rfl (Ev.bind j1 (Ev.pos rfl (Ev.bind (l1In_yes hF.1 hF.2) (Ev.pos rfl (Ev.neg h5 (Ev.pos hF.1 (Ev.pos hF.2 (Ev.pos (by omega) (Ev.pos (by omega) (Ev.pos (by omega) (Ev.pos (by omega) (Ev.bind b1 (Ev.pos rfl (Ev.bind a1 (Ev.pos h0 (Ev.pos hlt (Ev.neg hE m1)))))))))))))))))), Ev.bind k2 (Ev.pos rfl (Ev.bind j2 (Ev.pos rfl (Ev.bind (in_yes hF.1 hF.2) (Ev.pos rfl (Ev.pos hF.1 (Ev.pos hF.2 (Ev.pos (by omega) (Ev.pos (by omega) (Ev.pos (by omega) (Ev.pos (by omega) (Ev.bind b2 (Ev.pos rfl (Ev.bind a2 (Ev.pos h0 (Ev.pos hlt (Ev.pos (by omega) m2))))))))))))))))), mz⟩
  · have ed : logData live = (⟨#[]⟩ : ByteArray) := by unfold logData; rw [if_neg h0]
    rw [ed, show (((⟨#[]⟩ : ByteArray).size : Nat) : Int) = 0 from rfl] at hw
    by_cases hE : frm = ((es.length : Nat) : Int)
    · by_cases hS : sz = 0
      · exact ⟨a, Ev.bind k1 (Ev.pos rfl (Ev.bind j1 (Ev.pos rfl (Ev.bind (l1In_yes hF.1 hF.2) (Ev.pos rfl (Ev.neg h5 (Ev.pos hF.1 (Ev.pos hF.2 (Ev.pos (by omega) (Ev.pos (by omega) (Ev.pos (by omega) (Ev.pos (by omega) (Ev.bind b1 (Ev.pos rfl (Ev.bind a1 (Ev.neg h0 (Ev.pos hE (Ev.pos hS g1)))))))))))))))))), Ev.bind k2 (Ev.pos rfl (Ev.bind j2 (Ev.pos rfl (Ev.bind (in_yes hF.1 hF.2) (Ev.pos rfl (Ev.pos hF.1 (Ev.pos hF.2 (Ev.pos (by omega) (Ev.pos (by omega) (Ev.pos (by omega) (Ev.pos (by omega) (Ev.bind b2 (Ev.pos rfl (Ev.bind a2 (Ev.neg h0 (Ev.neg (by omega) (Ev.bind tes (Ev.pos (hw.2 hS) g2)))))))))))))))))), gz⟩
      · exact ⟨n, Ev.bind k1 (Ev.pos rfl (Ev.bind j1 (Ev.pos rfl (Ev.bind (l1In_yes hF.1 hF.2) (Ev.pos rfl (Ev.neg h5 (Ev.pos hF.1 (Ev.pos hF.2 (Ev.pos (by omega) (Ev.pos (by omega) (Ev.pos (by omega) (Ev.pos (by omega) (Ev.bind b1 (Ev.pos rfl (Ev.bind a1 (Ev.neg h0 (Ev.pos hE (Ev.neg hS m1)))))))))))))))))), Ev.bind k2 (Ev.pos rfl (Ev.bind j2 (Ev.pos rfl (Ev.bind (in_yes hF.1 hF.2) (Ev.pos rfl (Ev.pos hF.1 (Ev.pos hF.2 (Ev.pos (by omega) (Ev.pos (by omega) (Ev.pos (by omega) (Ev.pos (by omega) (Ev.bind b2 (Ev.pos rfl (Ev.bind a2 (Ev.neg h0 (Ev.neg (by omega) (Ev.bind tes (Ev.neg (fun h => hS (hw.1 h)) m2)))))))))))))))))), mz⟩
    · exact ⟨n, Ev.bind k1 (Ev.pos rfl (Ev.bind j1 (Ev.pos rfl (Ev.bind (l1In_yes hF.1 hF.2) (Ev.pos rfl (Ev.neg h5 (Ev.pos hF.1 (Ev.pos hF.2 (Ev.pos (by omega) (Ev.pos (by omega) (Ev.pos (by omega) (Ev.pos (by omega) (Ev.bind b1 (Ev.pos rfl (Ev.bind a1 (Ev.neg h0 (Ev.neg hE m1))))))))))))))))), Ev.bind k2 (Ev.pos rfl (Ev.bind j2 (Ev.pos rfl (Ev.bind (in_yes hF.1 hF.2) (Ev.pos rfl (Ev.pos hF.1 (Ev.pos hF.2 (Ev.pos (by omega) (Ev.pos (by omega) (Ev.pos (by omega) (Ev.pos (by omega) (Ev.bind b2 (Ev.pos rfl (Ev.bind a2 (Ev.neg h0 (Ev.pos (by omega) m2)))))))))))))))), mz⟩
end Go.Proofs.YtopnfhlgaiocpaaGreat.P
namespace Go.Proofs.YtopnfhlgaiocpaaGreat.P
open Go Go.Proofs.YtopnfhlgaiocpaaGreat.PM Go.Proofs
def to_Entry (x : S47) : S61 := ⟨x.f0, x.f1, x.f2⟩
theorem szEntry_ev (n m : Int) (y : ByteArray) (a : Int) (h0 : 0 ≤ a) (h1 : a ≤ 1048576) (hy : y.size ≤ maxLen) : ∃ r, Ev (fun k => f17 k n m y a) r ∧ (r < 0 ∨ (0 ≤ r ∧ r ≤ a)) := by
  unfold maxLen at hy
  unfold f17
  rw [wr (n := a - y.size) (by omega) (by omega)]
  by_cases h2 : a - y.size < 0
  · exact ⟨-1, Ev.pos h2 (Ev.ret _), .inl (by omega)⟩
  · exact ⟨_, Ev.neg h2 (Ev.ret _), .inr ⟨by omega, by omega⟩⟩
theorem szEntryS_loop (l : List S47) (hl : l.length ≤ 1048576) (hs : ∀ x ∈ l, x.f2.size ≤ maxLen) (d : Nat) : ∀ (i : Nat) (a : Int), l.length - i = d → i ≤ l.length → 0 ≤ a → a ≤ 1048576 → ∃ r, Ev (fun k => f5.l5 k l a (i : Int)) r := by
  induction d with
  | zero =>
    intro i a hd hi h0 h1
    exact ⟨a, Ev.step (fun k => by rw [f5.l5]) (Ev.neg (by omega) (Ev.ret _))⟩
  | succ d ih =>
    intro i a hd hi h0 h1
    have hlt : i < l.length := by omega
    have s0 := hs _ (List.getElem_mem hlt)
    obtain ⟨r, hr, h⟩ := szEntry_ev l[i].f0 l[i].f1 l[i].f2 a h0 h1 s0
    rw [← at_nat l i hlt] at hr
    rcases h with h | ⟨r0, r1⟩
    · exact ⟨-1, Ev.step (fun k => by rw [f5.l5]) (Ev.pos (by omega) (Ev.pos (by omega) (Ev.bind hr (Ev.pos h (Ev.ret _)))))⟩
    · obtain ⟨q, hq⟩ := ih (i + 1) r (by omega) (by omega) r0 (by omega)
      rw [show ((i + 1 : Nat) : Int) = IntKind.i64.wrap ((i : Int) + 1) by rw [wr (by omega) (by omega)]; omega] at hq
      refine ⟨q, Ev.step (fun k => by rw [f5.l5]) (Ev.pos (by omega) (Ev.pos (by omega) (Ev.bind hr ?_)))⟩
      exact Ev.neg (by omega) hq
theorem szEntryS_ev (l : List S47) (a : Int) (h0 : 0 ≤ a) (h1 : a ≤ 1048576) (hl : l.length ≤ maxLen) (hs : ∀ x ∈ l, x.f2.size ≤ maxLen) : ∃ r, Ev (fun k => f5 k l a) r ∧ (r < 0 ∨ l.length ≤ 1048576) := by
  unfold maxLen at hl
  unfold f5
  rw [wr (n := a - l.length) (by omega) (by omega)]
  by_cases h2 : a - l.length < 0
  · exact ⟨-1, Ev.pos h2 (Ev.ret _), .inl (by omega)⟩
  · obtain ⟨r, hr⟩ := szEntryS_loop l (by omega) hs _ 0 (a - l.length) rfl (Nat.zero_le _) (by omega) (by omega)
    exact ⟨r, Ev.neg h2 hr, .inr (by omega)⟩
theorem toEntryS_loop (l : List S47) (z : S61) (hl : l.length ≤ 1048576) (d : Nat) : ∀ i : Nat, l.length - i = d → i ≤ l.length → Ev (fun k => f8.l3 k ((l.map to_Entry).take i ++ List.replicate ((l.map to_Entry).length - i) z) l (i : Int)) (l.map to_Entry) := by
  have hm : (l.map to_Entry).length = l.length := List.length_map ..
  induction d with
  | zero =>
    intro i hd hi
    exact Ev.step (fun k => by rw [f8.l3]) (Ev.neg (by omega) (Ev.ret' (fill_end z _ i (by omega))))
  | succ d ih =>
    intro i hd hi
    have hlt : i < l.length := by omega
    have hq := fill_length z (l.map to_Entry) i (by omega)
    refine Ev.step (fun k => by rw [f8.l3]) (Ev.pos (by omega) (Ev.pos (by omega) (Ev.bind (a := (l[i].f0, l[i].f1, l[i].f2)) (by rw [at_nat l i hlt]; unfold f30; exact Ev.ret _) ?_)))
    refine Ev.pos (by rw [hq]; omega) ?_
    have hn := ih (i + 1) (by omega) (by omega)
    rw [wr (by omega) (by omega), Int.toNat_natCast]
    have e : (⟨l[i].f0, l[i].f1, l[i].f2⟩ : S61) = (l.map to_Entry)[i]'(by omega) := by rw [List.getElem_map]; rfl
    show Ev (fun n => f8.l3 n ((((l.map to_Entry).take i ++ List.replicate ((l.map to_Entry).length - i) z)).set i (⟨l[i].f0, l[i].f1, l[i].f2⟩ : S61)) l ((i : Int) + 1)) _
    rw [e, fillL_step z _ i (by omega)]
    rwa [show ((i + 1 : Nat) : Int) = (i : Int) + 1 by omega] at hn
theorem toEntryS_ev (l : List S47) (hl : l.length ≤ 1048576) : Ev (fun k => f8 k l) (l.map to_Entry) := by
  unfold f8
  refine Ev.pos (by omega) (Ev.pos (by omega) (Ev.pos (by omega) (Ev.pos (by omega) ?_)))
  have := toEntryS_loop l (⟨0, 0, (⟨#[]⟩ : ByteArray)⟩ : S61) hl _ 0 rfl (Nat.zero_le _)
  simpa using this
theorem law3_ev (l0 l1 : List S75) (l2 : List S77) (frm : Int) (l : List S47) (o0 : okF l0) (o1 : okF l1) (o2 : okO l2) (o3 : l.length ≤ maxLen) (o4 : ∀ x ∈ l, x.f2.size ≤ maxLen) : Ev (fun k => f3 k l0 l1 l2 frm l) true := by
  unfold f3
  obtain ⟨r, hr, h⟩ := szDisk_ev l0 l1 l2 1048576 (by omega) (by omega) o0 o1 o2
  refine Ev.bind hr ?_
  rcases h with h | ⟨r0, rm, hz⟩
  · exact Ev.pos h (Ev.ret _)
  refine Ev.neg (by omega) ?_
  obtain ⟨q, hq, h⟩ := szEntryS_ev l r r0 rm o3 o4
  refine Ev.bind hq ?_
  by_cases hq0 : q < 0
  · exact Ev.pos hq0 (Ev.ret _)
  have hl : l.length ≤ 1048576 := by
    rcases h with h | h
    · exact absurd h hq0
    · exact h
  refine Ev.neg hq0 ?_
  have n0 := hz.n0
  have n1 := hz.n1
  have n2 := hz.n2
  have s0 : smallF (l0.map to_File) := fun x hx => by have := (hz.s0 x hx).2; omega
  have s1 : smallF (l1.map to_File) := fun x hx => by have := (hz.s1 x hx).2; omega
  have s2 : ∀ x ∈ l2.map to_DOp, x.f3.size ≤ 1048576 := fun x hx => (hz.s2 x hx).2.2
  have hm : (l.map to_Entry).length = l.length := List.length_map ..
  obtain ⟨⟨cb, ca, cs, co⟩, hs, hi, c0, c1, c2⟩ := entries_two s0 s1 s2 n0 n1 frm (l.map to_Entry) (by omega)
  simp only at c0 c1 c2
  refine Ev.bind (toDisk_ev l0 l1 l2 hz) (Ev.bind (toEntryS_ev l hl) (Ev.bind hs (Ev.bind hi (Ev.bind (eqDisk_ev ca cs co (by omega) (by omega) (by omega)) (Ev.pos rfl (Ev.pos rfl ?_))))))
  refine Ev.bind (eqDisk_ev (l0.map to_File) (l1.map to_File) (l2.map to_DOp) (by omega) (by omega) (by omega)) (Ev.pos rfl ?_)
  refine Ev.bind (a := true) (by
    unfold f11
    exact Ev.pos rfl (eqEntryS_loop (l.map to_Entry) (by omega) _ 0 rfl (Nat.zero_le _))) (Ev.pos rfl ?_)
  refine Ev.bind (markD_ev (l0.map to_File) (l1.map to_File) (l2.map to_DOp) (by omega) (by omega) (by omega)) ?_
  have he := markE_loop (l.map to_Entry) [] (1 + 2 * (l0.map to_File).length + 2 * (l1.map to_File).length + 4 * (l2.map to_DOp).length) (by omega) (by omega) (by simp; omega)
  refine Ev.bind (by unfold f13; exact he) (Ev.neg (by show ¬ _ < (0 : Int); omega) (Ev.bind (markD_ev ca cs co (by omega) (by omega) (by omega)) ?_))
  refine Ev.pos (by show ca.length ≤ (mkF _ _).length; rw [mkF_len]; omega) (Ev.pos (by show cs.length ≤ (mkF _ _).length; rw [mkF_len]; omega) (Ev.pos (by show co.length ≤ (mkO _ _).length; rw [mkO_len]; omega) ?_))
  have hh := heldD_ev ca.length cs.length co.length (by omega) (by omega) (by omega)
  have t0 : (mkF 1 ca.length).take ca.length = mkF 1 ca.length := List.take_of_length_le (by rw [mkF_len]; omega)
  have t1 : (mkF (1 + 2 * (ca.length : Int)) cs.length).take cs.length = mkF (1 + 2 * (ca.length : Int)) cs.length := List.take_of_length_le (by rw [mkF_len]; omega)
  have t2 : (mkO (1 + 2 * (ca.length : Int) + 2 * cs.length) co.length).take co.length = mkO (1 + 2 * (ca.length : Int) + 2 * cs.length) co.length := List.take_of_length_le (by rw [mkO_len]; omega)
  refine Ev.bind (a := 1 + 2 * (ca.length : Int) + 2 * cs.length + 4 * co.length) ?_ (Ev.neg (by omega) (Ev.pos rfl (Ev.ret _)))
  simp only [t0, t1, t2]
  exact hh
end Go.Proofs.YtopnfhlgaiocpaaGreat.P
