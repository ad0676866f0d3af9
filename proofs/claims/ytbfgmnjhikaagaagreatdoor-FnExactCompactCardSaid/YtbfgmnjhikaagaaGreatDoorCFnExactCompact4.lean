/- Part of the proof of FnExactCompact: no statement of its own. -/
import Derived.Ground.NamesProg
import Derived.Ground.SlgnProg
import Derived.Lib.IndexBytes
import Derived.Shelf.Lays
import Derived.Shelf.LaysC
import Derived.Shelf.SlGeneric
import Derived.Shelf.SlLaysNS
import Derived.Shelf.SortG.Plain
import Derived.Shelf.Strconv.ParseIntPublic10
import Derived.Shelf.Strings.Split
import Derived.Test.YtbfgmnjhikaagaaGreatDoorProg
import Derived.Test.YtbfgmnjhikaagaaGreatDoorCFnExactCompact3
set_option linter.unusedVariables false
set_option linter.unusedSimpArgs false
namespace Go.Proofs.YtbfgmnjhikaagaaGreatDoor.P
open Go Go.Proofs.YtbfgmnjhikaagaaGreatDoor.PM Go.Proofs
abbrev bs (s : ByteArray) : List UInt8 := s.data.toList
theorem bs_inj {a b : ByteArray} (h : bs a = bs b) : a = b := ByteArray.ext (Array.toList_inj.1 h)
theorem bs_append (a b : ByteArray) : bs (a ++ b) = bs a ++ bs b := by simp [bs]
def jn (ws : List (List UInt8)) : List UInt8 := ws.flatMap fun w => 32 :: w
theorem jn_cons (w : List UInt8) (r : List (List UInt8)) : jn (w :: r) = 32 :: (w ++ jn r) := by simp [jn]
theorem jn_append (a b : List (List UInt8)) : jn (a ++ b) = jn a ++ jn b := by simp [jn]
theorem txt_bs (s : ByteArray) (l : List Int) : bs (txt s l) = bs s ++ jn (l.map fun n => bs (dec1 n)) := by
  induction l generalizing s with
  | nil => simp [txt, jn]
  | cons n r ih =>
    show bs (txt (s ++ (⟨#[32]⟩ : ByteArray) ++ dec1 n) r) = _
    rw [ih, List.map_cons, jn_cons, bs_append, bs_append, List.append_assoc, List.append_assoc]
    rfl
def tailW (l : List Int) : List ByteArray := if 0 < l.length then wL :: l.map dec1 else []
def wordsOf (v l : List Int) : List ByteArray := wV :: (v.map dec1 ++ tailW l)
theorem ctext_bs (v l : List Int) : bs (ctext v l) = bs wV ++ jn ((v.map dec1 ++ tailW l).map bs) := by
  unfold ctext tail1 tailW
  split
  · rw [txt_bs, bs_append, txt_bs, List.map_append, jn_append, List.map_cons, jn_cons, List.map_map, List.map_map, show bs (⟨#[32, 108]⟩ : ByteArray) = [32, 108] from rfl, show bs wL = [108] from rfl]
    simp [Function.comp_def]
  · rw [txt_bs, List.append_nil, List.map_map]
    rfl
theorem index_hit : ∀ (w r : List UInt8), (32 : UInt8) ∉ w → Lib.index (w ++ 32 :: r) [32] = w.length
  | [], r, _ => by rw [Lib.index_one]; rfl
  | b :: w, r, h => by
    have h1 : (32 : UInt8) ∉ w := fun x => h (List.mem_cons_of_mem _ x)
    have h2 : ¬ b = 32 := fun x => h (by rw [x]; exact List.mem_cons_self)
    have ih := index_hit w r h1
    rw [Lib.index_one] at ih ⊢
    show Lib.indexByte (b :: (w ++ 32 :: r)) 32 = _
    unfold Lib.indexByte
    rw [ih, if_neg (by simpa using h2), if_neg (by simp), List.length_cons]
    omega
theorem count_jn (r : List (List UInt8)) (hr : ∀ x ∈ r, (32 : UInt8) ∉ x) : (jn r).count 32 = r.length := by
  induction r with
  | nil => rfl
  | cons a r ih =>
    rw [jn_cons, List.count_cons_self, List.count_append, ih fun x hx => hr x (List.mem_cons_of_mem _ hx), List.count_eq_zero.2 (hr a List.mem_cons_self), List.length_cons]
    omega
theorem splitK_jn : ∀ (r : List (List UInt8)) (w : List UInt8), (32 : UInt8) ∉ w → (∀ x ∈ r, (32 : UInt8) ∉ x) → Lib.splitK [32] 0 r.length (w ++ jn r) = w :: r
  | [], w, hw, _ => by simp [jn, Lib.splitK]
  | a :: r, w, hw, hr => by
    have h1 := index_hit w (a ++ jn r) hw
    rw [jn_cons, List.length_cons]
    unfold Lib.splitK
    rw [h1, if_neg (by simp)]
    have : ((w.length : Int)).toNat = w.length := Int.toNat_natCast _
    rw [this, Nat.add_zero, List.take_left' rfl, show w.length + ([32] : List UInt8).length = w.length + 1 from rfl, List.drop_append, List.drop_of_length_le (Nat.le_succ _)]
    rw [show w.length + 1 - w.length = 1 by omega, List.drop_one, List.tail_cons, List.nil_append, splitK_jn r a (hr a List.mem_cons_self) fun x hx => hr x (List.mem_cons_of_mem _ hx)]
theorem map_bs_inj : ∀ {a b : List ByteArray}, a.map bs = b.map bs → a = b
  | [], [], _ => rfl
  | [], _ :: _, h => by simp at h
  | _ :: _, [], h => by simp at h
  | x :: a, y :: b, h => by
    rw [List.map_cons, List.map_cons] at h
    injection h with h1 h2
    rw [bs_inj h1, map_bs_inj h2]
theorem splV_words (t w : ByteArray) (r : List ByteArray) (ht : bs t = bs w ++ jn (r.map bs)) (hw : (32 : UInt8) ∉ bs w) (hr : ∀ x ∈ r, (32 : UInt8) ∉ bs x) : splV t ⟨#[32]⟩ = w :: r := by
  apply map_bs_inj
  have hr' : ∀ x ∈ r.map bs, (32 : UInt8) ∉ x := fun x hx => by obtain ⟨y, hy, rfl⟩ := List.mem_map.1 hx; exact hr y hy
  unfold splV
  have h1 := Lib.splitB_data ⟨#[32]⟩ 0 (Lib.countB t ⟨#[32]⟩) t
  have h2 : Lib.countB t ⟨#[32]⟩ = r.length := by
    show Lib.count (bs t) [32] = _
    rw [Lib.count_one, ht, List.count_append, List.count_eq_zero.2 hw, count_jn _ hr', List.length_map]
    omega
  rw [h2] at h1 ⊢
  refine (show List.map bs _ = _ from h1).trans ?_
  show Lib.splitK [32] 0 r.length (bs t) = _
  rw [ht]
  have := splitK_jn (r.map bs) (bs w) hw hr'
  rw [List.length_map] at this
  rw [this]
  rfl
def cutL : List UInt8 → List UInt8 → List (List UInt8)
  | [], c => [c]
  | b :: r, c => if b = 32 then c :: cutL r [] else cutL r (c ++ [b])
theorem byteAt_eq32 (s : ByteArray) (i : Nat) (h : i < s.size) : byteAt s (i : Int) = 32 ↔ (bs s)[i]'(by rw [← Lib.size_eq]; exact h) = 32 := by
  have e : byteAt s (i : Int) = (((bs s)[i]'(by rw [← Lib.size_eq]; exact h)).toNat : Int) := by
    unfold byteAt
    rw [Int.toNat_natCast, getElem?_pos s i h]
    rfl
  rw [e]
  constructor
  · intro h1
    apply UInt8.toNat_inj.1
    show _ = 32
    omega
  · intro h1; rw [h1]; rfl
theorem cutF_L (s : ByteArray) : ∀ (d i m : Nat), s.size - i = d → i ≤ s.size → m ≤ i → (cutF s d i m).map bs = cutL ((bs s).drop i) (((bs s).drop m).take (i - m))
  | 0, i, m, hd, hi, hm => by
    have hz : s.size = (bs s).length := Lib.size_eq s
    rw [List.drop_of_length_le (by omega)]
    simp [cutF, cutL, bs, Lib.extract_data]
  | d + 1, i, m, hd, hi, hm => by
    have hz : s.size = (bs s).length := Lib.size_eq s
    have hlt : i < (bs s).length := by omega
    rw [List.drop_eq_getElem_cons hlt]
    unfold cutF cutL
    have hb := byteAt_eq32 s i (by omega)
    by_cases h : byteAt s (i : Int) = 32
    · rw [if_pos h, if_pos (hb.1 h), List.map_cons, cutF_L s d (i + 1) (i + 1) (by omega) (by omega) (Nat.le_refl _), Nat.sub_self, List.take_zero]
      simp [bs, Lib.extract_data]
    · rw [if_neg h, if_neg fun x => h (hb.2 x), cutF_L s d (i + 1) m (by omega) (by omega) (by omega)]
      congr 1
      rw [show i + 1 - m = (i - m) + 1 by omega, List.take_add_one, List.getElem?_drop, show m + (i - m) = i by omega, List.getElem?_eq_getElem hlt]
      rfl
theorem cutL_word : ∀ (w r c : List UInt8), (32 : UInt8) ∉ w → cutL (w ++ r) c = cutL r (c ++ w)
  | [], r, c, _ => by simp
  | b :: w, r, c, h => by
    have h1 : (32 : UInt8) ∉ w := fun x => h (List.mem_cons_of_mem _ x)
    have h2 : ¬ b = 32 := fun x => h (by rw [x]; exact List.mem_cons_self)
    rw [List.cons_append]
    show (if b = 32 then c :: cutL (w ++ r) [] else cutL (w ++ r) (c ++ [b])) = _
    rw [if_neg h2, cutL_word w r _ h1, List.append_assoc]
    rfl
theorem cutL_jn : ∀ (r : List (List UInt8)) (w : List UInt8), (32 : UInt8) ∉ w → (∀ x ∈ r, (32 : UInt8) ∉ x) → cutL (w ++ jn r) [] = w :: r
  | [], w, hw, _ => by rw [cutL_word w _ _ hw]; rfl
  | a :: r, w, hw, hr => by
    rw [cutL_word w _ _ hw, jn_cons]
    show (if (32 : UInt8) = 32 then ([] ++ w) :: cutL (a ++ jn r) [] else _) = _
    rw [if_pos rfl, cutL_jn r a (hr a List.mem_cons_self) fun x hx => hr x (List.mem_cons_of_mem _ hx)]
    rfl
theorem cutV_words (t w : ByteArray) (r : List ByteArray) (ht : bs t = bs w ++ jn (r.map bs)) (hw : (32 : UInt8) ∉ bs w) (hr : ∀ x ∈ r, (32 : UInt8) ∉ bs x) : cutV t = w :: r := by
  apply map_bs_inj
  unfold cutV
  rw [cutF_L t t.size 0 0 (Nat.sub_zero _) (Nat.zero_le _) (Nat.le_refl _), List.drop_zero, Nat.sub_self, List.take_zero, ht, cutL_jn _ _ hw fun x hx => by obtain ⟨y, hy, rfl⟩ := List.mem_map.1 hx; exact hr y hy]
  rfl
theorem dec_reads (n : Int) (h1 : 1 ≤ n) (h2 : n ≤ 50) : (32 : UInt8) ∉ bs (dec1 n) ∧ ¬ strEq (dec1 n) wL = true ∧ pintV (dec1 n) = (n, false) ∧ numV (dec1 n) = n := by
  have h : n = 1 ∨ n = 2 ∨ n = 3 ∨ n = 4 ∨ n = 5 ∨ n = 6 ∨ n = 7 ∨ n = 8 ∨ n = 9 ∨ n = 10 ∨ n = 11 ∨ n = 12 ∨ n = 13 ∨ n = 14 ∨ n = 15 ∨ n = 16 ∨ n = 17 ∨ n = 18 ∨ n = 19 ∨ n = 20 ∨ n = 21 ∨ n = 22 ∨ n = 23 ∨ n = 24 ∨ n = 25 ∨ n = 26 ∨ n = 27 ∨ n = 28 ∨ n = 29 ∨ n = 30 ∨ n = 31 ∨ n = 32 ∨ n = 33 ∨ n = 34 ∨ n = 35 ∨ n = 36 ∨ n = 37 ∨ n = 38 ∨ n = 39 ∨ n = 40 ∨ n = 41 ∨ n = 42 ∨ n = 43 ∨ n = 44 ∨ n = 45 ∨ n = 46 ∨ n = 47 ∨ n = 48 ∨ n = 49 ∨ n = 50 := by omega
  rcases h with rfl | rfl | rfl | rfl | rfl | rfl | rfl | rfl | rfl | rfl | rfl | rfl | rfl | rfl | rfl | rfl | rfl | rfl | rfl | rfl | rfl | rfl | rfl | rfl | rfl | rfl | rfl | rfl | rfl | rfl | rfl | rfl | rfl | rfl | rfl | rfl | rfl | rfl | rfl | rfl | rfl | rfl | rfl | rfl | rfl | rfl | rfl | rfl | rfl | rfl <;> exact ⟨of_decide_eq_true (by kernel_rfl), of_decide_eq_true (by kernel_rfl), by kernel_rfl, by kernel_rfl⟩
theorem tailW_ok (l : List Int) (hl : oks l) : ∀ x ∈ tailW l, (32 : UInt8) ∉ bs x := fun x hx => by
  unfold tailW at hx
  split at hx
  · rcases List.mem_cons.1 hx with rfl | hx
    · exact of_decide_eq_true (by kernel_rfl)
    · obtain ⟨n, hn, rfl⟩ := List.mem_map.1 hx
      obtain ⟨i, hi, rfl⟩ := List.getElem_of_mem hn
      have := hl i hi
      rw [at_nat l i hi] at this
      exact (dec_reads _ this.1 this.2).1
  · simp at hx
theorem words_ok (v l : List Int) (hv : oks v) (hl : oks l) : ∀ x ∈ v.map dec1 ++ tailW l, (32 : UInt8) ∉ bs x := fun x hx => by
  rcases List.mem_append.1 hx with hx | hx
  · obtain ⟨n, hn, rfl⟩ := List.mem_map.1 hx
    obtain ⟨i, hi, rfl⟩ := List.getElem_of_mem hn
    have := hv i hi
    rw [at_nat v i hi] at this
    exact (dec_reads _ this.1 this.2).1
  · exact tailW_ok l hl x hx
def PL : List ByteArray → Bool → List Int → List Int → Option (List Int × List Int)
  | [], _, v, l => some (v, l)
  | w :: r, g, v, l => if strEq w wL = true then PL r true v l else if (pintV w).2 = true then none else if g = true then PL r g v (l ++ [(pintV w).1]) else PL r g (v ++ [(pintV w).1]) l
def SL : List ByteArray → Bool → List Int → List Int → List Int × List Int
  | [], _, v, l => (v, l)
  | w :: r, g, v, l => if strEq w wL = true ∧ ¬ g = true then SL r true v l else if g = true then SL r g v (l ++ [numV w]) else SL r g (v ++ [numV w]) l
theorem parseI_PL (ws : List ByteArray) : ∀ (d i : Nat) (g : Bool) (v l : List Int), 0 < i → ws.length - i = d → i ≤ ws.length → parseI ws d i g v l = PL (ws.drop i) g v l
  | 0, i, g, v, l, h0, hd, hi => by rw [List.drop_of_length_le (by omega)]; rfl
  | d + 1, i, g, v, l, h0, hd, hi => by
    have hlt : i < ws.length := by omega
    rw [List.drop_eq_getElem_cons hlt]
    unfold parseI PL
    rw [at_nat ws i hlt]
    simp only [parseI_PL ws d (i + 1) _ _ _ (Nat.succ_pos _) (by omega) (by omega), show ¬ i = 0 by omega, false_and, if_false]
theorem parseS_SL (ws : List ByteArray) : ∀ (d i : Nat) (g : Bool) (v l : List Int), ws.length - i = d → i ≤ ws.length → parseS ws d i g v l = SL (ws.drop i) g v l
  | 0, i, g, v, l, hd, hi => by rw [List.drop_of_length_le (by omega)]; rfl
  | d + 1, i, g, v, l, hd, hi => by
    have hlt : i < ws.length := by omega
    rw [List.drop_eq_getElem_cons hlt]
    unfold parseS SL
    rw [at_nat ws i hlt]
    simp only [parseS_SL ws d (i + 1) _ _ _ (by omega) (by omega)]
theorem oks_cons {n : Int} {r : List Int} (h : oks (n :: r)) : (1 ≤ n ∧ n ≤ 50) ∧ oks r := by
  refine ⟨?_, fun i hi => ?_⟩
  · have := h 0 (by simp)
    rw [at_nat _ 0 (by simp)] at this
    simpa using this
  · have := h (i + 1) (by simpa using hi)
    rw [at_nat _ (i + 1) (by simpa using hi)] at this
    rw [at_nat _ i hi]
    simpa using this
theorem PL_v (T : List ByteArray) : ∀ (r a : List Int), oks r → PL (r.map dec1 ++ T) false a [] = PL T false (a ++ r) []
  | [], a, _ => by simp
  | n :: r, a, h => by
    obtain ⟨h1, h2⟩ := oks_cons h
    obtain ⟨_, e1, e2, _⟩ := dec_reads n h1.1 h1.2
    rw [List.map_cons, List.cons_append, PL, if_neg e1, e2, if_neg (by simp), if_neg (by simp), PL_v T r _ h2, List.append_assoc]
    rfl
theorem PL_l (v : List Int) : ∀ (r a : List Int), oks r → PL (r.map dec1) true v a = some (v, a ++ r)
  | [], a, _ => by simp [PL]
  | n :: r, a, h => by
    obtain ⟨h1, h2⟩ := oks_cons h
    obtain ⟨_, e1, e2, _⟩ := dec_reads n h1.1 h1.2
    rw [List.map_cons, PL, if_neg e1, e2, if_neg (by simp), if_pos rfl, PL_l v r _ h2, List.append_assoc]
    rfl
theorem SL_v (T : List ByteArray) : ∀ (r a : List Int), oks r → SL (r.map dec1 ++ T) false a [] = SL T false (a ++ r) []
  | [], a, _ => by simp
  | n :: r, a, h => by
    obtain ⟨h1, h2⟩ := oks_cons h
    obtain ⟨_, e1, _, e2⟩ := dec_reads n h1.1 h1.2
    rw [List.map_cons, List.cons_append, SL, if_neg fun x => e1 x.1, if_neg (by simp), e2, SL_v T r _ h2, List.append_assoc]
    rfl
theorem SL_l (v : List Int) : ∀ (r a : List Int), oks r → SL (r.map dec1) true v a = (v, a ++ r)
  | [], a, _ => by simp [SL]
  | n :: r, a, h => by
    obtain ⟨h1, h2⟩ := oks_cons h
    obtain ⟨_, e1, _, e2⟩ := dec_reads n h1.1 h1.2
    rw [List.map_cons, SL, if_neg fun x => e1 x.1, if_pos rfl, e2, SL_l v r _ h2, List.append_assoc]
    rfl
theorem words_I (v l : List Int) (hv : oks v) (hl : oks l) : parseI (wordsOf v l) (wordsOf v l).length 0 false [] [] = some (v, l) := by
  have h0 : (wordsOf v l).length = (v.map dec1 ++ tailW l).length + 1 := rfl
  rw [h0, ← parseI_v (ws := wordsOf v l) rfl (strEq_self wV), parseI_PL _ _ 1 _ _ _ (by decide) (by rw [h0]; omega) (by rw [h0]; omega)]
  show PL (v.map dec1 ++ tailW l) false [] [] = _
  rw [PL_v _ _ _ hv, List.nil_append]
  unfold tailW
  split
  · rw [PL, if_pos (strEq_self wL), PL_l _ _ _ hl]; rfl
  · rename_i h
    have : l = [] := List.eq_nil_of_length_eq_zero (by omega)
    rw [this]; rfl
theorem words_S (v l : List Int) (hv : oks v) (hl : oks l) : parseS (wordsOf v l) ((wordsOf v l).length - 1) 1 false [] [] = (v, l) := by
  have h0 : (wordsOf v l).length = (v.map dec1 ++ tailW l).length + 1 := rfl
  rw [parseS_SL _ _ 1 _ _ _ rfl (by rw [h0]; omega)]
  show SL (v.map dec1 ++ tailW l) false [] [] = _
  rw [SL_v _ _ _ hv, List.nil_append]
  unfold tailW
  split
  · rw [SL, if_pos ⟨strEq_self wL, by simp⟩, SL_l _ _ _ hl]; rfl
  · rename_i h
    have : l = [] := List.eq_nil_of_length_eq_zero (by omega)
    rw [this]; rfl
theorem txt_size (s : ByteArray) (l : List Int) (hl : oks l) : (txt s l).size ≤ s.size + 3 * l.length := by
  induction l generalizing s with
  | nil => exact Nat.le_refl _
  | cons n r ih =>
    obtain ⟨h1, h2⟩ := oks_cons hl
    have hz := (dec_ev n h1.1 h1.2).2.2
    have := ih (s ++ (⟨#[32]⟩ : ByteArray) ++ dec1 n) h2
    rw [bsz, bsz, sp_size] at this
    show (txt (s ++ (⟨#[32]⟩ : ByteArray) ++ dec1 n) r).size ≤ _
    rw [List.length_cons]
    omega
theorem ctext_size {v l : List Int} (h : confB v l = true) : 0 < (ctext v l).size ∧ (ctext v l).size ≤ 200 := by
  obtain ⟨⟨h1, h2⟩, h3, h4⟩ := confB_oks h
  have e : (ctext v l).size = (bs (ctext v l)).length := Lib.size_eq _
  refine ⟨by rw [e, ctext_bs, List.length_append, show (bs wV).length = 1 from rfl]; omega, ?_⟩
  unfold ctext tail1
  have a1 := txt_size ⟨#[118]⟩ v h1
  rw [show (⟨#[118]⟩ : ByteArray).size = 1 from rfl] at a1
  split
  · have a2 := txt_size (txt ⟨#[118]⟩ v ++ ⟨#[32, 108]⟩) l h3
    rw [bsz, show (⟨#[32, 108]⟩ : ByteArray).size = 2 from rfl] at a2
    omega
  · omega
def rc (t : ByteArray) : Bool × List Int × List Int := finC t (parseI (splV t ⟨#[32]⟩) (splV t ⟨#[32]⟩).length 0 false [] [])
theorem rc_two (t : ByteArray) (ht : t.size ≤ 1048576) : Ev (fun k => f65 k t) (rc t) ∧ ((rc t).1 = true → confB (rc t).2.1 (rc t).2.2 = true ∧ ctext (rc t).2.1 (rc t).2.2 = t) ∧ ((rc t).1 = false → (rc t).2 = ([], [])) := by
  suffices h : ∃ r : Bool × List Int × List Int, rc t = r ∧ Ev (fun k => f65 k t) r ∧ (r.1 = true → confB r.2.1 r.2.2 = true ∧ ctext r.2.1 r.2.2 = t) ∧ (r.1 = false → r.2 = ([], [])) by
    obtain ⟨r, rfl, h⟩ := h
    exact h
  have hS := ReadConf_ev t ht
  by_cases h : ∃ v l, confB v l = true ∧ ctext v l = t
  · obtain ⟨v, l, hc, rfl⟩ := h
    obtain ⟨⟨h1, _⟩, h3, _⟩ := confB_oks hc
    obtain ⟨z0, z1⟩ := ctext_size hc
    have e1 : splV (ctext v l) ⟨#[32]⟩ = wordsOf v l := splV_words _ _ _ (ctext_bs v l) (of_decide_eq_true (by kernel_rfl)) (words_ok v l h1 h3)
    have e2 : cutV (ctext v l) = wordsOf v l := cutV_words _ _ _ (ctext_bs v l) (of_decide_eq_true (by kernel_rfl)) (words_ok v l h1 h3)
    refine ⟨(true, v, l), ?_, hS.eq ?_, fun _ => ⟨hc, rfl⟩, (fun x => by cases x)⟩
    · unfold rc; rw [e1, words_I v l h1 h3]
      show (if confB v l = true ∧ strEq (ctext v l) (ctext v l) = true then (true, v, l) else (false, [], [])) = _
      rw [if_pos ⟨hc, strEq_self _⟩]
    · rw [e2, words_S v l h1 h3, if_neg (by omega)]
      show (if strEq (if confB v l = true then ctext v l else ⟨#[]⟩) (ctext v l) = true ∧ ¬ strEq (ctext v l) ⟨#[]⟩ = true then (true, v, l) else (false, [], [])) = _
      rw [if_pos hc, if_pos ⟨strEq_self _, fun x => by rw [(strEq_iff _ _).1 x] at z0; exact absurd z0 (by decide)⟩]
  · refine ⟨(false, [], []), ?_, hS.eq ?_, (fun x => by cases x), fun _ => rfl⟩
    · unfold rc; cases hp : parseI (splV t ⟨#[32]⟩) (splV t ⟨#[32]⟩).length 0 false [] [] with
      | none => rfl
      | some p =>
        obtain ⟨v, l⟩ := p
        show (if confB v l = true ∧ strEq (ctext v l) t = true then (true, v, l) else (false, [], [])) = _
        rw [if_neg fun x => h ⟨v, l, x.1, (strEq_iff _ _).1 x.2⟩]
    · split
      · rfl
      · unfold finS
        rw [if_neg]
        rintro ⟨x1, x2⟩
        have x1 := (strEq_iff _ _).1 x1
        split at x1
        · rename_i hc; exact h ⟨_, _, hc, x1⟩
        · exact x2 (by rw [← x1]; exact strEq_self _)
end Go.Proofs.YtbfgmnjhikaagaaGreatDoor.P
namespace Go.Proofs.YtbfgmnjhikaagaaGreatDoor.P
open Go Go.Proofs.YtbfgmnjhikaagaaGreatDoor.PM Go.Proofs
open Go.Proofs.YtbfgmnjhikaagaaGreatDoor.PN (PT)
def kindB (x : S40) : Bool := if x.f1 = 0 then strEq x.f2 ⟨#[]⟩ else if x.f1 = 1 then true else if x.f1 = 2 then (rc x.f2).1 else false
def entB (x : S40) : Bool := inB 1 1000000000000 x.f0 && (inB 0 9 x.f1 && decide (x.f2.size ≤ 4000))
def toldB (x : S40) : Bool := entB x && kindB x
theorem l5Entry_ev (x : S40) : Ev (fun k => f70 k x.f0 x.f1 x.f2) (entB x) := by
  simp only [f70, f70.start, PT.run, dite_eq_ite]
  unfold entB
  refine Ev.bind (l1In_ev _ _ _) (Ev.ite (fun h => ?_) (fun h => Ev.ret' (by simp [h])))
  rw [h, Bool.true_and]
  refine Ev.bind (l1In_ev _ _ _) (Ev.ite (fun h1 => Ev.ret' ?_) (fun h1 => Ev.ret' (by simp [h1])))
  rw [h1, Bool.true_and]
  exact decide_eq_decide.2 (by omega)
theorem isEntry_ev (x : S40) : Ev (fun k => f90 k x.f0 x.f1 x.f2) (entB x) := by
  simp only [f90, f90.start, PT.run, dite_eq_ite]
  unfold entB
  refine Ev.bind (in_ev _ _ _) (Ev.ite (fun h => ?_) (fun h => Ev.ret' (by simp [h])))
  rw [h, Bool.true_and]
  refine Ev.bind (in_ev _ _ _) (Ev.ite (fun h1 => Ev.ret' ?_) (fun h1 => Ev.ret' (by simp [h1])))
  rw [h1, Bool.true_and]
  exact decide_eq_decide.2 (by omega)
theorem entB_size {x : S40} (h : entB x = true) : x.f2.size ≤ 4000 := by
  unfold entB at h
  simp only [Bool.and_eq_true, decide_eq_true_eq] at h
  exact h.2.2
theorem l10Entry_ev (x : S40) : Ev (fun k => f44 k x.f0 x.f1 x.f2) (toldB x) := by
  simp only [f44, f44.start, PT.run, dite_eq_ite]
  unfold toldB
  refine Ev.bind (l5Entry_ev x) (Ev.ite (fun h => ?_) (fun h => Ev.ret' (by simp [h])))
  rw [h, Bool.true_and]
  unfold kindB
  refine Ev.ite (fun h0 => Ev.ret' (by rw [if_pos h0])) (fun h0 => ?_)
  rw [if_neg h0]
  refine Ev.ite (fun h1 => Ev.ret' (by rw [if_pos h1])) (fun h1 => ?_)
  rw [if_neg h1]
  refine Ev.ite (fun h2 => ?_) (fun h2 => Ev.ret' (by rw [if_neg h2]))
  rw [if_pos h2]
  have := entB_size h
  exact Ev.bind (rc_two x.f2 (by omega)).1 (Ev.ret _)
theorem isTold_ev (x : S40) : Ev (fun k => f78 k x.f0 x.f1 x.f2) (toldB x) := by
  simp only [f78, f78.start, PT.run, dite_eq_ite]
  unfold toldB
  refine Ev.bind (isEntry_ev x) (Ev.ite (fun h => ?_) (fun h => Ev.ret' (by simp [h])))
  rw [h, Bool.true_and]
  unfold kindB
  refine Ev.ite (fun h0 => Ev.ret' (by rw [if_pos h0])) (fun h0 => ?_)
  rw [if_neg h0]
  refine Ev.ite (fun h1 => Ev.ret' (by rw [if_pos h1])) (fun h1 => ?_)
  rw [if_neg h1]
  refine Ev.ite (fun h2 => ?_) (fun h2 => Ev.ret' (by rw [if_neg h2]))
  rw [if_pos h2]
  have := entB_size h
  exact Ev.bind (readConf_ev x.f2 (by omega)) (Ev.ret _)
def confF (g i : List Int) (l : List S40) : Nat → List Int × List Int
  | 0 => (g, i)
  | d + 1 => if (at' l (d : Int)).f1 = 2 then (rc (at' l (d : Int)).f2).2 else confF g i l d
def SzL (l : List S40) : Prop := l.length ≤ 1048576 ∧ ∀ i : Nat, i < l.length → (at' l (i : Int)).f2.size ≤ 1048576
section
variable (a b c d e : Int) (g i : List Int) (j : ByteArray) (l : List S40) (m n p : Int) (u : List Int) (v : List S90)
theorem l9Copy_ev (hg : g.length ≤ 4194304) (hi : i.length ≤ 4194304) : Ev (fun k => f55 k g i) (g, i) := by
  simp only [f55, f55.start, PT.run, dite_eq_ite]
  exact Ev.pos (by omega) (Ev.pos (by omega) (Ev.ret _))
theorem l10Conf_ev (hl : SzL l) (hg : g.length ≤ 4194304) (hi : i.length ≤ 4194304) : Ev (fun k => f62 k a b c d e g i j l m n p u v) (confF g i l l.length) := by
  have key : ∀ q : Nat, q ≤ l.length → Ev (fun k => f62.D k (.l2 ((q : Int) - 1) a b c d e g i j l m n p u v)) (confF g i l q) := by
    intro q
    induction q with
    | zero =>
      intro _
      refine Ev.round ?_
      simp only [f62.blk, PT.run, dite_eq_ite]
      exact Ev.neg (by omega) (Ev.bind (l9Copy_ev g i hg hi) (Ev.ret _))
    | succ q ih =>
      intro hq
      have hz := hl.1
      have ih := ih (by omega)
      refine Ev.round ?_
      simp only [f62.blk, PT.run, dite_eq_ite]
      rw [show ((q + 1 : Nat) : Int) - 1 = (q : Int) by omega]
      refine Ev.pos (by omega) (Ev.pos (by omega) ?_)
      unfold confF
      refine Ev.ite (fun h => ?_) (fun h => ?_)
      · rw [if_pos h]
        exact Ev.bind (rc_two _ (hl.2 q (by omega))).1 (Ev.ret _)
      · rw [if_neg h, wr (by omega) (by omega)]
        exact ih
  simp only [f62, f62.start, PT.run]
  have hz := hl.1
  rw [wr (by omega) (by omega)]
  exact key _ (Nat.le_refl _)
theorem confNow_ev (hl : SzL l) : Ev (fun k => f63 k a b c d e g i j l m n p u v) (confF g i l l.length) := by
  have key : ∀ q : Nat, q ≤ l.length → Ev (fun k => f63.D k (.l2 ((q : Int) - 1) a b c d e g i j l m n p u v)) (confF g i l q) := by
    intro q
    induction q with
    | zero =>
      intro _
      refine Ev.round ?_
      simp only [f63.blk, PT.run, dite_eq_ite]
      exact Ev.neg (by omega) (Ev.ret _)
    | succ q ih =>
      intro hq
      have hz := hl.1
      have ih := ih (by omega)
      refine Ev.round ?_
      simp only [f63.blk, PT.run, dite_eq_ite]
      rw [show ((q + 1 : Nat) : Int) - 1 = (q : Int) by omega]
      refine Ev.pos (by omega) (Ev.pos (by omega) ?_)
      unfold confF
      refine Ev.ite (fun h => ?_) (fun h => ?_)
      · rw [if_pos h]
        exact Ev.bind (readConf_ev _ (hl.2 q (by omega))) (Ev.ret _)
      · rw [if_neg h, wr (by omega) (by omega)]
        exact ih
  simp only [f63, f63.start, PT.run]
  have hz := hl.1
  rw [wr (by omega) (by omega)]
  exact key _ (Nat.le_refl _)
end
def memF (v l : List Int) (id : Int) : Nat → Int → List Int
  | 0, _ => []
  | d + 1, x => if x ≠ id ∧ (hasI v x || hasI l x) = true then x :: memF v l id d (x + 1) else memF v l id d (x + 1)
theorem l10Members_ev (v l : List Int) (id : Int) (hv : v.length ≤ 4194304) (hl : l.length ≤ 4194304) : Ev (fun k => f85 k v l id) (memF v l id 50 1) := by
  have key : ∀ (d : Nat) (x : Int) (q : List Int), x + d = 51 → 1 ≤ x → q.length ≤ 50 - d → d ≤ 50 → Ev (fun k => f85.D k (.l3 q id x v l)) (q ++ memF v l id d x) := by
    intro d
    induction d with
    | zero =>
      intro x q h1 h2 _ _
      refine Ev.round ?_
      simp only [f85.blk, PT.run, dite_eq_ite]
      exact Ev.neg (by omega) (Ev.ret' (by simp [memF]))
    | succ d ih =>
      intro x q h1 h2 h3 h4
      have i1 := ih (x + 1) q (by omega) (by omega) (by omega) (by omega)
      have i2 := ih (x + 1) (q ++ [x]) (by omega) (by omega) (by rw [List.length_append, List.length_singleton]; omega) (by omega)
      rw [List.append_assoc, List.singleton_append] at i2
      refine Ev.round ?_
      simp only [f85.blk, PT.run, dite_eq_ite]
      rw [wr (n := x + 1) (by omega) (by omega)]
      refine Ev.pos (by omega) ?_
      unfold memF
      refine Ev.ite (fun h => ?_) (fun h => ?_)
      · rw [if_neg fun y => y.1 h]; exact i1
      · refine Ev.bind (l1Ints_ev v x hv) (Ev.ite (fun h5 => ?_) (fun h5 => ?_))
        · rw [if_pos ⟨h, by rw [h5]; rfl⟩]
          exact Ev.pos (by omega) i2
        · refine Ev.bind (l1Ints_ev l x hl) (Ev.ite (fun h6 => ?_) (fun h6 => ?_))
          · rw [if_pos ⟨h, by rw [h6]; simp⟩]
            exact Ev.pos (by omega) i2
          · rw [if_neg fun y => by simp [h5, h6] at y]
            exact i1
  simp only [f85, f85.start, PT.run]
  have := key 50 1 [] (by omega) (by omega) (Nat.zero_le _) (by omega)
  simpa using this
theorem sorted_ext : ∀ {a b : List Int}, a.Pairwise (· < ·) → b.Pairwise (· < ·) → (∀ x, x ∈ a ↔ x ∈ b) → a = b
  | [], [], _, _, _ => rfl
  | [], y :: b, _, _, h => by have := (h y).2 List.mem_cons_self; simp at this
  | x :: a, [], _, _, h => by have := (h x).1 List.mem_cons_self; simp at this
  | x :: a, y :: b, ha, hb, h => by
    obtain ⟨a1, a2⟩ := List.pairwise_cons.1 ha
    obtain ⟨b1, b2⟩ := List.pairwise_cons.1 hb
    have e : x = y := by
      rcases List.mem_cons.1 ((h x).1 List.mem_cons_self) with e | e
      · exact e
      · rcases List.mem_cons.1 ((h y).2 List.mem_cons_self) with e' | e'
        · exact e'.symm
        · have := b1 x e
          have := a1 y e'
          omega
    subst e
    rw [sorted_ext a2 b2 fun z => ?_]
    constructor
    · intro hz
      rcases List.mem_cons.1 ((h z).1 (List.mem_cons_of_mem _ hz)) with e | e
      · have := a1 z hz; omega
      · exact e
    · intro hz
      rcases List.mem_cons.1 ((h z).2 (List.mem_cons_of_mem _ hz)) with e | e
      · have := b1 z hz; omega
      · exact e
theorem hasI_iff (l : List Int) (x : Int) : hasI l x = true ↔ x ∈ l := by
  unfold hasI anyFrom
  rw [List.drop_zero, List.any_eq_true]
  constructor
  · rintro ⟨y, h1, h2⟩
    rw [← beq_iff_eq.1 h2]; exact h1
  · intro h; exact ⟨x, h, beq_self_eq_true x⟩
theorem memF_mem (v l : List Int) (id : Int) : ∀ (d : Nat) (x y : Int), y ∈ memF v l id d x ↔ (x ≤ y ∧ y < x + d) ∧ y ≠ id ∧ (y ∈ v ∨ y ∈ l)
  | 0, x, y => by simp only [memF, List.not_mem_nil, false_iff]; omega
  | d + 1, x, y => by
    have ih := memF_mem v l id d (x + 1) y
    unfold memF
    split
    · rename_i h
      rw [List.mem_cons, ih]
      simp only [Bool.or_eq_true, hasI_iff] at h
      constructor
      · rintro (rfl | h1)
        · exact ⟨by omega, h⟩
        · exact ⟨by omega, h1.2⟩
      · rintro ⟨h1, h2⟩
        by_cases e : y = x
        · exact .inl e
        · exact .inr ⟨by omega, h2⟩
    · rename_i h
      rw [ih]
      simp only [Bool.or_eq_true, hasI_iff] at h
      constructor
      · rintro ⟨h1, h2⟩; exact ⟨by omega, h2⟩
      · rintro ⟨h1, h2⟩
        refine ⟨?_, h2⟩
        by_cases e : y = x
        · subst e; exact absurd h2 h
        · omega
theorem memF_lt (v l : List Int) (id : Int) : ∀ (d : Nat) (x : Int), (memF v l id d x).Pairwise (· < ·)
  | 0, _ => List.Pairwise.nil
  | d + 1, x => by
    unfold memF
    split
    · refine List.pairwise_cons.2 ⟨fun y hy => ?_, memF_lt v l id d (x + 1)⟩
      have := (memF_mem v l id d (x + 1) y).1 hy
      omega
    · exact memF_lt v l id d (x + 1)
theorem rising {l : List Int} (h : allFrom (idAt l) 0 l.length = true) : l.Pairwise (· < ·) ∧ ∀ x ∈ l, 1 ≤ x ∧ x ≤ 50 := by
  have h0 := (allFrom_iff _ _ _).1 h
  have hx : ∀ i (hi : i < l.length), (1 ≤ l[i] ∧ l[i] ≤ 50) ∧ (0 < i → ∀ h' : i - 1 < l.length, l[i - 1] < l[i]) := fun i hi => by
    have := h0 i (Nat.zero_le _) hi
    unfold idAt inB at this
    rw [at_nat l i hi] at this
    simp only [Bool.and_eq_true, Bool.or_eq_true, decide_eq_true_eq] at this
    refine ⟨this.1, fun h1 h' => ?_⟩
    rcases this.2 with h2 | h2
    · omega
    · rwa [show (i : Int) - 1 = ((i - 1 : Nat) : Int) by omega, at_nat l (i - 1) h'] at h2
  refine ⟨List.pairwise_iff_getElem.2 fun i j hi hj hij => ?_, fun x hm => ?_⟩
  · have : ∀ d (h1 : i + d + 1 < l.length), l[i] < l[i + d + 1] := by
      intro d
      induction d with
      | zero => intro h1; exact (hx (i + 1) h1).2 (by omega) (by simpa using hi)
      | succ d ih =>
        intro h1
        have a1 := ih (by omega)
        have a2 := (hx (i + (d + 1) + 1) h1).2 (by omega) (by omega)
        simp only [Nat.add_sub_cancel] at a2
        exact Int.lt_trans a1 a2
    have := this (j - i - 1) (by omega)
    simpa [show i + (j - i - 1) + 1 = j by omega] using this
  · obtain ⟨i, hi, rfl⟩ := List.getElem_of_mem hm
    exact (hx i hi).1
theorem members_two {v l : List Int} (h : confB v l = true) (id : Int) : (sortI (v ++ l)).filter (fun x => decide (x ≠ id)) = memF v l id 50 1 := by
  have h' := h
  unfold confB areB at h'
  simp only [Bool.and_eq_true] at h'
  obtain ⟨_, ⟨h1, _⟩, ⟨h2, _⟩, h3⟩ := h'
  obtain ⟨v1, v2⟩ := rising h1
  obtain ⟨l1, l2⟩ := rising h2
  have hp : (sortI (v ++ l)).Perm (v ++ l) := List.mergeSort_perm _ _
  have hnd : (v ++ l).Nodup := by
    refine List.nodup_append.2 ⟨v1.imp fun h => Int.ne_of_lt h, l1.imp fun h => Int.ne_of_lt h, fun x hx y hy e => ?_⟩
    subst e
    unfold anyFrom at h3
    rw [List.drop_zero, Bool.not_eq_true'] at h3
    have := List.any_eq_false.1 h3 x hy
    exact this ((hasI_iff v x).2 hx)
  have hs : (sortI (v ++ l)).Pairwise (· < ·) := by
    have a1 : (sortI (v ++ l)).Pairwise (fun x y => decide (x ≤ y) = true) := List.pairwise_mergeSort (by intro x y z; simp; omega) (by intro x y; simp; omega) _
    have a2 : (sortI (v ++ l)).Nodup := hp.nodup_iff.2 hnd
    refine (a1.and a2).imp fun ⟨h4, h5⟩ => ?_
    have := of_decide_eq_true h4
    omega
  refine sorted_ext (hs.filter _) (memF_lt _ _ _ _ _) fun x => ?_
  rw [memF_mem, List.mem_filter, hp.mem_iff, List.mem_append, decide_eq_true_eq]
  constructor
  · rintro ⟨h4, h5⟩
    refine ⟨?_, h5, h4⟩
    rcases h4 with h4 | h4
    · have := v2 x h4; omega
    · have := l2 x h4; omega
  · rintro ⟨_, h4, h5⟩; exact ⟨h5, h4⟩
end Go.Proofs.YtbfgmnjhikaagaaGreatDoor.P
namespace Go.Proofs.YtbfgmnjhikaagaaGreatDoor.P
open Go Go.Proofs.YtbfgmnjhikaagaaGreatDoor.PM Go.Proofs
open Go.Proofs.YtbfgmnjhikaagaaGreatDoor.PN (PT)
def frL (ids : List Int) (id w : Int) : List S90 := (ids.filter fun x => decide (x ≠ id)).map fun x => ⟨x, w, 0⟩
theorem frL_step (ids : List Int) (id w : Int) (i : Nat) (h : i < ids.length) : frL (ids.drop i) id w = if ids[i] = id then frL (ids.drop (i + 1)) id w else ⟨ids[i], w, 0⟩ :: frL (ids.drop (i + 1)) id w := by
  rw [List.drop_eq_getElem_cons h]
  unfold frL
  by_cases e : ids[i] = id
  · rw [if_pos e, List.filter_cons_of_neg (by simpa using e)]
  · rw [if_neg e, List.filter_cons_of_pos (by simpa using e)]
    rfl
section
variable (a b c d e : Int) (g i : List Int) (j : ByteArray) (l : List S40) (m n p : Int) (u : List Int) (v : List S90)
theorem fresh_loop (ids : List Int) (w : Int) (hi : ids.length ≤ 4194304) : ∀ (q : Nat) (r : List S90), q ≤ ids.length → r.length ≤ q → Ev (fun k => f91.D k (.l6 r ids w ids.length (ids.length : Int) (q : Int) a b c d e g i j l m n p u v)) (r ++ frL (ids.drop q) a w) := by
  have key : ∀ (f q : Nat) (r : List S90), ids.length - q = f → q ≤ ids.length → r.length ≤ q → Ev (fun k => f91.D k (.l6 r ids w ids.length (ids.length : Int) (q : Int) a b c d e g i j l m n p u v)) (r ++ frL (ids.drop q) a w) := by
    intro f
    induction f with
    | zero =>
      intro q r h1 h2 h3
      refine Ev.round ?_
      simp only [f91.blk, PT.run, dite_eq_ite]
      exact Ev.neg (by omega) (Ev.ret' (by rw [List.drop_of_length_le (by omega)]; simp [frL]))
    | succ f ih =>
      intro q r h1 h2 h3
      have hq : q < ids.length := by omega
      have i1 := ih (q + 1) r (by omega) (by omega) (by omega)
      have i2 := ih (q + 1) (r ++ [⟨ids[q], w, 0⟩]) (by omega) (by omega) (by rw [List.length_append, List.length_singleton]; omega)
      rw [← wr1 (by omega)] at i1 i2
      rw [List.append_assoc, List.singleton_append] at i2
      refine Ev.round ?_
      simp only [f91.blk, PT.run, dite_eq_ite]
      refine Ev.pos (by omega) (Ev.pos (by omega) (Ev.pos (by omega) (Ev.pos (by omega) ?_)))
      rw [at_nat ids q hq, frL_step ids a w q hq]
      refine Ev.ite (fun h => ?_) (fun h => ?_)
      · rw [if_pos h]; exact i1
      · rw [if_neg h]; exact Ev.pos (by omega) i2
  exact fun q r => key _ q r rfl
theorem conf_ok (hl : SzL l) (hc : confB g i = true) (ht : ∀ q : Nat, q < l.length → toldB (at' l (q : Int)) = true) : ∀ q : Nat, q ≤ l.length → confB (confF g i l q).1 (confF g i l q).2 = true := by
  intro q
  induction q with
  | zero => intro _; exact hc
  | succ q ih =>
    intro hq
    unfold confF
    split
    · rename_i h
      have h1 := ht q (by omega)
      unfold toldB kindB at h1
      rw [if_neg (by omega), if_neg (by omega), if_pos h, Bool.and_eq_true] at h1
      exact ((rc_two _ (hl.2 q (by omega))).2.1 h1.2).1
    · exact ih (by omega)
theorem freshPeers_ev (w : Int) (hl : SzL l) (hc : confB (confF g i l l.length).1 (confF g i l l.length).2 = true) : Ev (fun k => f91 k a b c d e g i j l m n p u v w) ((memF (confF g i l l.length).1 (confF g i l l.length).2 a 50 1).map fun x => ⟨x, w, 0⟩) := by
  simp only [f91, f91.start, PT.run, dite_eq_ite]
  refine Ev.bind (confNow_ev a b c d e g i j l m n p u v hl) ?_
  obtain ⟨⟨_, h1⟩, _, h2⟩ := confB_oks hc
  have h0 : 0 < (confF g i l l.length).1.length := by
    unfold confB at hc
    simp only [Bool.and_eq_true, decide_eq_true_eq] at hc
    exact hc.1
  have hs : (sortI ((confF g i l l.length).1 ++ (confF g i l l.length).2)).length = (confF g i l l.length).1.length + (confF g i l l.length).2.length := by rw [sortI_length, List.length_append]
  refine Ev.pos (by omega) (Ev.pos (by omega) (Ev.bind (a := sortI ((confF g i l l.length).1 ++ (confF g i l l.length).2)) ?_ ?_))
  · unfold f99
    exact Ev.pos ⟨by rw [List.length_append]; omega, by rw [List.length_append]; omega⟩ (Ev.ret _)
  · have := fresh_loop a b c d e g i j l m n p u v (sortI ((confF g i l l.length).1 ++ (confF g i l l.length).2)) w (by omega) 0 [] (Nat.zero_le _) (Nat.le_refl _)
    rw [List.drop_zero, List.nil_append, frL, members_two hc, hs] at this
    exact this
def peerAt (ids : List Int) (v : List S90) (last : Int) (q : Nat) : Bool := decide ((at' v (q : Int)).f0 = at' ids (q : Int)) && (inB 1 (last + 1) (at' v (q : Int)).f1 && inB 0 ((at' v (q : Int)).f1 - 1) (at' v (q : Int)).f2)
def peersB (ids : List Int) (v : List S90) (last : Int) : Bool := decide (ids.length = v.length) && allFrom (peerAt ids v last) 0 v.length
theorem last_ev (hd : 0 ≤ d ∧ d ≤ 1000000000000) (hl : l.length ≤ 1048576) : Ev (fun k => f52 k a b c d e g i j l m n p u v) (d + (l.length : Int)) := by
  simp only [f52, f52.start, PT.run]
  exact Ev.ret' (wr (by omega) (by omega))
theorem l10Last_ev (hd : 0 ≤ d ∧ d ≤ 1000000000000) (hl : l.length ≤ 1048576) : Ev (fun k => f43 k a b c d e g i j l m n p u v) (d + (l.length : Int)) := by
  simp only [f43, f43.start, PT.run]
  exact Ev.ret' (wr (by omega) (by omega))
theorem l10Peers_ev (hd : 0 ≤ d ∧ d ≤ 1000000000000) (hl : SzL l) (hg : g.length ≤ 4194304) (hi : i.length ≤ 4194304) (hv : v.length ≤ 1048576) (hc : confB (confF g i l l.length).1 (confF g i l l.length).2 = true) :
    Ev (fun k => f71 k a b c d e g i j l m n p u v) (peersB (memF (confF g i l l.length).1 (confF g i l l.length).2 a 50 1) v (d + (l.length : Int))) := by
  simp only [f71, f71.start, PT.run, dite_eq_ite]
  obtain ⟨⟨_, h1⟩, _, h2⟩ := confB_oks hc
  refine Ev.bind (l10Conf_ev a b c d e g i j l m n p u v hl hg hi) (Ev.bind (l10Members_ev _ _ a (by omega) (by omega)) ?_)
  generalize memF (confF g i l l.length).1 (confF g i l l.length).2 a 50 1 = ids
  unfold peersB
  refine Ev.ite (fun h => ?_) (fun h => Ev.ret' (by rw [decide_eq_false (by omega), Bool.false_and]))
  have hn : ids.length = v.length := by omega
  rw [decide_eq_true hn, Bool.true_and]
  have := scan (blk := f71.blk) (L := fun q => .l5 ids (q : Int) a b c d e g i j l m n p u v) (n := v.length) (res := fun q => allFrom (peerAt ids v (d + (l.length : Int))) q v.length) (fun q hq ih => ?_) 0 (Nat.zero_le _)
  · exact this
  · have hz := hl.1
    simp only [f71.blk, PT.run, dite_eq_ite]
    refine Ev.ite (fun h3 => ?_) (fun h3 => Ev.ret' (allFrom_end _ (by omega)).symm)
    have hlt : q < v.length := by omega
    have ih := ih hlt
    rw [← wr1 (by omega)] at ih
    rw [allFrom_step _ hlt, peerAt]
    refine Ev.pos (by omega) (Ev.pos (by omega) (Ev.ite (fun h4 => ?_) (fun h4 => Ev.ret' (by rw [decide_eq_false h4]; rfl))))
    rw [decide_eq_true h4, Bool.true_and]
    refine Ev.bind (l10Last_ev a b c d e g i j l m n p u v hd hz) ?_
    rw [wr (n := d + (l.length : Int) + 1) (by omega) (by omega)]
    refine Ev.bind (l1In_ev _ _ _) (Ev.ite (fun h5 => ?_) (fun h5 => Ev.ret' (by simp [h5])))
    have h6 := h5
    unfold inB at h6
    simp only [Bool.and_eq_true, decide_eq_true_eq] at h6
    rw [h5, Bool.true_and, wr (n := (at' v (q : Int)).f1 - 1) (by omega) (by omega)]
    refine Ev.bind (l1In_ev _ _ _) (Ev.ite (fun h7 => ?_) (fun h7 => Ev.ret' (by simp [h7])))
    rw [h7, Bool.true_and]
    exact ih
theorem arePeers_ev (hd : 0 ≤ d ∧ d ≤ 1000000000000) (hl : SzL l) (hv : v.length ≤ 1048576) (hc : confB (confF g i l l.length).1 (confF g i l l.length).2 = true) :
    Ev (fun k => f79 k a b c d e g i j l m n p u v) (peersB (memF (confF g i l l.length).1 (confF g i l l.length).2 a 50 1) v (d + (l.length : Int))) := by
  simp only [f79, f79.start, PT.run, dite_eq_ite]
  refine Ev.bind (freshPeers_ev a b c d e g i j l m n p u v 1 hl hc) ?_
  generalize memF (confF g i l l.length).1 (confF g i l l.length).2 a 50 1 = ids
  unfold peersB
  rw [List.length_map]
  refine Ev.ite (fun h => ?_) (fun h => Ev.ret' (by rw [decide_eq_false (by omega), Bool.false_and]))
  have hn : ids.length = v.length := by omega
  rw [decide_eq_true hn, Bool.true_and]
  have := scan (blk := f79.blk) (L := fun q => .l5 (ids.map fun x => ⟨x, 1, 0⟩) v (v.length : Int) (q : Int) a b c d e g i j l m n p u v) (n := v.length) (res := fun q => allFrom (peerAt ids v (d + (l.length : Int))) q v.length) (fun q hq ih => ?_) 0 (Nat.zero_le _)
  · exact this
  · have hz := hl.1
    simp only [f79.blk, PT.run, dite_eq_ite]
    rw [List.length_map]
    refine Ev.ite (fun h3 => ?_) (fun h3 => Ev.ret' (allFrom_end _ (by omega)).symm)
    have hlt : q < v.length := by omega
    have ih := ih hlt
    rw [← wr1 (by omega)] at ih
    rw [allFrom_step _ hlt, peerAt]
    have e1 : (at' (ids.map fun x => (⟨x, 1, 0⟩ : S90)) (q : Int)).f0 = at' ids (q : Int) := by
      rw [at_nat _ q (by rw [List.length_map]; omega), at_nat ids q (by omega), List.getElem_map]
    rw [e1]
    refine Ev.pos (by omega) (Ev.pos (by omega) (Ev.pos (by omega) (Ev.ite (fun h4 => ?_) (fun h4 => Ev.ret' (by rw [decide_eq_false h4]; rfl)))))
    rw [decide_eq_true h4, Bool.true_and]
    refine Ev.bind (last_ev a b c d e g i j l m n p u v hd hz) ?_
    rw [wr (n := d + (l.length : Int) + 1) (by omega) (by omega)]
    refine Ev.bind (in_ev _ _ _) (Ev.ite (fun h5 => ?_) (fun h5 => Ev.ret' (by simp [h5])))
    have h6 := h5
    unfold inB at h6
    simp only [Bool.and_eq_true, decide_eq_true_eq] at h6
    rw [h5, Bool.true_and, wr (n := (at' v (q : Int)).f1 - 1) (by omega) (by omega)]
    refine Ev.bind (in_ev _ _ _) (Ev.ite (fun h7 => ?_) (fun h7 => Ev.ret' (by simp [h7])))
    rw [h7, Bool.true_and]
    exact ih
end
end Go.Proofs.YtbfgmnjhikaagaaGreatDoor.P
namespace Go.Proofs.YtbfgmnjhikaagaaGreatDoor.P
open Go Go.Proofs.YtbfgmnjhikaagaaGreatDoor.PM Go.Proofs
open Go.Proofs.YtbfgmnjhikaagaaGreatDoor.PN (PT)
theorem rising_len {u : List Int} (h : allFrom (idAt u) 0 u.length = true) : u.length ≤ 50 := by
  obtain ⟨h1, h2⟩ := rising h
  have key : ∀ q (hq : q < u.length), (q : Int) + 1 ≤ u[q] := by
    intro q
    induction q with
    | zero => intro hq; have := (h2 _ (List.getElem_mem hq)).1; omega
    | succ q ih =>
      intro hq
      have a1 := ih (by omega)
      have a2 := List.pairwise_iff_getElem.1 h1 q (q + 1) (by omega) hq (by omega)
      omega
  by_cases h0 : u.length = 0
  · omega
  · have a1 := key (u.length - 1) (by omega)
    have a2 := (h2 _ (List.getElem_mem (show u.length - 1 < u.length by omega))).2
    omega
def logAt (e b : Int) (l : List S40) (q : Nat) : Bool := toldB (at' l (q : Int)) && inB (if q = 0 then e else (at' l ((q : Int) - 1)).f0) b (at' l (q : Int)).f0
def logB (e b : Int) (l : List S40) : Bool := allFrom (logAt e b l) 0 l.length
def roleB (a b c d : Int) (g i : List Int) (l : List S40) (n p : Int) (u : List Int) (v : List S90) : Bool :=
  allFrom (idAt u) 0 u.length && (if n = 0 then decide (u.length = 0) && (decide (v.length = 0) && !decide (p = a))
    else if n = 1 then decide (0 < b) && (decide (v.length = 0) && (decide (c = a) && !decide (p = a)))
    else if n = 2 then decide (0 < b) && (decide (u.length = 0) && (decide (c = a) && (decide (p = a) && peersB (memF (confF g i l l.length).1 (confF g i l l.length).2 a 50 1) v (d + (l.length : Int))))) else false)
def headB (a b c d e : Int) (g i : List Int) (j : ByteArray) (l : List S40) (p : Int) : Bool :=
  inB 1 50 a && (inB 0 1000000000000 b && (inB 0 1000000000000 c && (inB 0 1000000000000 p && (inB 0 999999999500 d && (inB 0 b e && (confB g i && (decide (j.size ≤ 20000) && decide (l.length ≤ 500))))))))
def nodeB (a b c d e : Int) (g i : List Int) (j : ByteArray) (l : List S40) (m n p : Int) (u : List Int) (v : List S90) : Bool :=
  headB a b c d e g i j l p && (inB d (d + (l.length : Int)) m && (logB e b l && roleB a b c d g i l n p u v))
structure SzN (g i : List Int) (j : ByteArray) (l : List S40) (u : List Int) (v : List S90) : Prop where
  g : g.length ≤ 1048576
  i : i.length ≤ 1048576
  j : j.size ≤ 1048576
  l : SzL l
  u : u.length ≤ 1048576
  v : v.length ≤ 1048576
section
variable (a b c d e : Int) (g i : List Int) (j : ByteArray) (l : List S40) (m n p : Int) (u : List Int) (v : List S90)
theorem l10Role_ev (hz : SzN g i j l u v) (hd : 0 ≤ d ∧ d ≤ 1000000000000) (hc : confB (confF g i l l.length).1 (confF g i l l.length).2 = true) : Ev (fun k => f45 k a b c d e g i j l m n p u v) (roleB a b c d g i l n p u v) := by
  simp only [f45, f45.start, PT.run, dite_eq_ite]
  unfold roleB
  have h50 := l9Ids_ev u 50 (by have := hz.u; omega) (by decide)
  refine Ev.bind h50 (Ev.ite (fun h => ?_) (fun h => Ev.ret' ?_))
  · rw [Bool.and_eq_true] at h
    rw [h.1, Bool.true_and]
    refine Ev.ite (fun h1 => ?_) (fun h1 => ?_)
    · rw [if_pos h1]
      refine Ev.ite (fun h2 => ?_) (fun h2 => Ev.ret' (by rw [decide_eq_false (p := u.length = 0) (by omega)]; rfl))
      rw [decide_eq_true (p := u.length = 0) (by omega), Bool.true_and]
      refine Ev.ite (fun h3 => ?_) (fun h3 => Ev.ret' (by rw [decide_eq_false (p := v.length = 0) (by omega)]; rfl))
      rw [decide_eq_true (p := v.length = 0) (by omega), Bool.true_and]
      exact Ev.ret _
    · rw [if_neg h1]
      refine Ev.ite (fun h2 => ?_) (fun h2 => ?_)
      · rw [if_pos h2]
        refine Ev.ite (fun h3 => ?_) (fun h3 => Ev.ret' (by rw [decide_eq_false h3]; rfl))
        rw [decide_eq_true h3, Bool.true_and]
        refine Ev.ite (fun h4 => ?_) (fun h4 => Ev.ret' (by rw [decide_eq_false (p := v.length = 0) (by omega)]; rfl))
        rw [decide_eq_true (p := v.length = 0) (by omega), Bool.true_and]
        exact Ev.ite (fun h5 => Ev.ret' (by rw [decide_eq_true h5, Bool.true_and])) (fun h5 => Ev.ret' (by rw [decide_eq_false h5]; rfl))
      · rw [if_neg h2]
        refine Ev.ite (fun h3 => ?_) (fun h3 => Ev.ret' (by rw [if_neg h3]))
        rw [if_pos h3]
        refine Ev.ite (fun h4 => ?_) (fun h4 => Ev.ret' (by rw [decide_eq_false h4]; rfl))
        rw [decide_eq_true h4, Bool.true_and]
        refine Ev.ite (fun h5 => ?_) (fun h5 => Ev.ret' (by rw [decide_eq_false (p := u.length = 0) (by omega)]; rfl))
        rw [decide_eq_true (p := u.length = 0) (by omega), Bool.true_and]
        refine Ev.ite (fun h6 => ?_) (fun h6 => Ev.ret' (by rw [decide_eq_false h6]; rfl))
        rw [decide_eq_true h6, Bool.true_and]
        refine Ev.ite (fun h7 => ?_) (fun h7 => Ev.ret' (by rw [decide_eq_false h7]; rfl))
        rw [decide_eq_true h7, Bool.true_and]
        exact Ev.bind (l10Peers_ev a b c d e g i j l m n p u v hd hz.l (by have := hz.g; omega) (by have := hz.i; omega) hz.v hc) (Ev.ret _)
  · cases hb : allFrom (idAt u) 0 u.length with
    | false => rfl
    | true =>
      rw [hb, Bool.true_and, decide_eq_true_eq] at h
      exact absurd (rising_len hb) h
theorem log_told {e b : Int} {l : List S40} (h : logB e b l = true) : ∀ q : Nat, q < l.length → toldB (at' l (q : Int)) = true := fun q hq => by
  have := (allFrom_iff _ _ _).1 h q (Nat.zero_le _) hq
  unfold logAt at this
  rw [Bool.and_eq_true] at this
  exact this.1
theorem spec_log (hz : SzN g i j l u v) (hd : 0 ≤ d ∧ d ≤ 1000000000000) (hc : confB g i = true) : ∀ q, q ≤ l.length → allFrom (logAt e b l) 0 q = true →
    Ev (fun k => f11.D k (.l7 (if q = 0 then e else (at' l ((q : Int) - 1)).f0) (q : Int) a b c d e g i j l m n p u v)) (allFrom (logAt e b l) q l.length && roleB a b c d g i l n p u v) := by
  have hl := hz.l.1
  have key : ∀ f q, l.length - q = f → q ≤ l.length → allFrom (logAt e b l) 0 q = true →
    Ev (fun k => f11.D k (.l7 (if q = 0 then e else (at' l ((q : Int) - 1)).f0) (q : Int) a b c d e g i j l m n p u v)) (allFrom (logAt e b l) q l.length && roleB a b c d g i l n p u v) := by
    intro f
    induction f with
    | zero =>
      intro q h1 h2 h3
      obtain rfl : q = l.length := by omega
      refine Ev.round ?_
      simp only [f11.blk, PT.run, dite_eq_ite]
      refine Ev.neg (by omega) (Ev.bind (l10Role_ev a b c d e g i j l m n p u v hz hd (conf_ok g i l hz.l hc (log_told h3) _ (Nat.le_refl _))) (Ev.ret' ?_))
      rw [allFrom_end _ (Nat.le_refl _), Bool.true_and]
    | succ f ih =>
      intro q h1 h2 h3
      have hq : q < l.length := by omega
      refine Ev.round ?_
      simp only [f11.blk, PT.run, dite_eq_ite]
      refine Ev.pos (by omega) (Ev.pos (by omega) (Ev.bind (l10Entry_ev _) ?_))
      rw [allFrom_step _ hq]
      have hs : logAt e b l q = (toldB (at' l (q : Int)) && inB (if q = 0 then e else (at' l ((q : Int) - 1)).f0) b (at' l (q : Int)).f0) := rfl
      refine Ev.ite (fun h4 => ?_) (fun h4 => Ev.ret' (by rw [hs]; simp [h4]))
      refine Ev.bind (l1In_ev _ _ _) (Ev.ite (fun h5 => ?_) (fun h5 => Ev.ret' (by rw [hs]; simp [h5])))
      have h6 : logAt e b l q = true := by rw [hs, h4, h5]; rfl
      have hn := ih (q + 1) (by omega) (by omega) ((allFrom_iff _ _ _).2 fun x h7 h8 => by
        by_cases e1 : x = q
        · rw [e1]; exact h6
        · exact (allFrom_iff _ _ _).1 h3 x h7 (by omega))
      rw [if_neg (Nat.succ_ne_zero q), show ((q + 1 : Nat) : Int) - 1 = (q : Int) by omega, ← wr1 (by omega)] at hn
      rw [h6, Bool.true_and]
      exact hn
  exact fun q => key _ q rfl
theorem spec_NodeOk (hz : SzN g i j l u v) : Ev (fun k => f11 k a b c d e g i j l m n p u v) (nodeB a b c d e g i j l m n p u v) := by
  simp only [f11, f11.start, PT.run, dite_eq_ite]
  unfold nodeB headB
  refine Ev.bind (l1In_ev _ _ _) (Ev.ite (fun h1 => ?_) (fun h => Ev.ret' (by simp [h])))
  refine Ev.bind (l1In_ev _ _ _) (Ev.ite (fun h2 => ?_) (fun h => Ev.ret' (by simp [h])))
  refine Ev.bind (l1In_ev _ _ _) (Ev.ite (fun h3 => ?_) (fun h => Ev.ret' (by simp [h])))
  refine Ev.bind (l1In_ev _ _ _) (Ev.ite (fun h4 => ?_) (fun h => Ev.ret' (by simp [h])))
  refine Ev.bind (l1In_ev _ _ _) (Ev.ite (fun h5 => ?_) (fun h => Ev.ret' (by simp [h])))
  refine Ev.bind (l1In_ev _ _ _) (Ev.ite (fun h6 => ?_) (fun h => Ev.ret' (by simp [h])))
  refine Ev.bind (ConfOk_ev g i (by have := hz.g; omega) (by have := hz.i; omega)) (Ev.ite (fun h7 => ?_) (fun h => Ev.ret' (by simp [h])))
  rw [h1, h2, h3, h4, h5, h6, h7]
  simp only [Bool.true_and]
  refine Ev.ite (fun h8 => Ev.ret' (by rw [decide_eq_false (p := j.size ≤ 20000) (by omega)]; rfl)) (fun h8 => ?_)
  rw [decide_eq_true (p := j.size ≤ 20000) (by omega), Bool.true_and]
  refine Ev.ite (fun h9 => Ev.ret' (by rw [decide_eq_false (p := l.length ≤ 500) (by omega)]; rfl)) (fun h9 => ?_)
  rw [decide_eq_true (p := l.length ≤ 500) (by omega), Bool.true_and]
  have hd : 0 ≤ d ∧ d ≤ 1000000000000 := by
    unfold inB at h5
    simp only [Bool.and_eq_true, decide_eq_true_eq] at h5
    omega
  refine Ev.bind (l10Last_ev a b c d e g i j l m n p u v hd hz.l.1) (Ev.bind (l1In_ev _ _ _) (Ev.ite (fun h10 => ?_) (fun h => Ev.ret' (by simp [h]))))
  rw [h10, Bool.true_and]
  have := spec_log a b c d e g i j l m n p u v hz hd h7 0 (Nat.zero_le _) (allFrom_end _ (Nat.le_refl _))
  rw [if_pos rfl] at this
  exact this
end
end Go.Proofs.YtbfgmnjhikaagaaGreatDoor.P
namespace Go.Proofs.YtbfgmnjhikaagaaGreatDoor.P
open Go Go.Proofs.YtbfgmnjhikaagaaGreatDoor.PM Go.Proofs
open Go.Proofs.YtbfgmnjhikaagaaGreatDoor.PN (PT)
def endB (a b c d : Int) (g i : List Int) (l : List S40) (n p : Int) (v : List S90) : Bool :=
  if n = 0 then !decide (p = a) else decide (0 < b) && (decide (c = a) && (if n = 1 then !decide (p = a) else decide (p = a) && peersB (memF (confF g i l l.length).1 (confF g i l l.length).2 a 50 1) v (d + (l.length : Int))))
def voidB (n : Int) (u : List Int) (v : List S90) : Bool := (decide (n = 1) || decide (u.length = 0)) && (decide (n = 2) || decide (v.length = 0))
section
variable (a b c d e : Int) (g i : List Int) (j : ByteArray) (l : List S40) (m n p : Int) (u : List Int) (v : List S90)
theorem role_two (hn : inB 0 2 n = true) : (voidB n u v && (allFrom (idAt u) 0 u.length && endB a b c d g i l n p v)) = roleB a b c d g i l n p u v := by
  unfold inB at hn
  simp only [Bool.and_eq_true, decide_eq_true_eq] at hn
  have : n = 0 ∨ n = 1 ∨ n = 2 := by omega
  unfold voidB endB roleB
  cases allFrom (idAt u) 0 u.length <;> cases decide (u.length = 0) <;> cases decide (v.length = 0) <;> rcases this with rfl | rfl | rfl <;> simp
theorem role_out (hn : ¬ inB 0 2 n = true) : roleB a b c d g i l n p u v = false := by
  unfold inB at hn
  simp only [Bool.and_eq_true, decide_eq_true_eq] at hn
  unfold roleB
  rw [if_neg (by omega), if_neg (by omega), if_neg (by omega), Bool.and_false]
theorem end_ev (hz : SzN g i j l u v) (hd : 0 ≤ d ∧ d ≤ 1000000000000) (hn : inB 0 2 n = true) (hc : confB (confF g i l l.length).1 (confF g i l l.length).2 = true) : ∀ q, q ≤ u.length →
    Ev (fun k => f49.D k (.l14 u (u.length : Int) (q : Int) a b c d e g i j l m n p u v)) (allFrom (idAt u) q u.length && endB a b c d g i l n p v) := by
  have hu := hz.u
  unfold inB at hn
  simp only [Bool.and_eq_true, decide_eq_true_eq] at hn
  refine scan fun q hq ih => ?_
  simp only [f49.blk, PT.run, dite_eq_ite]
  refine Ev.ite (fun h => ?_) (fun h => ?_)
  · have hlt : q < u.length := by omega
    have ih := ih hlt
    rw [← wr1 (by omega)] at ih
    refine Ev.pos (by omega) (Ev.pos (by omega) (Ev.bind (isNodeId_ev _) ?_))
    rw [allFrom_step _ hlt, idAt]
    cases hb : inB 1 50 (at' u (q : Int)) with
    | false => exact Ev.neg (by simp) (Ev.ret' (by simp))
    | true =>
      refine Ev.pos rfl ?_
      by_cases h0 : q = 0
      · refine Ev.neg (by omega) ?_
        rw [decide_eq_true h0]
        simpa using ih
      · refine Ev.pos (by omega) ?_
        rw [wr (n := (q : Int) - 1) (by omega) (by omega)]
        refine Ev.pos (by omega) (Ev.pos (by omega) ?_)
        by_cases h1 : at' u ((q : Int) - 1) < at' u (q : Int)
        · refine Ev.neg (by omega) ?_
          rw [decide_eq_true h1]
          simpa using ih
        · refine Ev.pos (by omega) (Ev.ret' ?_)
          rw [decide_eq_false h1, decide_eq_false h0]
          simp
  · rw [allFrom_end _ (by omega), Bool.true_and]
    unfold endB
    refine Ev.ite (fun h1 => ?_) (fun h1 => ?_)
    · rw [if_pos h1]; exact Ev.ret _
    · rw [if_neg h1]
      refine Ev.ite (fun h2 => Ev.ret' (by rw [decide_eq_false (p := 0 < b) (by omega)]; rfl)) (fun h2 => ?_)
      rw [decide_eq_true (p := 0 < b) (by omega), Bool.true_and]
      refine Ev.ite (fun h3 => ?_) (fun h3 => Ev.ret' (by rw [decide_eq_false h3]; rfl))
      rw [decide_eq_true h3, Bool.true_and]
      refine Ev.ite (fun h4 => ?_) (fun h4 => ?_)
      · rw [if_pos h4]; exact Ev.ret _
      · rw [if_neg h4]
        refine Ev.ite (fun h5 => ?_) (fun h5 => Ev.ret' (by rw [decide_eq_false h5]; rfl))
        rw [decide_eq_true h5, Bool.true_and]
        exact Ev.bind (arePeers_ev a b c d e g i j l m n p u v hd hz.l hz.v hc) (Ev.ret _)
theorem impl_log (hz : SzN g i j l u v) (hd : 0 ≤ d ∧ d ≤ 1000000000000) (hn : inB 0 2 n = true) (hc : confB g i = true) : ∀ q, q ≤ l.length → allFrom (logAt e b l) 0 q = true →
    Ev (fun k => f49.D k (.l5 (if q = 0 then e else (at' l ((q : Int) - 1)).f0) l (l.length : Int) (q : Int) a b c d e g i j l m n p u v)) (allFrom (logAt e b l) q l.length && (inB d (d + (l.length : Int)) m && roleB a b c d g i l n p u v)) := by
  have hl := hz.l.1
  have key : ∀ f q, l.length - q = f → q ≤ l.length → allFrom (logAt e b l) 0 q = true →
    Ev (fun k => f49.D k (.l5 (if q = 0 then e else (at' l ((q : Int) - 1)).f0) l (l.length : Int) (q : Int) a b c d e g i j l m n p u v)) (allFrom (logAt e b l) q l.length && (inB d (d + (l.length : Int)) m && roleB a b c d g i l n p u v)) := by
    intro f
    induction f with
    | zero =>
      intro q h1 h2 h3
      obtain rfl : q = l.length := by omega
      have he := end_ev a b c d e g i j l m n p u v hz hd hn (conf_ok g i l hz.l hc (log_told h3) _ (Nat.le_refl _)) 0 (Nat.zero_le _)
      rw [allFrom_end _ (Nat.le_refl _), Bool.true_and, ← role_two a b c d g i l n p u v hn]
      refine Ev.round ?_
      simp only [f49.blk, PT.run, dite_eq_ite]
      refine Ev.neg (by omega) (Ev.bind (last_ev a b c d e g i j l m n p u v hd hl) (Ev.bind (in_ev _ _ _) (Ev.ite (fun h => ?_) (fun h => Ev.ret' (by simp [h])))))
      rw [h, Bool.true_and]
      unfold voidB
      refine Ev.ite (fun h4 => ?_) (fun h4 => ?_)
      · refine Ev.neg (by omega) (Ev.ite (fun h5 => Ev.ret' ?_) (fun h5 => ?_))
        · rw [decide_eq_true h4, decide_eq_false (p := n = 2) (by omega), decide_eq_false (p := v.length = 0) (by omega)]; rfl
        · rw [decide_eq_true h4, decide_eq_false (p := n = 2) (by omega), decide_eq_true (p := v.length = 0) (by omega)]
          exact he
      · refine Ev.ite (fun h5 => Ev.ret' ?_) (fun h5 => ?_)
        · rw [decide_eq_false h4, decide_eq_false (p := u.length = 0) (by omega)]; rfl
        · rw [decide_eq_false h4, decide_eq_true (p := u.length = 0) (by omega)]
          refine Ev.ite (fun h6 => ?_) (fun h6 => ?_)
          · rw [decide_eq_true h6]; exact he
          · rw [decide_eq_false h6]
            refine Ev.ite (fun h7 => Ev.ret' ?_) (fun h7 => ?_)
            · rw [decide_eq_false (p := v.length = 0) (by omega)]; rfl
            · rw [decide_eq_true (p := v.length = 0) (by omega)]
              exact he
    | succ f ih =>
      intro q h1 h2 h3
      have hq : q < l.length := by omega
      refine Ev.round ?_
      simp only [f49.blk, PT.run, dite_eq_ite]
      refine Ev.pos (by omega) (Ev.pos (by omega) (Ev.pos (by omega) (Ev.bind (isTold_ev _) ?_)))
      rw [allFrom_step _ hq]
      have hs : logAt e b l q = (toldB (at' l (q : Int)) && inB (if q = 0 then e else (at' l ((q : Int) - 1)).f0) b (at' l (q : Int)).f0) := rfl
      refine Ev.ite (fun h4 => ?_) (fun h4 => Ev.ret' (by rw [hs]; simp [h4]))
      refine Ev.bind (in_ev _ _ _) (Ev.ite (fun h5 => ?_) (fun h5 => Ev.ret' (by rw [hs]; simp [h5])))
      have h6 : logAt e b l q = true := by rw [hs, h4, h5]; rfl
      have hn := ih (q + 1) (by omega) (by omega) ((allFrom_iff _ _ _).2 fun x h7 h8 => by
        by_cases e1 : x = q
        · rw [e1]; exact h6
        · exact (allFrom_iff _ _ _).1 h3 x h7 (by omega))
      rw [if_neg (Nat.succ_ne_zero q), show ((q + 1 : Nat) : Int) - 1 = (q : Int) by omega, ← wr1 (by omega)] at hn
      rw [h6, Bool.true_and]
      exact hn
  exact fun q => key _ q rfl
theorem isNode_ev (hz : SzN g i j l u v) : Ev (fun k => f49 k a b c d e g i j l m n p u v) (nodeB a b c d e g i j l m n p u v) := by
  simp only [f49, f49.start, PT.run, dite_eq_ite]
  unfold nodeB headB
  refine Ev.bind (isNodeId_ev _) (Ev.ite (fun h1 => ?_) (fun h => Ev.ret' (by simp [h])))
  refine Ev.bind (isNumber_ev _) (Ev.ite (fun h2 => ?_) (fun h => Ev.ret' (by simp [h])))
  refine Ev.bind (isNumber_ev _) (Ev.ite (fun h3 => ?_) (fun h => Ev.ret' (by simp [h])))
  refine Ev.bind (in_ev _ _ _) (Ev.ite (fun h5 => ?_) (fun h => Ev.ret' (by simp [h])))
  refine Ev.bind (in_ev _ _ _) (Ev.ite (fun h6 => ?_) (fun h => Ev.ret' (by simp [h])))
  refine Ev.bind (isNumber_ev _) (Ev.ite (fun h4 => ?_) (fun h => Ev.ret' (by simp [h])))
  refine Ev.bind (isConf_ev g i (by have := hz.g; omega) (by have := hz.i; omega)) (Ev.ite (fun h7 => ?_) (fun h => Ev.ret' (by simp [h])))
  rw [h1, h2, h3, h4, h5, h6, h7]
  simp only [Bool.true_and]
  refine Ev.ite (fun h8 => Ev.ret' (by rw [decide_eq_false (p := l.length ≤ 500) (by omega), Bool.and_false]; rfl)) (fun h8 => ?_)
  rw [decide_eq_true (p := l.length ≤ 500) (by omega), Bool.and_true]
  refine Ev.ite (fun h9 => Ev.ret' (by rw [decide_eq_false (p := j.size ≤ 20000) (by omega)]; rfl)) (fun h9 => ?_)
  rw [decide_eq_true (p := j.size ≤ 20000) (by omega), Bool.true_and]
  have hd : 0 ≤ d ∧ d ≤ 1000000000000 := by
    unfold inB at h5
    simp only [Bool.and_eq_true, decide_eq_true_eq] at h5
    omega
  refine Ev.bind (in_ev _ _ _) (Ev.ite (fun h10 => ?_) (fun h => Ev.ret' (by rw [role_out a b c d g i l n p u v h]; simp)))
  have := impl_log a b c d e g i j l m n p u v hz hd h10 h7 0 (Nat.zero_le _) (allFrom_end _ (Nat.le_refl _))
  rw [if_pos rfl, Bool.and_left_comm] at this
  exact this
end
end Go.Proofs.YtbfgmnjhikaagaaGreatDoor.P
namespace Go.Proofs.YtbfgmnjhikaagaaGreatDoor.P
open Go Go.Proofs.YtbfgmnjhikaagaaGreatDoor.PM Go.Proofs
open Go.Proofs.YtbfgmnjhikaagaaGreatDoor.PN (PT)
def to_Entry (x : S85) : S40 := ⟨x.f0, x.f1, x.f2⟩
def to_Peer (x : S92) : S90 := ⟨x.f0, x.f1, x.f2⟩
theorem szInt64S_ev (l : List Int) (w : Int) (h0 : 0 ≤ w) (h1 : w ≤ 1048576) (hl : l.length ≤ maxLen) : ∃ r, Ev (fun k => f39 k l w) r ∧ (r < 0 ∨ (0 ≤ r ∧ r ≤ w ∧ l.length ≤ 1048576)) := by
  unfold maxLen at hl
  simp only [f39, f39.start, PT.run, dite_eq_ite]
  rw [wr (n := w - l.length) (by omega) (by omega)]
  by_cases h2 : w - l.length < 0
  · exact ⟨-1, Ev.pos h2 (Ev.ret _), .inl (by omega)⟩
  · exact ⟨_, Ev.neg h2 (Ev.ret _), .inr ⟨by omega, by omega, by omega⟩⟩
theorem szPeerS_ev (l : List S92) (w : Int) (h0 : 0 ≤ w) (h1 : w ≤ 1048576) (hl : l.length ≤ maxLen) : ∃ r, Ev (fun k => f40 k l w) r ∧ (r < 0 ∨ (0 ≤ r ∧ r ≤ w ∧ l.length ≤ 1048576)) := by
  unfold maxLen at hl
  simp only [f40, f40.start, PT.run, dite_eq_ite]
  rw [wr (n := w - l.length) (by omega) (by omega)]
  by_cases h2 : w - l.length < 0
  · exact ⟨-1, Ev.pos h2 (Ev.ret _), .inl (by omega)⟩
  · exact ⟨_, Ev.neg h2 (Ev.ret _), .inr ⟨by omega, by omega, by omega⟩⟩
theorem szConf_ev (x y : List Int) (w : Int) (h0 : 0 ≤ w) (h1 : w ≤ 1048576) (hx : x.length ≤ maxLen) (hy : y.length ≤ maxLen) : ∃ r, Ev (fun k => f20 k x y w) r ∧ (r < 0 ∨ (0 ≤ r ∧ r ≤ w ∧ x.length ≤ 1048576 ∧ y.length ≤ 1048576)) := by
  simp only [f20, f20.start, PT.run, dite_eq_ite]
  obtain ⟨r, hr, h⟩ := szInt64S_ev x w h0 h1 hx
  rcases h with h | ⟨r0, r1, r2⟩
  · exact ⟨-1, Ev.bind hr (Ev.pos h (Ev.ret _)), .inl (by omega)⟩
  obtain ⟨q, hq, h⟩ := szInt64S_ev y r r0 (by omega) hy
  rcases h with h | ⟨q0, q1, q2⟩
  · exact ⟨-1, Ev.bind hr (Ev.neg (by omega) (Ev.bind hq (Ev.pos h (Ev.ret _)))), .inl (by omega)⟩
  · exact ⟨q, Ev.bind hr (Ev.neg (by omega) (Ev.bind hq (Ev.neg (by omega) (Ev.ret _)))), .inr ⟨q0, by omega, r2, q2⟩⟩
theorem szEntry_ev (n m : Int) (y : ByteArray) (w : Int) (h0 : 0 ≤ w) (h1 : w ≤ 1048576) (hy : y.size ≤ maxLen) : ∃ r, Ev (fun k => f67 k n m y w) r ∧ (r < 0 ∨ (0 ≤ r ∧ r ≤ w ∧ y.size ≤ 1048576)) := by
  unfold maxLen at hy
  simp only [f67, f67.start, PT.run, dite_eq_ite]
  rw [wr (n := w - y.size) (by omega) (by omega)]
  by_cases h2 : w - y.size < 0
  · exact ⟨-1, Ev.pos h2 (Ev.ret _), .inl (by omega)⟩
  · exact ⟨_, Ev.neg h2 (Ev.ret _), .inr ⟨by omega, by omega, by omega⟩⟩
theorem szEntryS_loop (l : List S85) (hl : l.length ≤ 1048576) (hs : ∀ x ∈ l, x.f2.size ≤ maxLen) (d : Nat) : ∀ (i : Nat) (w : Int), l.length - i = d → i ≤ l.length → 0 ≤ w → w ≤ 1048576 →
    ∃ r, Ev (fun k => f38.D k (.l5 l w (i : Int))) r ∧ (r < 0 ∨ (0 ≤ r ∧ r ≤ w ∧ ∀ j (h : j < l.length), i ≤ j → l[j].f2.size ≤ 1048576)) := by
  induction d with
  | zero =>
    intro i w hd hi h0 h1
    refine ⟨w, Ev.round ?_, .inr ⟨h0, Int.le_refl _, fun j h1 h2 => by omega⟩⟩
    simp only [f38.blk, PT.run, dite_eq_ite]
    exact Ev.neg (by omega) (Ev.ret _)
  | succ d ih =>
    intro i w hd hi h0 h1
    have hlt : i < l.length := by omega
    obtain ⟨r, hr, h⟩ := szEntry_ev l[i].f0 l[i].f1 l[i].f2 w h0 h1 (hs _ (List.getElem_mem hlt))
    rw [← at_nat l i hlt] at hr
    rcases h with h | ⟨r0, r1, r2⟩
    · refine ⟨-1, Ev.round ?_, .inl (by omega)⟩
      simp only [f38.blk, PT.run, dite_eq_ite]
      exact Ev.pos (by omega) (Ev.pos (by omega) (Ev.bind hr (Ev.pos h (Ev.ret _))))
    · obtain ⟨q, hq, h⟩ := ih (i + 1) r (by omega) (by omega) r0 (by omega)
      rw [← wr1 (by omega)] at hq
      refine ⟨q, Ev.round ?_, h.imp_right fun ⟨q0, q1, q2⟩ => ⟨q0, by omega, fun j h3 h4 => ?_⟩⟩
      · simp only [f38.blk, PT.run, dite_eq_ite]
        exact Ev.pos (by omega) (Ev.pos (by omega) (Ev.bind hr (Ev.neg (by omega) hq)))
      · rcases Nat.lt_or_ge i j with h5 | h5
        · exact q2 j h3 h5
        · obtain rfl : i = j := by omega
          exact r2
theorem szEntryS_ev (l : List S85) (w : Int) (h0 : 0 ≤ w) (h1 : w ≤ 1048576) (hl : l.length ≤ maxLen) (hs : ∀ x ∈ l, x.f2.size ≤ maxLen) :
    ∃ r, Ev (fun k => f38 k l w) r ∧ (r < 0 ∨ (0 ≤ r ∧ r ≤ w ∧ l.length ≤ 1048576 ∧ ∀ x ∈ l, x.f2.size ≤ 1048576)) := by
  unfold maxLen at hl
  simp only [f38, f38.start, PT.run, dite_eq_ite]
  rw [wr (n := w - l.length) (by omega) (by omega)]
  by_cases h2 : w - l.length < 0
  · exact ⟨-1, Ev.pos h2 (Ev.ret _), .inl (by omega)⟩
  · obtain ⟨r, hr, h⟩ := szEntryS_loop l (by omega) hs _ 0 (w - l.length) rfl (Nat.zero_le _) (by omega) (by omega)
    refine ⟨r, Ev.neg h2 hr, h.imp_right fun ⟨q0, q1, q2⟩ => ⟨q0, by omega, by omega, fun x hx => ?_⟩⟩
    obtain ⟨j, hj, rfl⟩ := List.getElem_of_mem hx
    exact q2 j hj (Nat.zero_le _)
structure OkN (g i : List Int) (j : ByteArray) (l : List S85) (u : List Int) (v : List S92) : Prop where
  g : g.length ≤ maxLen
  i : i.length ≤ maxLen
  j : j.size ≤ maxLen
  l : l.length ≤ maxLen ∧ ∀ x ∈ l, x.f2.size ≤ maxLen
  u : u.length ≤ maxLen
  v : v.length ≤ maxLen
section
variable (a b c d e : Int) (g i : List Int) (j : ByteArray) (l : List S85) (m n p : Int) (u : List Int) (v : List S92)
theorem szNode_ev (w : Int) (h0 : 0 ≤ w) (h1 : w ≤ 1048576) (ho : OkN g i j l u v) : ∃ r, Ev (fun k => f10 k a b c d e g i j l m n p u v w) r ∧ (r < 0 ∨ (0 ≤ r ∧ r ≤ w ∧ SzN g i j (l.map to_Entry) u (v.map to_Peer))) := by
  simp only [f10, f10.start, PT.run, dite_eq_ite]
  have hj := ho.j
  unfold maxLen at hj
  obtain ⟨r, hr, h⟩ := szConf_ev g i w h0 h1 ho.g ho.i
  rcases h with h | ⟨r0, r1, r2, r3⟩
  · exact ⟨-1, Ev.bind hr (Ev.pos h (Ev.ret _)), .inl (by omega)⟩
  by_cases h2 : r - j.size < 0
  · refine ⟨-1, Ev.bind hr (Ev.neg (by omega) (Ev.pos ?_ (Ev.ret _))), .inl (by omega)⟩
    rw [wr (by omega) (by omega)]; exact h2
  obtain ⟨q, hq, h⟩ := szEntryS_ev l (r - j.size) (by omega) (by omega) ho.l.1 ho.l.2
  rw [← wr (n := r - j.size) (by omega) (by omega)] at hq
  have e2 : ¬ IntKind.i64.wrap (r - j.size) < 0 := by rw [wr (by omega) (by omega)]; exact h2
  rcases h with h | ⟨q0, q1, q2, q3⟩
  · exact ⟨-1, Ev.bind hr (Ev.neg (by omega) (Ev.neg e2 (Ev.bind hq (Ev.pos h (Ev.ret _))))), .inl (by omega)⟩
  obtain ⟨s, hs, h⟩ := szInt64S_ev u q q0 (by omega) ho.u
  rcases h with h | ⟨s0, s1, s2⟩
  · exact ⟨-1, Ev.bind hr (Ev.neg (by omega) (Ev.neg e2 (Ev.bind hq (Ev.neg (by omega) (Ev.bind hs (Ev.pos h (Ev.ret _))))))), .inl (by omega)⟩
  obtain ⟨t, ht, h⟩ := szPeerS_ev v s s0 (by omega) ho.v
  rcases h with h | ⟨t0, t1, t2⟩
  · exact ⟨-1, Ev.bind hr (Ev.neg (by omega) (Ev.neg e2 (Ev.bind hq (Ev.neg (by omega) (Ev.bind hs (Ev.neg (by omega) (Ev.bind ht (Ev.pos h (Ev.ret _))))))))), .inl (by omega)⟩
  · refine ⟨t, Ev.bind hr (Ev.neg (by omega) (Ev.neg e2 (Ev.bind hq (Ev.neg (by omega) (Ev.bind hs (Ev.neg (by omega) (Ev.bind ht (Ev.neg (by omega) (Ev.ret _))))))))), .inr ⟨t0, by omega, ?_⟩⟩
    refine ⟨r2, r3, by omega, ⟨by rw [List.length_map]; exact q2, fun x hx => ?_⟩, s2, by rw [List.length_map]; exact t2⟩
    rw [List.length_map] at hx
    rw [at_nat _ x (by rw [List.length_map]; exact hx), List.getElem_map]
    exact q3 _ (List.getElem_mem hx)
end
theorem toInt64S_ev (l : List Int) (hl : l.length ≤ 1048576) : Ev (fun k => f47 k l) l := by
  have key : ∀ i, i ≤ l.length → Ev (fun k => f47.D k (.l3 (l.take i ++ List.replicate (l.length - i) 0) l (i : Int))) l := by
    refine scan fun i hi ih => ?_
    simp only [f47.blk, PT.run, dite_eq_ite]
    refine Ev.ite (fun h => ?_) (fun h => Ev.ret' (fill_end 0 l i (by omega)))
    have ih := ih (by omega)
    rw [← fillL_step 0 l i (by omega), ← wr1 (by omega)] at ih
    refine Ev.pos (by omega) (Ev.pos (by rw [fill_length 0 l i hi]; omega) ?_)
    rw [Int.toNat_natCast, at_nat l i (by omega)]
    exact ih
  simp only [f47, f47.start, PT.run, dite_eq_ite]
  refine Ev.pos (by omega) ?_
  simpa using key 0 (Nat.zero_le _)
theorem toConf_ev (x y : List Int) (hx : x.length ≤ 1048576) (hy : y.length ≤ 1048576) : Ev (fun k => f22 k x y) (x, y) := by
  simp only [f22, f22.start, PT.run]
  exact Ev.bind (toInt64S_ev x hx) (Ev.bind (toInt64S_ev y hy) (Ev.ret _))
theorem toEntryS_ev (l : List S85) (hl : l.length ≤ 1048576) : Ev (fun k => f46 k l) (l.map to_Entry) := by
  have hm : (l.map to_Entry).length = l.length := List.length_map ..
  have key : ∀ i, i ≤ l.length → Ev (fun k => f46.D k (.l3 ((l.map to_Entry).take i ++ List.replicate ((l.map to_Entry).length - i) ⟨0, 0, ⟨#[]⟩⟩) l (i : Int))) (l.map to_Entry) := by
    refine scan fun i hi ih => ?_
    simp only [f46.blk, PT.run, dite_eq_ite]
    refine Ev.ite (fun h => ?_) (fun h => Ev.ret' (fill_end _ _ i (by omega)))
    have ih := ih (by omega)
    rw [← fillL_step _ (l.map to_Entry) i (by omega), ← wr1 (by omega)] at ih
    refine Ev.pos (by omega) (Ev.bind (a := ((at' l (i : Int)).f0, (at' l (i : Int)).f1, (at' l (i : Int)).f2)) (by simp only [f72, f72.start, PT.run]; exact Ev.ret _) (Ev.pos (by rw [fill_length _ (l.map to_Entry) i (by omega)]; omega) ?_))
    rw [Int.toNat_natCast, at_nat l i (by omega)]
    rw [List.getElem_map] at ih
    exact ih
  simp only [f46, f46.start, PT.run, dite_eq_ite]
  refine Ev.pos (by omega) ?_
  simpa using key 0 (Nat.zero_le _)
theorem toPeerS_ev (l : List S92) (hl : l.length ≤ 1048576) : Ev (fun k => f48 k l) (l.map to_Peer) := by
  have hm : (l.map to_Peer).length = l.length := List.length_map ..
  have key : ∀ i, i ≤ l.length → Ev (fun k => f48.D k (.l3 ((l.map to_Peer).take i ++ List.replicate ((l.map to_Peer).length - i) ⟨0, 0, 0⟩) l (i : Int))) (l.map to_Peer) := by
    refine scan fun i hi ih => ?_
    simp only [f48.blk, PT.run, dite_eq_ite]
    refine Ev.ite (fun h => ?_) (fun h => Ev.ret' (fill_end _ _ i (by omega)))
    have ih := ih (by omega)
    rw [← fillL_step _ (l.map to_Peer) i (by omega), ← wr1 (by omega)] at ih
    refine Ev.pos (by omega) (Ev.bind (a := ((at' l (i : Int)).f0, (at' l (i : Int)).f1, (at' l (i : Int)).f2)) (by simp only [f73, f73.start, PT.run]; exact Ev.ret _) (Ev.pos (by rw [fill_length _ (l.map to_Peer) i (by omega)]; omega) ?_))
    rw [Int.toNat_natCast, at_nat l i (by omega)]
    rw [List.getElem_map] at ih
    exact ih
  simp only [f48, f48.start, PT.run, dite_eq_ite]
  refine Ev.pos (by omega) ?_
  simpa using key 0 (Nat.zero_le _)
theorem toNode_ev (a b c d e : Int) (g i : List Int) (j : ByteArray) (l : List S85) (m n p : Int) (u : List Int) (v : List S92) (hz : SzN g i j (l.map to_Entry) u (v.map to_Peer)) :
    Ev (fun k => f12 k a b c d e g i j l m n p u v) (a, b, c, d, e, j, m, n, p, g, i, l.map to_Entry, u, v.map to_Peer) := by
  have h1 := hz.l.1
  have h2 := hz.v
  rw [List.length_map] at h1 h2
  simp only [f12, f12.start, PT.run]
  exact Ev.bind (toConf_ev g i hz.g hz.i) (Ev.bind (toEntryS_ev l h1) (Ev.bind (toInt64S_ev u hz.u) (Ev.bind (toPeerS_ev v h2) (Ev.ret _))))
theorem eqInt64S_ev (l : List Int) (hl : l.length ≤ 1048576) : Ev (fun k => f50 k l l) true := by
  have key : ∀ i, i ≤ l.length → Ev (fun k => f50.D k (.l4 l l (i : Int))) true := by
    refine scan fun i hi ih => ?_
    simp only [f50.blk, PT.run, dite_eq_ite]
    refine Ev.ite (fun h => ?_) (fun h => Ev.ret _)
    have ih := ih (by omega)
    rw [← wr1 (by omega)] at ih
    exact Ev.pos (by omega) (Ev.pos (by omega) (Ev.pos (by simp) ih))
  simp only [f50, f50.start, PT.run, dite_eq_ite]
  exact Ev.pos (by simp) (key 0 (Nat.zero_le _))
theorem eqConf_ev (x y : List Int) (hx : x.length ≤ 1048576) (hy : y.length ≤ 1048576) : Ev (fun k => f24 k x y x y) true := by
  simp only [f24, f24.start, PT.run, dite_eq_ite]
  exact Ev.bind (eqInt64S_ev x hx) (Ev.pos (by simp) (Ev.bind (eqInt64S_ev y hy) (Ev.pos (by simp) (Ev.ret _))))
theorem eqEntry_ev (x y : Int) (z : ByteArray) : Ev (fun k => f17 k x y z x y z) true := by
  simp only [f17, f17.start, PT.run, dite_eq_ite]
  exact Ev.pos (by simp) (Ev.pos (by simp) (Ev.pos (strEq_self _) (Ev.ret _)))
theorem eqEntryS_ev (l : List S40) (hl : l.length ≤ 1048576) : Ev (fun k => f30 k l l) true := by
  have key : ∀ i, i ≤ l.length → Ev (fun k => f30.D k (.l4 l l (i : Int))) true := by
    refine scan fun i hi ih => ?_
    simp only [f30.blk, PT.run, dite_eq_ite]
    refine Ev.ite (fun h => ?_) (fun h => Ev.ret _)
    have ih := ih (by omega)
    rw [← wr1 (by omega)] at ih
    exact Ev.pos (by omega) (Ev.pos (by omega) (Ev.bind (eqEntry_ev _ _ _) (Ev.pos (by simp) ih)))
  simp only [f30, f30.start, PT.run, dite_eq_ite]
  exact Ev.pos (by simp) (key 0 (Nat.zero_le _))
theorem eqPeerS_ev (l : List S90) (hl : l.length ≤ 1048576) : Ev (fun k => f51 k l l) true := by
  have key : ∀ i, i ≤ l.length → Ev (fun k => f51.D k (.l4 l l (i : Int))) true := by
    refine scan fun i hi ih => ?_
    simp only [f51.blk, PT.run, dite_eq_ite]
    refine Ev.ite (fun h => ?_) (fun h => Ev.ret _)
    have ih := ih (by omega)
    rw [← wr1 (by omega)] at ih
    refine Ev.pos (by omega) (Ev.pos (by omega) (Ev.bind (a := true) ?_ (Ev.pos (by simp) ih)))
    simp only [f80, f80.start, PT.run, dite_eq_ite]
    exact Ev.pos (by simp) (Ev.pos (by simp) (Ev.pos (by simp) (Ev.ret _)))
  simp only [f51, f51.start, PT.run, dite_eq_ite]
  exact Ev.pos (by simp) (key 0 (Nat.zero_le _))
theorem eqNode_ev (a b c d e : Int) (g i : List Int) (j : ByteArray) (l : List S40) (m n p : Int) (u : List Int) (v : List S90) (hz : SzN g i j l u v) : Ev (fun k => f14 k a b c d e g i j l m n p u v a b c d e g i j l m n p u v) true := by
  simp only [f14, f14.start, PT.run, dite_eq_ite]
  exact Ev.pos (by simp) (Ev.pos (by simp) (Ev.pos (by simp) (Ev.pos (by simp) (Ev.pos (by simp) (Ev.bind (eqConf_ev g i hz.g hz.i) (Ev.pos (by simp) (Ev.pos (strEq_self _) (Ev.bind (eqEntryS_ev l hz.l.1) (Ev.pos (by simp) (Ev.pos (by simp) (Ev.pos (by simp) (Ev.pos (by simp) (Ev.bind (eqInt64S_ev u hz.u) (Ev.pos (by simp) (Ev.bind (eqPeerS_ev v hz.v) (Ev.pos (by simp) (Ev.ret _)))))))))))))))))
end Go.Proofs.YtbfgmnjhikaagaaGreatDoor.P
namespace Go.Proofs.YtbfgmnjhikaagaaGreatDoor.P
open Go Go.Proofs.YtbfgmnjhikaagaaGreatDoor.PM Go.Proofs
open Go.Proofs.YtbfgmnjhikaagaaGreatDoor.PN (PT)
structure NodeF (d : Int) (l : List S40) (m : Int) : Prop where
  d0 : 0 ≤ d
  d1 : d ≤ 999999999500
  hl : l.length ≤ 500
  m0 : d ≤ m
  m1 : m ≤ d + l.length
section
variable (a b c d e : Int) (g i : List Int) (j : ByteArray) (l : List S40) (m n p : Int) (u : List Int) (v : List S90)
theorem nodeF (h : nodeB a b c d e g i j l m n p u v = true) : NodeF d l m := by
  unfold nodeB headB inB at h
  simp only [Bool.and_eq_true, decide_eq_true_eq] at h
  obtain ⟨⟨_, _, _, _, h5, _, _, _, h9⟩, h10, _⟩ := h
  exact ⟨h5.1, h5.2, h9, h10.1, h10.2⟩
def tmV (d e : Int) (l : List S40) (w : Int) : Int := if w = d then e else (at' l (w - d - 1)).f0
theorem l10Term_ev (hl : l.length ≤ 1048576) (hd : 0 ≤ d ∧ d ≤ 1000000000000) (w : Int) (h0 : d ≤ w) (h1 : w ≤ d + l.length) : Ev (fun k => f53 k a b c d e g i j l m n p u v w) (tmV d e l w) := by
  simp only [f53, f53.start, PT.run, dite_eq_ite, PN.bindH_eq]
  unfold tmV
  refine Ev.ite (fun h => Ev.ret' (by rw [if_pos h])) (fun h => ?_)
  rw [if_neg h, wr (n := w - d) (by omega) (by omega), wr (n := w - d - 1) (by omega) (by omega)]
  exact Ev.neg (by omega) (Ev.bind (l10Last_ev a b c d e g i j l m n p u v hd hl) (Ev.neg (by omega) (Ev.pos (by omega) (Ev.pos (by omega) (Ev.ret _)))))
theorem termAt_ev (hl : l.length ≤ 1048576) (hd : 0 ≤ d ∧ d ≤ 1000000000000) (w : Int) (h0 : d ≤ w) (h1 : w ≤ d + l.length) : Ev (fun k => f54 k a b c d e g i j l m n p u v w) (tmV d e l w) := by
  simp only [f54, f54.start, PT.run, dite_eq_ite, PN.bindH_eq]
  unfold tmV
  refine Ev.ite (fun h => Ev.ret' (by rw [if_pos h])) (fun h => ?_)
  rw [if_neg h, wr (n := w - d) (by omega) (by omega), wr (n := w - d - 1) (by omega) (by omega)]
  exact Ev.pos (by omega) (Ev.pos (by omega) (Ev.ret _))
end
end Go.Proofs.YtbfgmnjhikaagaaGreatDoor.P
namespace Go.Proofs.YtbfgmnjhikaagaaGreatDoor.P
open Go Go.Proofs.YtbfgmnjhikaagaaGreatDoor.PM Go.Proofs
open Go.Proofs.YtbfgmnjhikaagaaGreatDoor.PN (PT)
theorem markText_loop (d : Nat) : ∀ (x : Int) (s : ByteArray), 0 ≤ x → x ≤ 9223372036854775807 → x < 10 ^ d → s.size + d ≤ 1000 → ∃ t, Ev (fun k => f61.D k (.l4 x s)) t := by
  induction d with
  | zero =>
    intro x s h0 hm h1 h2
    refine ⟨(⟨#[109]⟩ : ByteArray) ++ s, Ev.round ?_⟩
    · simp only [f61.blk, PT.run, dite_eq_ite]
      exact Ev.neg (by omega) (Ev.pos (by rw [show (⟨#[109]⟩ : ByteArray).size = 1 from rfl]; omega) (Ev.ret _))
  | succ d ih =>
    intro x s h0 hm h1 h2
    by_cases hx : 0 < x
    · have e : x.tdiv 10 = x / 10 := Int.tdiv_eq_ediv_of_nonneg h0
      have hb : x / 10 < 10 ^ d := by
        have : (10 : Int) ^ (d + 1) = 10 ^ d * 10 := Int.pow_succ 10 d
        omega
      have hw : IntKind.i64.wrap (x.tdiv 10) = x / 10 := by rw [e, wr (by omega) (by omega)]
      have h3 : (strOf ([(IntKind.u8.wrap (IntKind.i64.wrap (48 + (x.tmod 10))))] : List Int)).size = 1 := rfl
      obtain ⟨t, ht⟩ := ih (x / 10) (strOf ([(IntKind.u8.wrap (IntKind.i64.wrap (48 + (x.tmod 10))))] : List Int) ++ s) (by omega) (by omega) hb (by rw [ByteArray.size_append, h3]; omega)
      refine ⟨t, Ev.round ?_⟩
      simp only [f61.blk, PT.run, dite_eq_ite]
      rw [hw]
      exact Ev.pos hx (Ev.pos (by omega) ht)
    · refine ⟨(⟨#[109]⟩ : ByteArray) ++ s, Ev.round ?_⟩
      · simp only [f61.blk, PT.run, dite_eq_ite]
        exact Ev.neg hx (Ev.pos (by rw [show (⟨#[109]⟩ : ByteArray).size = 1 from rfl]; omega) (Ev.ret _))
theorem markText_any (x : Int) (h0 : 0 ≤ x) (h1 : x ≤ 9223372036854775807) : ∃ t, Ev (fun k => f61 k x) t := by
  simp only [f61, f61.start, PT.run, dite_eq_ite]
  by_cases h : x ≤ 0
  · exact ⟨_, Ev.pos h (Ev.ret _)⟩
  · obtain ⟨t, ht⟩ := markText_loop 19 x (⟨#[]⟩ : ByteArray) h0 h1 (by omega) (by decide)
    exact ⟨t, Ev.neg h ht⟩
noncomputable def mt (x : Int) : ByteArray := by
  classical
  exact if h : ∃ t, Ev (fun k => f61 k x) t then h.choose else default
theorem mt_ev (x : Int) (h0 : 0 ≤ x) (h1 : x ≤ 9223372036854775807) : Ev (fun k => f61 k x) (mt x) := by
  have h := markText_any x h0 h1
  unfold mt
  rw [dif_pos h]
  exact h.choose_spec
def mkI (a : Int) : Nat → List Int
  | 0 => []
  | n + 1 => a :: mkI (a + 1) n
def mkP (a : Int) : Nat → List S90
  | 0 => []
  | n + 1 => ⟨a, a + 1, a + 2⟩ :: mkP (a + 3) n
noncomputable def mkE (a : Int) : Nat → List S40
  | 0 => []
  | n + 1 => ⟨a, a + 1, mt (a + 2)⟩ :: mkE (a + 3) n
theorem mkI_len : ∀ (n : Nat) (a : Int), (mkI a n).length = n
  | 0, _ => rfl
  | n + 1, a => by rw [mkI, List.length_cons, mkI_len n]
theorem mkP_len : ∀ (n : Nat) (a : Int), (mkP a n).length = n
  | 0, _ => rfl
  | n + 1, a => by rw [mkP, List.length_cons, mkP_len n]
theorem mkE_len : ∀ (n : Nat) (a : Int), (mkE a n).length = n
  | 0, _ => rfl
  | n + 1, a => by rw [mkE, List.length_cons, mkE_len n]
theorem set_mid {α : Type} (p : List α) (x y : α) (r : List α) : (p ++ x :: r).set p.length y = p ++ y :: r := by
  rw [List.set_append_right _ _ (Nat.le_refl _), Nat.sub_self, List.set_cons_zero]
theorem at_mid {α : Type} [Inhabited α] (p : List α) (x : α) (r : List α) : at' (p ++ x :: r) (p.length : Int) = x := by
  rw [at_nat _ _ (by simp), List.getElem_append_right (Nat.le_refl _)]
  simp
theorem w3 {a : Int} (h0 : 0 ≤ a) (h1 : a ≤ 4611686018427387904) : IntKind.i64.wrap (a + 1) = a + 1 ∧ IntKind.i64.wrap (a + 1 + 1) = a + 2 ∧ IntKind.i64.wrap (a + 2 + 1) = a + 3 :=
  ⟨wr (by omega) (by omega), by rw [wr (by omega) (by omega)]; omega, by rw [wr (by omega) (by omega)]; omega⟩
theorem markI_loop : ∀ (r p : List Int) (a : Int), 0 ≤ a → a + r.length ≤ 4611686018427387904 → p.length + r.length ≤ 1073741824 → Ev (fun k => f57.D k (.l2 (p ++ r) a (p.length : Int))) (a + r.length, p ++ mkI a r.length)
  | [], p, a, h0, h1, h2 => by
    refine Ev.round ?_
    simp only [f57.blk, PT.run, dite_eq_ite]
    exact Ev.neg (by simp) (Ev.ret' (by simp [mkI]))
  | x :: r, p, a, h0, h1, h2 => by
    rw [List.length_cons] at h1 h2
    refine Ev.round ?_
    simp only [f57.blk, PT.run, dite_eq_ite]
    refine Ev.pos (by rw [List.length_append, List.length_cons]; omega) (Ev.pos (by omega) ?_)
    rw [(w3 h0 (by omega)).1, wr (n := (p.length : Int) + 1) (by omega) (by omega), Int.toNat_natCast, set_mid]
    have ih := markI_loop r (p ++ [a]) (a + 1) (by omega) (by omega) (by rw [List.length_append]; simp; omega)
    rw [List.append_assoc, List.singleton_append, List.length_append, List.length_singleton, show ((p.length + 1 : Nat) : Int) = (p.length : Int) + 1 by omega] at ih
    refine ih.eq ?_
    rw [List.length_cons, mkI, List.append_assoc]
    simp only [Prod.mk.injEq, List.singleton_append, and_true]
    omega
theorem markI_ev (l : List Int) (a : Int) (h0 : 0 ≤ a) (h1 : a + l.length ≤ 4611686018427387904) (h2 : l.length ≤ 1073741824) : Ev (fun k => f57 k a l) (a + l.length, mkI a l.length) := by
  simp only [f57, f57.start, PT.run]
  exact markI_loop l [] a h0 h1 (by simpa using h2)
theorem markE_loop : ∀ (r p : List S40) (a : Int), 0 ≤ a → a + 3 * r.length ≤ 4611686018427387904 → p.length + r.length ≤ 1073741824 → Ev (fun k => f31.D k (.l2 (p ++ r) a (p.length : Int))) (a + 3 * r.length, p ++ mkE a r.length)
  | [], p, a, h0, h1, h2 => by
    refine Ev.round ?_
    simp only [f31.blk, PT.run, dite_eq_ite]
    exact Ev.neg (by simp) (Ev.ret' (by simp [mkE]))
  | x :: r, p, a, h0, h1, h2 => by
    rw [List.length_cons] at h1 h2
    refine Ev.round ?_
    simp only [f31.blk, PT.run, dite_eq_ite]
    refine Ev.pos (by rw [List.length_append, List.length_cons]; omega) (Ev.pos (by omega) ?_)
    obtain ⟨e1, e2, e3⟩ := w3 h0 (by omega)
    rw [e1, e2, e3, wr (n := (p.length : Int) + 1) (by omega) (by omega), Int.toNat_natCast]
    refine Ev.bind (mt_ev (a + 2) (by omega) (by omega)) ?_
    rw [set_mid]
    have ih := markE_loop r (p ++ [⟨a, a + 1, mt (a + 2)⟩]) (a + 3) (by omega) (by omega) (by rw [List.length_append]; simp; omega)
    rw [List.append_assoc, List.singleton_append, List.length_append, List.length_singleton, show ((p.length + 1 : Nat) : Int) = (p.length : Int) + 1 by omega] at ih
    refine ih.eq ?_
    rw [List.length_cons, mkE, List.append_assoc]
    simp only [Prod.mk.injEq, List.singleton_append, and_true]
    omega
theorem markE_ev (l : List S40) (a : Int) (h0 : 0 ≤ a) (h1 : a + 3 * l.length ≤ 4611686018427387904) (h2 : l.length ≤ 1073741824) : Ev (fun k => f31 k a l) (a + 3 * l.length, mkE a l.length) := by
  simp only [f31, f31.start, PT.run]
  exact markE_loop l [] a h0 h1 (by simpa using h2)
theorem markP_loop : ∀ (r p : List S90) (a : Int), 0 ≤ a → a + 3 * r.length ≤ 4611686018427387904 → p.length + r.length ≤ 1073741824 → Ev (fun k => f58.D k (.l2 (p ++ r) a (p.length : Int))) (a + 3 * r.length, p ++ mkP a r.length)
  | [], p, a, h0, h1, h2 => by
    refine Ev.round ?_
    simp only [f58.blk, PT.run, dite_eq_ite]
    exact Ev.neg (by simp) (Ev.ret' (by simp [mkP]))
  | x :: r, p, a, h0, h1, h2 => by
    rw [List.length_cons] at h1 h2
    refine Ev.round ?_
    simp only [f58.blk, PT.run, dite_eq_ite]
    refine Ev.pos (by rw [List.length_append, List.length_cons]; omega) (Ev.pos (by omega) ?_)
    obtain ⟨e1, e2, e3⟩ := w3 h0 (by omega)
    rw [e1, e2, e3, wr (n := (p.length : Int) + 1) (by omega) (by omega), Int.toNat_natCast, set_mid]
    have ih := markP_loop r (p ++ [⟨a, a + 1, a + 2⟩]) (a + 3) (by omega) (by omega) (by rw [List.length_append]; simp; omega)
    rw [List.append_assoc, List.singleton_append, List.length_append, List.length_singleton, show ((p.length + 1 : Nat) : Int) = (p.length : Int) + 1 by omega] at ih
    refine ih.eq ?_
    rw [List.length_cons, mkP, List.append_assoc]
    simp only [Prod.mk.injEq, List.singleton_append, and_true]
    omega
theorem markP_ev (l : List S90) (a : Int) (h0 : 0 ≤ a) (h1 : a + 3 * l.length ≤ 4611686018427387904) (h2 : l.length ≤ 1073741824) : Ev (fun k => f58 k a l) (a + 3 * l.length, mkP a l.length) := by
  simp only [f58, f58.start, PT.run]
  exact markP_loop l [] a h0 h1 (by simpa using h2)
theorem heldI_loop : ∀ (n : Nat) (p : List Int) (a : Int), 0 ≤ a → a + n ≤ 4611686018427387904 → p.length + n ≤ 1073741824 → Ev (fun k => f59.D k (.l2 (p ++ mkI a n) a (p.length : Int))) (a + n)
  | 0, p, a, h0, h1, h2 => by
    refine Ev.round ?_
    simp only [f59.blk, PT.run, dite_eq_ite]
    exact Ev.neg (by simp [mkI]) (Ev.ret' (by simp))
  | n + 1, p, a, h0, h1, h2 => by
    refine Ev.round ?_
    simp only [f59.blk, PT.run, dite_eq_ite]
    refine Ev.pos (by rw [List.length_append, mkI_len]; omega) (Ev.pos (by omega) ?_)
    rw [mkI, at_mid, (w3 h0 (by omega)).1, wr (n := (p.length : Int) + 1) (by omega) (by omega)]
    have ih := heldI_loop n (p ++ [a]) (a + 1) (by omega) (by omega) (by rw [List.length_append]; simp; omega)
    rw [List.append_assoc, List.singleton_append, List.length_append, List.length_singleton, show ((p.length + 1 : Nat) : Int) = (p.length : Int) + 1 by omega] at ih
    exact Ev.pos rfl (ih.eq (by omega))
theorem heldI_ev (n : Nat) (a : Int) (h0 : 0 ≤ a) (h1 : a + n ≤ 4611686018427387904) (h2 : n ≤ 1073741824) : Ev (fun k => f59 k (mkI a n) a) (a + n) := by
  simp only [f59, f59.start, PT.run]
  exact heldI_loop n [] a h0 h1 (by simpa using h2)
theorem heldE_loop : ∀ (n : Nat) (p : List S40) (a : Int), 0 ≤ a → a + 3 * n ≤ 4611686018427387904 → p.length + n ≤ 1073741824 → Ev (fun k => f32.D k (.l2 (p ++ mkE a n) a (p.length : Int))) (a + 3 * n)
  | 0, p, a, h0, h1, h2 => by
    refine Ev.round ?_
    simp only [f32.blk, PT.run, dite_eq_ite]
    exact Ev.neg (by simp [mkE]) (Ev.ret' (by simp))
  | n + 1, p, a, h0, h1, h2 => by
    refine Ev.round ?_
    simp only [f32.blk, PT.run, dite_eq_ite]
    refine Ev.pos (by rw [List.length_append, mkE_len]; omega) (Ev.pos (by omega) ?_)
    obtain ⟨e1, e2, e3⟩ := w3 h0 (by omega)
    rw [mkE, at_mid, e1, e2, e3, wr (n := (p.length : Int) + 1) (by omega) (by omega)]
    have ih := heldE_loop n (p ++ [⟨a, a + 1, mt (a + 2)⟩]) (a + 3) (by omega) (by omega) (by rw [List.length_append]; simp; omega)
    rw [List.append_assoc, List.singleton_append, List.length_append, List.length_singleton, show ((p.length + 1 : Nat) : Int) = (p.length : Int) + 1 by omega] at ih
    exact Ev.pos rfl (Ev.pos rfl (Ev.bind (mt_ev (a + 2) (by omega) (by omega)) (Ev.pos (strEq_self _) (ih.eq (by omega)))))
theorem heldE_ev (n : Nat) (a : Int) (h0 : 0 ≤ a) (h1 : a + 3 * n ≤ 4611686018427387904) (h2 : n ≤ 1073741824) : Ev (fun k => f32 k (mkE a n) a) (a + 3 * n) := by
  simp only [f32, f32.start, PT.run]
  exact heldE_loop n [] a h0 h1 (by simpa using h2)
theorem heldP_loop : ∀ (n : Nat) (p : List S90) (a : Int), 0 ≤ a → a + 3 * n ≤ 4611686018427387904 → p.length + n ≤ 1073741824 → Ev (fun k => f60.D k (.l2 (p ++ mkP a n) a (p.length : Int))) (a + 3 * n)
  | 0, p, a, h0, h1, h2 => by
    refine Ev.round ?_
    simp only [f60.blk, PT.run, dite_eq_ite]
    exact Ev.neg (by simp [mkP]) (Ev.ret' (by simp))
  | n + 1, p, a, h0, h1, h2 => by
    refine Ev.round ?_
    simp only [f60.blk, PT.run, dite_eq_ite]
    refine Ev.pos (by rw [List.length_append, mkP_len]; omega) (Ev.pos (by omega) ?_)
    obtain ⟨e1, e2, e3⟩ := w3 h0 (by omega)
    rw [mkP, at_mid, e1, e2, e3, wr (n := (p.length : Int) + 1) (by omega) (by omega)]
    have ih := heldP_loop n (p ++ [⟨a, a + 1, a + 2⟩]) (a + 3) (by omega) (by omega) (by rw [List.length_append]; simp; omega)
    rw [List.append_assoc, List.singleton_append, List.length_append, List.length_singleton, show ((p.length + 1 : Nat) : Int) = (p.length : Int) + 1 by omega] at ih
    exact Ev.pos rfl (Ev.pos rfl (Ev.pos rfl (ih.eq (by omega))))
theorem heldP_ev (n : Nat) (a : Int) (h0 : 0 ≤ a) (h1 : a + 3 * n ≤ 4611686018427387904) (h2 : n ≤ 1073741824) : Ev (fun k => f60 k (mkP a n) a) (a + 3 * n) := by
  simp only [f60, f60.start, PT.run]
  exact heldP_loop n [] a h0 h1 (by simpa using h2)
theorem markC_ev (x y : List Int) (hx : x.length ≤ 1048576) (hy : y.length ≤ 1048576) (a : Int) (h0 : 0 ≤ a) (h1 : a ≤ 1073741824) : Ev (fun k => f25 k a x y) (a + x.length + y.length, mkI a x.length, mkI (a + x.length) y.length) := by
  simp only [f25, f25.start, PT.run, PN.bindH_eq]
  exact Ev.bind (markI_ev x a h0 (by omega) (by omega)) (Ev.bind (markI_ev y _ (by omega) (by omega) (by omega)) (Ev.ret _))
theorem heldC_ev (n o : Nat) (hx : n ≤ 1048576) (hy : o ≤ 1048576) (a : Int) (h0 : 0 ≤ a) (h1 : a ≤ 1073741824) : Ev (fun k => f35 k (mkI a n) (mkI (a + n) o) a) (a + n + o) := by
  simp only [f35, f35.start, PT.run, dite_eq_ite, PN.bindH_eq]
  exact Ev.bind (heldI_ev n a h0 (by omega) (by omega)) (Ev.neg (by omega) (Ev.bind (heldI_ev o _ (by omega) (by omega) (by omega)) (Ev.neg (by omega) (Ev.ret _))))
section
variable (a b c d e : Int) (g i : List Int) (j : ByteArray) (l : List S40) (m n p : Int) (u : List Int) (v : List S90)
theorem markN_ev (hz : SzN g i j l u v) : Ev (fun k => f26 k a b c d e j m n p 1 g i l u v) (1 + g.length + i.length + 3 * l.length + u.length + 3 * v.length, mkI 1 g.length, mkI (1 + g.length) i.length, mkE (1 + g.length + i.length) l.length, mkI (1 + g.length + i.length + 3 * l.length) u.length, mkP (1 + g.length + i.length + 3 * l.length + u.length) v.length) := by
  have h1 := hz.g
  have h2 := hz.i
  have h3 := hz.l.1
  have h4 := hz.u
  have h5 := hz.v
  simp only [f26, f26.start, PT.run, PN.bindH_eq]
  exact Ev.bind (markC_ev g i h1 h2 1 (by decide) (by decide)) (Ev.bind (markE_ev l _ (by omega) (by omega) (by omega)) (Ev.bind (markI_ev u _ (by omega) (by omega) (by omega)) (Ev.bind (markP_ev v _ (by omega) (by omega) (by omega)) (Ev.ret _))))
theorem heldN_ev (hz : SzN g i j l u v) : Ev (fun k => f27 k a b c d e (mkI 1 g.length) (mkI (1 + g.length) i.length) j (mkE (1 + g.length + i.length) l.length) m n p (mkI (1 + g.length + i.length + 3 * l.length) u.length) (mkP (1 + g.length + i.length + 3 * l.length + u.length) v.length) 1) (1 + g.length + i.length + 3 * l.length + u.length + 3 * v.length) := by
  have h1 := hz.g
  have h2 := hz.i
  have h3 := hz.l.1
  have h4 := hz.u
  have h5 := hz.v
  simp only [f27, f27.start, PT.run, dite_eq_ite, PN.bindH_eq]
  exact Ev.bind (heldC_ev _ _ h1 h2 1 (by decide) (by decide)) (Ev.neg (by omega) (Ev.bind (heldE_ev _ _ (by omega) (by omega) (by omega)) (Ev.neg (by omega) (Ev.bind (heldI_ev _ _ (by omega) (by omega) (by omega)) (Ev.neg (by omega) (Ev.bind (heldP_ev _ _ (by omega) (by omega) (by omega)) (Ev.neg (by omega) (Ev.ret _))))))))
end
end Go.Proofs.YtbfgmnjhikaagaaGreatDoor.P
namespace Go.Proofs.YtbfgmnjhikaagaaGreatDoor.P
open Go Go.Proofs.YtbfgmnjhikaagaaGreatDoor.PM Go.Proofs
open Go.Proofs.YtbfgmnjhikaagaaGreatDoor.PN (PT)
theorem mkI_take (n : Nat) (a : Int) : (mkI a n).take n = mkI a n := List.take_of_length_le (by rw [mkI_len]; omega)
theorem mkE_take (n : Nat) (a : Int) : (mkE a n).take n = mkE a n := List.take_of_length_le (by rw [mkE_len]; omega)
theorem mkP_take (n : Nat) (a : Int) : (mkP a n).take n = mkP a n := List.take_of_length_le (by rw [mkP_len]; omega)
section
variable (a b c d e : Int) (g i : List Int) (j : ByteArray) (l : List S40) (m n p : Int) (u : List Int) (v : List S90)
theorem node_conf (hz : SzN g i j l u v) (h : nodeB a b c d e g i j l m n p u v = true) : ∀ q : Nat, q ≤ l.length → confB (confF g i l q).1 (confF g i l q).2 = true := by
  unfold nodeB headB at h
  simp only [Bool.and_eq_true, decide_eq_true_eq] at h
  obtain ⟨⟨_, _, _, _, _, _, h7, _, _⟩, _, h11, _⟩ := h
  exact conf_ok g i l hz.l h7 (log_told h11)
theorem confB_len {x y : List Int} (h : confB x y = true) : x.length ≤ 7 ∧ y.length ≤ 7 := ⟨(confB_oks h).1.2, (confB_oks h).2.2⟩
theorem copyConf_ev (x y : List Int) (hx : x.length ≤ 1048576) (hy : y.length ≤ 1048576) : Ev (fun k => f56 k x y) (x, y) := by
  simp only [f56, f56.start, PT.run, dite_eq_ite, PN.bindH_eq]
  exact Ev.pos (by omega) (Ev.pos (by omega) (Ev.ret _))
end
theorem sz_new {g i : List Int} (hg : g.length ≤ 1048576) (hi : i.length ≤ 1048576) : SzN g i ⟨#[]⟩ [] [] [] :=
  ⟨hg, hi, by decide, ⟨Nat.zero_le _, fun _ h => absurd h (Nat.not_lt_zero _)⟩, Nat.zero_le _, Nat.zero_le _⟩
end Go.Proofs.YtbfgmnjhikaagaaGreatDoor.P
namespace Go.Proofs.YtbfgmnjhikaagaaGreatDoor.P
open Go Go.Proofs.YtbfgmnjhikaagaaGreatDoor.PM Go.Proofs
open Go.Proofs.YtbfgmnjhikaagaaGreatDoor.PN (PT)
theorem at_take (l : List S40) (k q : Nat) (h : q < k) (hq : q < l.length) : at' (l.take k) (q : Int) = at' l (q : Int) := by
  rw [at_nat _ q (by rw [List.length_take]; omega), at_nat l q hq, List.getElem_take]
theorem confF_take (g i : List Int) (l : List S40) (k : Nat) (hk : k ≤ l.length) : ∀ q, q ≤ k → confF g i (l.take k) q = confF g i l q
  | 0, _ => rfl
  | q + 1, h => by
    have ih := confF_take g i l k hk q (by omega)
    unfold confF
    rw [at_take l k q (by omega) (by omega), ih]
theorem SzL_take {l : List S40} (h : SzL l) (k : Nat) : SzL (l.take k) := by
  have h0 := h.1
  refine ⟨by rw [List.length_take]; omega, fun x hx => ?_⟩
  rw [List.length_take] at hx
  rw [at_take l k x (by omega) (by omega)]
  exact h.2 x (by omega)
theorem SzL_drop {l : List S40} (h : SzL l) (k : Nat) : SzL (l.drop k) := by
  have h0 := h.1
  refine ⟨by rw [List.length_drop]; omega, fun x hx => ?_⟩
  rw [List.length_drop] at hx
  have := h.2 (k + x) (by omega)
  rw [at_nat _ _ (by omega)] at this
  rw [at_nat _ x (by rw [List.length_drop]; omega), List.getElem_drop]
  exact this
section
variable (a b c d e : Int) (g i : List Int) (j : ByteArray) (l : List S40) (m n p : Int) (u : List Int) (v : List S90)
theorem l10Copy_ev (hz : SzN g i j l u v) : Ev (fun k => f64 k a b c d e g i j l m n p u v) (a, b, c, d, e, j, m, n, p, g, i, l, u, v) := by
  have h1 := hz.g
  have h2 := hz.i
  have h3 := hz.l.1
  have h4 := hz.u
  have h5 := hz.v
  simp only [f64, f64.start, PT.run, dite_eq_ite, PN.bindH_eq]
  exact Ev.bind (l9Copy_ev g i (by omega) (by omega)) (Ev.pos (by omega) (Ev.pos (by omega) (Ev.pos (by omega) (Ev.ret _))))
theorem copyNode_ev (hz : SzN g i j l u v) : Ev (fun k => f66 k a b c d e g i j l m n p u v) (a, b, c, d, e, j, m, n, p, g, i, l, u, v) := by
  have h3 := hz.l.1
  have h4 := hz.u
  have h5 := hz.v
  simp only [f66, f66.start, PT.run, dite_eq_ite, PN.bindH_eq]
  exact Ev.bind (copyConf_ev g i hz.g hz.i) (Ev.pos (by omega) (Ev.pos (by omega) (Ev.pos (by omega) (Ev.ret _))))
def cpV (ok : Bool) (w : Int) (y : ByteArray) : Int × Int × Int × Int × Int × ByteArray × Int × Int × Int × Int × List Int × List Int × List S40 × List Int × List S90 :=
  if ok = true then
    if d < w ∧ w ≤ m then
      if y.size ≤ 20000 then (a, b, c, w, tmV d e l w, y, m, n, p, 0, (confF g i l (w - d).toNat).1, (confF g i l (w - d).toNat).2, l.drop (w - d).toNat, u, v)
      else (a, b, c, d, e, j, m, n, p, 3, g, i, l, u, v)
    else (a, b, c, d, e, j, m, n, p, 2, g, i, l, u, v)
  else (0, 0, 0, 0, 0, ⟨#[]⟩, 0, 0, 0, 1, [], [], [], [], [])
theorem spec_Compact (hz : SzN g i j l u v) (w : Int) (y : ByteArray) : Ev (fun k => f36 k a b c d e g i j l m n p u v w y) (cpV a b c d e g i j l m n p u v (nodeB a b c d e g i j l m n p u v) w y) := by
  simp only [f36, f36.start, PT.run, dite_eq_ite, PN.bindH_eq]
  unfold cpV
  refine Ev.bind (spec_NodeOk a b c d e g i j l m n p u v hz) (Ev.ite (fun h => ?_) (fun h => Ev.ret' (by rw [if_neg h])))
  obtain ⟨d0, d1, h2, h3, h4⟩ := nodeF a b c d e g i j l m n p u v h
  rw [if_pos h]
  refine Ev.bind (l10Copy_ev a b c d e g i j l m n p u v hz) ?_
  rw [wr (n := d + 1) (by omega) (by omega)]
  refine Ev.bind (l1In_ev _ _ _) (Ev.ite (fun h5 => ?_) (fun h5 => Ev.ret' (by rw [if_neg fun y => h5 ?_]; unfold inB; simp only [Bool.and_eq_true, decide_eq_true_eq]; omega)))
  unfold inB at h5
  simp only [Bool.and_eq_true, decide_eq_true_eq] at h5
  rw [if_pos (show d < w ∧ w ≤ m by omega)]
  refine Ev.ite (fun h6 => Ev.ret' (by rw [if_neg (show ¬ y.size ≤ 20000 by omega)])) (fun h6 => ?_)
  rw [if_pos (show y.size ≤ 20000 by omega), wr (n := w - d) (by omega) (by omega)]
  obtain ⟨z, hw⟩ : ∃ z : Nat, w - d = z := ⟨(w - d).toNat, by omega⟩
  rw [hw, Int.toNat_natCast]
  have key := scan (blk := f36.blk) (L := fun q => .l10 (confF g i l q).1 (confF g i l q).2 l u v w y (z : Int) (q : Int) a b c d e g i j l m n p u v 0 0 0 0 0 ⟨#[]⟩ 0 0 0 a b c d e j m n p) (n := z) (res := fun _ => (a, b, c, w, tmV d e l w, y, m, n, p, 0, (confF g i l z).1, (confF g i l z).2, l.drop z, u, v)) (fun q hq ih => ?_) 0 (Nat.zero_le _)
  · exact key
  · simp only [f36.blk, PT.run, dite_eq_ite, PN.bindH_eq]
    refine Ev.ite (fun h7 => ?_) (fun h7 => ?_)
    · have ih := ih (by omega)
      rw [← wr1 (by omega)] at ih
      refine Ev.pos (by omega) (Ev.pos (by omega) (Ev.ite (fun h8 => ?_) (fun h8 => ?_)))
      · refine Ev.bind (rc_two _ (hz.l.2 q (by omega))).1 ?_
        rw [confF, if_pos h8] at ih
        exact ih
      · rw [confF, if_neg h8] at ih
        exact ih
    · obtain rfl : q = z := by omega
      refine Ev.bind (l10Term_ev a b c d e g i j l m n p u v hz.l.1 (by omega) w (by omega) (by omega)) (Ev.pos (by omega) (Ev.pos (by omega) ?_))
      rw [List.take_length, Int.toNat_natCast]
      exact Ev.pos (by rw [List.length_drop]; omega) (Ev.ret _)
theorem impl_Compact (hz : SzN g i j l u v) (w : Int) (y : ByteArray) : Ev (fun k => f37 k a b c d e g i j l m n p u v w y) (cpV a b c d e g i j l m n p u v (nodeB a b c d e g i j l m n p u v) w y) := by
  simp only [f37, f37.start, PT.run, dite_eq_ite, PN.bindH_eq]
  unfold cpV
  refine Ev.bind (isNode_ev a b c d e g i j l m n p u v hz) (Ev.ite (fun h => ?_) (fun h => Ev.ret' (by rw [if_neg h])))
  obtain ⟨d0, d1, h2, h3, h4⟩ := nodeF a b c d e g i j l m n p u v h
  have hcf := node_conf a b c d e g i j l m n p u v hz h
  rw [if_pos h]
  refine Ev.bind (copyNode_ev a b c d e g i j l m n p u v hz) ?_
  simp only []
  refine Ev.ite (fun h5 => Ev.ret' (by rw [if_neg (show ¬ (d < w ∧ w ≤ m) by omega)])) (fun h5 => ?_)
  refine Ev.ite (fun h6 => Ev.ret' (by rw [if_neg (show ¬ (d < w ∧ w ≤ m) by omega)])) (fun h6 => ?_)
  rw [if_pos (show d < w ∧ w ≤ m by omega)]
  refine Ev.ite (fun h7 => Ev.ret' (by rw [if_neg (show ¬ y.size ≤ 20000 by omega)])) (fun h7 => ?_)
  rw [if_pos (show y.size ≤ 20000 by omega), wr (n := w - d) (by omega) (by omega)]
  obtain ⟨z, hw⟩ : ∃ z : Nat, w - d = z := ⟨(w - d).toNat, by omega⟩
  rw [hw, Int.toNat_natCast]
  have hl : (l.take z).length = z := by rw [List.length_take]; omega
  have hc := confNow_ev 0 0 0 0 0 g i ⟨#[]⟩ (l.take z) 0 0 0 [] [] (SzL_take hz.l z)
  rw [hl, confF_take g i l z (by omega) z (Nat.le_refl _)] at hc
  obtain ⟨c1, c2⟩ := confB_len (hcf z (by omega))
  refine Ev.pos (by omega) (Ev.pos (by omega) (Ev.bind (termAt_ev a b c d e g i j l m n p u v hz.l.1 (by omega) w (by omega) (by omega)) (Ev.bind hc (Ev.bind (copyConf_ev _ _ (by omega) (by omega)) ?_))))
  rw [Int.toNat_natCast, show (l.drop z).take (l.length - z) = l.drop z from List.take_of_length_le (by rw [List.length_drop]; omega)]
  exact Ev.pos (by omega) (Ev.ret _)
end
theorem law9_ev (a b c d e : Int) (g i : List Int) (j : ByteArray) (l : List S85) (m n p : Int) (u : List Int) (v : List S92) (w : Int) (y : ByteArray) (ho : OkN g i j l u v) : Ev (fun k => f9 k a b c d e g i j l m n p u v w y) true := by
  simp only [f9, f9.start, PT.run, dite_eq_ite, PN.bindH_eq]
  refine Ev.ite (fun h1 => Ev.ret _) (fun hy => ?_)
  obtain ⟨r, hr, h⟩ := szNode_ev a b c d e g i j l m n p u v 1048576 (by decide) (by decide) ho
  refine Ev.bind hr ?_
  rcases h with h | ⟨h0, _, hz⟩
  · exact Ev.pos h (Ev.ret _)
  · refine Ev.neg (by omega) (Ev.bind (toNode_ev a b c d e g i j l m n p u v hz) (Ev.bind (spec_Compact a b c d e g i j (l.map to_Entry) m n p u (v.map to_Peer) hz w y) (Ev.bind (impl_Compact a b c d e g i j (l.map to_Entry) m n p u (v.map to_Peer) hz w y) ?_)))
    have hcf := node_conf a b c d e g i j (l.map to_Entry) m n p u (v.map to_Peer) hz
    have hnf := nodeF a b c d e g i j (l.map to_Entry) m n p u (v.map to_Peer)
    generalize nodeB a b c d e g i j (l.map to_Entry) m n p u (v.map to_Peer) = ok at hcf hnf ⊢
    have hq : SzN (cpV a b c d e g i j (l.map to_Entry) m n p u (v.map to_Peer) ok w y).2.2.2.2.2.2.2.2.2.2.1 (cpV a b c d e g i j (l.map to_Entry) m n p u (v.map to_Peer) ok w y).2.2.2.2.2.2.2.2.2.2.2.1 (cpV a b c d e g i j (l.map to_Entry) m n p u (v.map to_Peer) ok w y).2.2.2.2.2.1 (cpV a b c d e g i j (l.map to_Entry) m n p u (v.map to_Peer) ok w y).2.2.2.2.2.2.2.2.2.2.2.2.1 (cpV a b c d e g i j (l.map to_Entry) m n p u (v.map to_Peer) ok w y).2.2.2.2.2.2.2.2.2.2.2.2.2.1 (cpV a b c d e g i j (l.map to_Entry) m n p u (v.map to_Peer) ok w y).2.2.2.2.2.2.2.2.2.2.2.2.2.2 := by
      unfold cpV
      split
      · rename_i h
        split
        · rename_i h2
          split
          · obtain ⟨_, _, n2, _, n4⟩ := hnf h
            obtain ⟨c1, c2⟩ := confB_len (hcf h (w - d).toNat (by omega))
            exact ⟨by simp only []; omega, by simp only []; omega, by simp only []; omega, SzL_drop hz.l _, hz.u, hz.v⟩
          · exact hz
        · exact hz
      · exact sz_new (Nat.zero_le _) (Nat.zero_le _)
    generalize cpV a b c d e g i j (l.map to_Entry) m n p u (v.map to_Peer) ok w y = s at hq ⊢
    refine Ev.bind (eqNode_ev _ _ _ _ _ _ _ _ _ _ _ _ _ _ hq) (Ev.pos rfl (Ev.pos (by simp) (Ev.bind (eqNode_ev a b c d e g i j (l.map to_Entry) m n p u (v.map to_Peer) hz) (Ev.pos rfl (Ev.bind (markN_ev a b c d e g i j (l.map to_Entry) m n p u (v.map to_Peer) hz) (Ev.neg (by omega) ?_))))))
    refine Ev.bind (markN_ev _ _ _ _ _ _ _ _ _ _ _ _ _ _ hq) (Ev.pos (by rw [mkI_len]; exact Nat.le_refl _) (Ev.pos (by rw [mkI_len]; exact Nat.le_refl _) (Ev.pos (by rw [mkE_len]; exact Nat.le_refl _) (Ev.pos (by rw [mkI_len]; exact Nat.le_refl _) (Ev.pos (by rw [mkP_len]; exact Nat.le_refl _) ?_)))))
    rw [mkI_take, mkI_take, mkE_take, mkI_take, mkP_take]
    exact Ev.bind (heldN_ev _ _ _ _ _ _ _ _ _ _ _ _ _ _ hq) (Ev.neg (by omega) (Ev.pos rfl (Ev.ret _)))
end Go.Proofs.YtbfgmnjhikaagaaGreatDoor.P
namespace Go.Proofs.YtbfgmnjhikaagaaGreatDoor.P
open Go Go.Proofs.YtbfgmnjhikaagaaGreatDoor.PM Go.Proofs.YtbfgmnjhikaagaaGreatDoor.PN Go.Proofs
set_option maxRecDepth 100000
set_option linter.unusedVariables false
theorem ti2 : TiOk Tryz.prog G 2 ⟨1, false, 8, .int .i64, some (.il .i64 0), some [none], none⟩ := ⟨by kernel_rfl, by kernel_rfl, by kernel_rfl, fun z h => some_all (p := fun z => zeroT Tryz.prog 2 = some (denA G z)) (by kernel_rfl) h, (by kernel_rfl : Tryz.prog.underlying 2 = some (.int .i64)), fun l h => some_all (p := fun l => cellKs Tryz.prog 8 2 = some (l.map (Option.map G.w))) (by kernel_rfl) h, fun l h => none_all h⟩
theorem ti3 : TiOk Tryz.prog G 3 ⟨1, false, 8, .int .i64, some (.il .i64 0), some [none], none⟩ := ⟨by kernel_rfl, by kernel_rfl, by kernel_rfl, fun z h => some_all (p := fun z => zeroT Tryz.prog 3 = some (denA G z)) (by kernel_rfl) h, (by kernel_rfl : Tryz.prog.underlying 3 = some (.int .i64)), fun l h => some_all (p := fun l => cellKs Tryz.prog 8 3 = some (l.map (Option.map G.w))) (by kernel_rfl) h, fun l h => none_all h⟩
theorem ti4 : TiOk Tryz.prog G 4 ⟨1, false, 1, .bool, some (.bl false), some [none], none⟩ := ⟨by kernel_rfl, by kernel_rfl, by kernel_rfl, fun z h => some_all (p := fun z => zeroT Tryz.prog 4 = some (denA G z)) (by kernel_rfl) h, (by kernel_rfl : Tryz.prog.underlying 4 = some .bool), fun l h => some_all (p := fun l => cellKs Tryz.prog 8 4 = some (l.map (Option.map G.w))) (by kernel_rfl) h, fun l h => none_all h⟩
theorem ti5 : TiOk Tryz.prog G 5 ⟨1, false, 1, .int .u8, some (.il .u8 0), some [none], none⟩ := ⟨by kernel_rfl, by kernel_rfl, by kernel_rfl, fun z h => some_all (p := fun z => zeroT Tryz.prog 5 = some (denA G z)) (by kernel_rfl) h, (by kernel_rfl : Tryz.prog.underlying 5 = some (.int .u8)), fun l h => some_all (p := fun l => cellKs Tryz.prog 8 5 = some (l.map (Option.map G.w))) (by kernel_rfl) h, fun l h => none_all h⟩
theorem ti9 : TiOk Tryz.prog G 9 ⟨1, false, 16, .string, some (.s (⟨#[]⟩ : ByteArray)), some [none], none⟩ := ⟨by kernel_rfl, by kernel_rfl, by kernel_rfl, fun z h => some_all (p := fun z => zeroT Tryz.prog 9 = some (denA G z)) (by kernel_rfl) h, (by kernel_rfl : Tryz.prog.underlying 9 = some .string), fun l h => some_all (p := fun l => cellKs Tryz.prog 8 9 = some (l.map (Option.map G.w))) (by kernel_rfl) h, fun l h => none_all h⟩
theorem ti22 : TiOk Tryz.prog G 22 ⟨1, false, 24, .slice 2 0, some (.nil), some [some 0], none⟩ := ⟨by kernel_rfl, by kernel_rfl, by kernel_rfl, fun z h => some_all (p := fun z => zeroT Tryz.prog 22 = some (denA G z)) (by kernel_rfl) h, (by kernel_rfl : Tryz.prog.underlying 22 = some (.slice 2)), fun l h => some_all (p := fun l => cellKs Tryz.prog 8 22 = some (l.map (Option.map G.w))) (by kernel_rfl) h, fun l h => none_all h⟩
theorem ti24 : TiOk Tryz.prog G 24 ⟨2, true, 48, .struct [(0, 22), (1, 22)], some (.agg [.nil, .nil]), some [some 0, some 0], none⟩ := ⟨by kernel_rfl, by kernel_rfl, by kernel_rfl, fun z h => some_all (p := fun z => zeroT Tryz.prog 24 = some (denA G z)) (by kernel_rfl) h, ⟨by kernel_rfl, fun l h => (by kernel_rfl : fieldsT Tryz.prog 24 = fieldsK G [(0, 22), (1, 22)]).trans h⟩, fun l h => some_all (p := fun l => cellKs Tryz.prog 8 24 = some (l.map (Option.map G.w))) (by kernel_rfl) h, fun l h => none_all h⟩
theorem ti25 : TiOk Tryz.prog G 25 ⟨1, false, 24, .slice 85 1, some (.nil), some [some 1], none⟩ := ⟨by kernel_rfl, by kernel_rfl, by kernel_rfl, fun z h => some_all (p := fun z => zeroT Tryz.prog 25 = some (denA G z)) (by kernel_rfl) h, (by kernel_rfl : Tryz.prog.underlying 25 = some (.slice 85)), fun l h => some_all (p := fun l => cellKs Tryz.prog 8 25 = some (l.map (Option.map G.w))) (by kernel_rfl) h, fun l h => none_all h⟩
theorem ti26 : TiOk Tryz.prog G 26 ⟨1, false, 24, .slice 92 2, some (.nil), some [some 2], none⟩ := ⟨by kernel_rfl, by kernel_rfl, by kernel_rfl, fun z h => some_all (p := fun z => zeroT Tryz.prog 26 = some (denA G z)) (by kernel_rfl) h, (by kernel_rfl : Tryz.prog.underlying 26 = some (.slice 92)), fun l h => some_all (p := fun l => cellKs Tryz.prog 8 26 = some (l.map (Option.map G.w))) (by kernel_rfl) h, fun l h => none_all h⟩
theorem ti28 : TiOk Tryz.prog G 28 ⟨14, true, 200, .struct [(0, 2), (1, 2), (2, 2), (3, 2), (4, 2), (5, 24), (7, 9), (8, 25), (9, 2), (10, 2), (11, 2), (12, 22), (13, 26)], some (.agg [.il .i64 0, .il .i64 0, .il .i64 0, .il .i64 0, .il .i64 0, .nil, .nil, .s (⟨#[]⟩ : ByteArray), .nil, .il .i64 0, .il .i64 0, .il .i64 0, .nil, .nil]), some [none, none, none, none, none, some 0, some 0, none, some 1, none, none, none, some 0, some 2], none⟩ := ⟨by kernel_rfl, by kernel_rfl, by kernel_rfl, fun z h => some_all (p := fun z => zeroT Tryz.prog 28 = some (denA G z)) (by kernel_rfl) h, ⟨by kernel_rfl, fun l h => (by kernel_rfl : fieldsT Tryz.prog 28 = fieldsK G [(0, 2), (1, 2), (2, 2), (3, 2), (4, 2), (5, 24), (7, 9), (8, 25), (9, 2), (10, 2), (11, 2), (12, 22), (13, 26)]).trans h⟩, fun l h => some_all (p := fun l => cellKs Tryz.prog 8 28 = some (l.map (Option.map G.w))) (by kernel_rfl) h, fun l h => none_all h⟩
theorem ti31 : TiOk Tryz.prog G 31 ⟨2, true, 48, .struct [(0, 22), (1, 22)], some (.agg [.nil, .nil]), some [some 0, some 0], none⟩ := ⟨by kernel_rfl, by kernel_rfl, by kernel_rfl, fun z h => some_all (p := fun z => zeroT Tryz.prog 31 = some (denA G z)) (by kernel_rfl) h, ⟨by kernel_rfl, fun l h => (by kernel_rfl : fieldsT Tryz.prog 31 = fieldsK G [(0, 22), (1, 22)]).trans h⟩, fun l h => some_all (p := fun l => cellKs Tryz.prog 8 31 = some (l.map (Option.map G.w))) (by kernel_rfl) h, fun l h => none_all h⟩
theorem ti32 : TiOk Tryz.prog G 32 ⟨1, false, 24, .slice 40 3, some (.nil), some [some 3], none⟩ := ⟨by kernel_rfl, by kernel_rfl, by kernel_rfl, fun z h => some_all (p := fun z => zeroT Tryz.prog 32 = some (denA G z)) (by kernel_rfl) h, (by kernel_rfl : Tryz.prog.underlying 32 = some (.slice 40)), fun l h => some_all (p := fun l => cellKs Tryz.prog 8 32 = some (l.map (Option.map G.w))) (by kernel_rfl) h, fun l h => none_all h⟩
theorem ti33 : TiOk Tryz.prog G 33 ⟨1, false, 24, .slice 90 4, some (.nil), some [some 4], none⟩ := ⟨by kernel_rfl, by kernel_rfl, by kernel_rfl, fun z h => some_all (p := fun z => zeroT Tryz.prog 33 = some (denA G z)) (by kernel_rfl) h, (by kernel_rfl : Tryz.prog.underlying 33 = some (.slice 90)), fun l h => some_all (p := fun l => cellKs Tryz.prog 8 33 = some (l.map (Option.map G.w))) (by kernel_rfl) h, fun l h => none_all h⟩
theorem ti35 : TiOk Tryz.prog G 35 ⟨14, true, 200, .struct [(0, 2), (1, 2), (2, 2), (3, 2), (4, 2), (5, 31), (7, 9), (8, 32), (9, 2), (10, 2), (11, 2), (12, 22), (13, 33)], some (.agg [.il .i64 0, .il .i64 0, .il .i64 0, .il .i64 0, .il .i64 0, .nil, .nil, .s (⟨#[]⟩ : ByteArray), .nil, .il .i64 0, .il .i64 0, .il .i64 0, .nil, .nil]), some [none, none, none, none, none, some 0, some 0, none, some 3, none, none, none, some 0, some 4], none⟩ := ⟨by kernel_rfl, by kernel_rfl, by kernel_rfl, fun z h => some_all (p := fun z => zeroT Tryz.prog 35 = some (denA G z)) (by kernel_rfl) h, ⟨by kernel_rfl, fun l h => (by kernel_rfl : fieldsT Tryz.prog 35 = fieldsK G [(0, 2), (1, 2), (2, 2), (3, 2), (4, 2), (5, 31), (7, 9), (8, 32), (9, 2), (10, 2), (11, 2), (12, 22), (13, 33)]).trans h⟩, fun l h => some_all (p := fun l => cellKs Tryz.prog 8 35 = some (l.map (Option.map G.w))) (by kernel_rfl) h, fun l h => none_all h⟩
theorem ti40 : TiOk Tryz.prog G 40 ⟨3, true, 32, .struct [(0, 2), (1, 2), (2, 9)], some (.agg [.il .i64 0, .il .i64 0, .s (⟨#[]⟩ : ByteArray)]), some [none, none, none], none⟩ := ⟨by kernel_rfl, by kernel_rfl, by kernel_rfl, fun z h => some_all (p := fun z => zeroT Tryz.prog 40 = some (denA G z)) (by kernel_rfl) h, ⟨by kernel_rfl, fun l h => (by kernel_rfl : fieldsT Tryz.prog 40 = fieldsK G [(0, 2), (1, 2), (2, 9)]).trans h⟩, fun l h => some_all (p := fun l => cellKs Tryz.prog 8 40 = some (l.map (Option.map G.w))) (by kernel_rfl) h, fun l h => none_all h⟩
theorem ti85 : TiOk Tryz.prog G 85 ⟨3, true, 32, .struct [(0, 2), (1, 2), (2, 9)], some (.agg [.il .i64 0, .il .i64 0, .s (⟨#[]⟩ : ByteArray)]), some [none, none, none], none⟩ := ⟨by kernel_rfl, by kernel_rfl, by kernel_rfl, fun z h => some_all (p := fun z => zeroT Tryz.prog 85 = some (denA G z)) (by kernel_rfl) h, ⟨by kernel_rfl, fun l h => (by kernel_rfl : fieldsT Tryz.prog 85 = fieldsK G [(0, 2), (1, 2), (2, 9)]).trans h⟩, fun l h => some_all (p := fun l => cellKs Tryz.prog 8 85 = some (l.map (Option.map G.w))) (by kernel_rfl) h, fun l h => none_all h⟩
theorem ti90 : TiOk Tryz.prog G 90 ⟨3, true, 24, .struct [(0, 2), (1, 2), (2, 2)], some (.agg [.il .i64 0, .il .i64 0, .il .i64 0]), some [none, none, none], none⟩ := ⟨by kernel_rfl, by kernel_rfl, by kernel_rfl, fun z h => some_all (p := fun z => zeroT Tryz.prog 90 = some (denA G z)) (by kernel_rfl) h, ⟨by kernel_rfl, fun l h => (by kernel_rfl : fieldsT Tryz.prog 90 = fieldsK G [(0, 2), (1, 2), (2, 2)]).trans h⟩, fun l h => some_all (p := fun l => cellKs Tryz.prog 8 90 = some (l.map (Option.map G.w))) (by kernel_rfl) h, fun l h => none_all h⟩
theorem ti92 : TiOk Tryz.prog G 92 ⟨3, true, 24, .struct [(0, 2), (1, 2), (2, 2)], some (.agg [.il .i64 0, .il .i64 0, .il .i64 0]), some [none, none, none], none⟩ := ⟨by kernel_rfl, by kernel_rfl, by kernel_rfl, fun z h => some_all (p := fun z => zeroT Tryz.prog 92 = some (denA G z)) (by kernel_rfl) h, ⟨by kernel_rfl, fun l h => (by kernel_rfl : fieldsT Tryz.prog 92 = fieldsK G [(0, 2), (1, 2), (2, 2)]).trans h⟩, fun l h => some_all (p := fun l => cellKs Tryz.prog 8 92 = some (l.map (Option.map G.w))) (by kernel_rfl) h, fun l h => none_all h⟩
theorem ti96 : TiOk Tryz.prog G 96 ⟨1, false, 24, .slice 5 6, some (.nil), some [some 6], none⟩ := ⟨by kernel_rfl, by kernel_rfl, by kernel_rfl, fun z h => some_all (p := fun z => zeroT Tryz.prog 96 = some (denA G z)) (by kernel_rfl) h, (by kernel_rfl : Tryz.prog.underlying 96 = some (.slice 5)), fun l h => some_all (p := fun l => cellKs Tryz.prog 8 96 = some (l.map (Option.map G.w))) (by kernel_rfl) h, fun l h => none_all h⟩
theorem ti97 : TiOk Tryz.prog G 97 ⟨1, false, 24, .slice 9 5, some (.nil), some [some 5], none⟩ := ⟨by kernel_rfl, by kernel_rfl, by kernel_rfl, fun z h => some_all (p := fun z => zeroT Tryz.prog 97 = some (denA G z)) (by kernel_rfl) h, (by kernel_rfl : Tryz.prog.underlying 97 = some (.slice 9)), fun l h => some_all (p := fun l => cellKs Tryz.prog 8 97 = some (l.map (Option.map G.w))) (by kernel_rfl) h, fun l h => none_all h⟩
theorem ti108 : TiOk Tryz.prog G 108 ⟨1, false, 16, .iface, some (.ifl false), some [none], none⟩ := ⟨by kernel_rfl, by kernel_rfl, by kernel_rfl, fun z h => some_all (p := fun z => zeroT Tryz.prog 108 = some (denA G z)) (by kernel_rfl) h, ⟨_, Tryz.underlying108⟩, fun l h => some_all (p := fun l => cellKs Tryz.prog 8 108 = some (l.map (Option.map G.w))) (by kernel_rfl) h, fun l h => none_all h⟩
theorem ti125 : TiOk Tryz.prog G 125 ⟨1, false, 8, .int .u64, some (.il .u64 0), some [none], none⟩ := ⟨by kernel_rfl, by kernel_rfl, by kernel_rfl, fun z h => some_all (p := fun z => zeroT Tryz.prog 125 = some (denA G z)) (by kernel_rfl) h, (by kernel_rfl : Tryz.prog.underlying 125 = some (.int .u64)), fun l h => some_all (p := fun l => cellKs Tryz.prog 8 125 = some (l.map (Option.map G.w))) (by kernel_rfl) h, fun l h => none_all h⟩
theorem ti153 : TiOk Tryz.prog G 153 ⟨24, true, 24, .array 24 5, some (.agg [.il .u8 0, .il .u8 0, .il .u8 0, .il .u8 0, .il .u8 0, .il .u8 0, .il .u8 0, .il .u8 0, .il .u8 0, .il .u8 0, .il .u8 0, .il .u8 0, .il .u8 0, .il .u8 0, .il .u8 0, .il .u8 0, .il .u8 0, .il .u8 0, .il .u8 0, .il .u8 0, .il .u8 0, .il .u8 0, .il .u8 0, .il .u8 0]), some [none, none, none, none, none, none, none, none, none, none, none, none, none, none, none, none, none, none, none, none, none, none, none, none], none⟩ := ⟨by kernel_rfl, by kernel_rfl, by kernel_rfl, fun z h => some_all (p := fun z => zeroT Tryz.prog 153 = some (denA G z)) (by kernel_rfl) h, (by kernel_rfl : Tryz.prog.underlying 153 = some (.array 24 5)), fun l h => some_all (p := fun l => cellKs Tryz.prog 8 153 = some (l.map (Option.map G.w))) (by kernel_rfl) h, fun l h => none_all h⟩
theorem tis_ok : TisOk Tryz.prog G tis := (tis_cons ti2 (tis_cons ti3 (tis_cons ti4 (tis_cons ti5 (tis_cons ti9 (tis_cons ti22 (tis_cons ti24 (tis_cons ti25 (tis_cons ti26 (tis_cons ti28 (tis_cons ti31 (tis_cons ti32 (tis_cons ti33 (tis_cons ti35 (tis_cons ti40 (tis_cons ti85 (tis_cons ti90 (tis_cons ti92 (tis_cons ti96 (tis_cons ti97 (tis_cons ti108 (tis_cons ti125 (tis_cons ti153 tis_nil)))))))))))))))))))))))
theorem G_mk : ∀ t cs x, G.mkE t cs = some x → cs.map (den1 G) = (G.cells t x).map (den1 G)
  | 0 => fun cs x h => by
    match cs, h with
    | [c0], h => have h : (cI .i64 c0 fun a0 => some (a0 : Int) : Option (Int)) = some x := h; obtain ⟨a0, e0, h⟩ := cI_some h; obtain rfl := Option.some.inj h; simp only [List.map_cons, List.map_nil, e0]; rfl
    | [], h => cases h
    | _ :: _ :: _, h => cases h
  | 1 => fun cs x h => by
    match cs, h with
    | [c0, c1, c2], h => have h : (cI .i64 c0 fun a0 => cI .i64 c1 fun a1 => cS c2 fun a2 => some (⟨a0, a1, a2⟩ : S85) : Option (S85)) = some x := h; obtain ⟨a0, e0, h⟩ := cI_some h; obtain ⟨a1, e1, h⟩ := cI_some h; obtain ⟨a2, e2, h⟩ := cS_some h; obtain rfl := Option.some.inj h; simp only [List.map_cons, List.map_nil, e0, e1, e2]; rfl
    | [], h => cases h
    | _ :: _ :: _ :: _ :: _, h => cases h
    | [_], h => cases h
    | [_, _], h => cases h
  | 2 => fun cs x h => by
    match cs, h with
    | [c0, c1, c2], h => have h : (cI .i64 c0 fun a0 => cI .i64 c1 fun a1 => cI .i64 c2 fun a2 => some (⟨a0, a1, a2⟩ : S92) : Option (S92)) = some x := h; obtain ⟨a0, e0, h⟩ := cI_some h; obtain ⟨a1, e1, h⟩ := cI_some h; obtain ⟨a2, e2, h⟩ := cI_some h; obtain rfl := Option.some.inj h; simp only [List.map_cons, List.map_nil, e0, e1, e2]; rfl
    | [], h => cases h
    | _ :: _ :: _ :: _ :: _, h => cases h
    | [_], h => cases h
    | [_, _], h => cases h
  | 3 => fun cs x h => by
    match cs, h with
    | [c0, c1, c2], h => have h : (cI .i64 c0 fun a0 => cI .i64 c1 fun a1 => cS c2 fun a2 => some (⟨a0, a1, a2⟩ : S40) : Option (S40)) = some x := h; obtain ⟨a0, e0, h⟩ := cI_some h; obtain ⟨a1, e1, h⟩ := cI_some h; obtain ⟨a2, e2, h⟩ := cS_some h; obtain rfl := Option.some.inj h; simp only [List.map_cons, List.map_nil, e0, e1, e2]; rfl
    | [], h => cases h
    | _ :: _ :: _ :: _ :: _, h => cases h
    | [_], h => cases h
    | [_, _], h => cases h
  | 4 => fun cs x h => by
    match cs, h with
    | [c0, c1, c2], h => have h : (cI .i64 c0 fun a0 => cI .i64 c1 fun a1 => cI .i64 c2 fun a2 => some (⟨a0, a1, a2⟩ : S90) : Option (S90)) = some x := h; obtain ⟨a0, e0, h⟩ := cI_some h; obtain ⟨a1, e1, h⟩ := cI_some h; obtain ⟨a2, e2, h⟩ := cI_some h; obtain rfl := Option.some.inj h; simp only [List.map_cons, List.map_nil, e0, e1, e2]; rfl
    | [], h => cases h
    | _ :: _ :: _ :: _ :: _, h => cases h
    | [_], h => cases h
    | [_, _], h => cases h
  | 5 => fun cs x h => by
    match cs, h with
    | [c0], h => have h : (cS c0 fun a0 => some (a0 : ByteArray) : Option (ByteArray)) = some x := h; obtain ⟨a0, e0, h⟩ := cS_some h; obtain rfl := Option.some.inj h; simp only [List.map_cons, List.map_nil, e0]; rfl
    | [], h => cases h
    | _ :: _ :: _, h => cases h
  | 6 => fun cs x h => by
    match cs, h with
    | [c0], h => have h : (cI .u8 c0 fun a0 => some (a0 : Int) : Option (Int)) = some x := h; obtain ⟨a0, e0, h⟩ := cI_some h; obtain rfl := Option.some.inj h; simp only [List.map_cons, List.map_nil, e0]; rfl
    | [], h => cases h
    | _ :: _ :: _, h => cases h
  | _ + 7 => fun cs x h => by cases h
theorem G_ok : SgOk Tryz.prog G where
  enc := fun t => match t with | 0 => fun _ => rfl | 1 => fun _ => rfl | 2 => fun _ => rfl | 3 => fun _ => rfl | 4 => fun _ => rfl | 5 => fun _ => rfl | 6 => fun _ => rfl | _ + 7 => fun _ => rfl
  len := fun t => match t with | 0 => fun _ => rfl | 1 => fun _ => rfl | 2 => fun _ => rfl | 3 => fun _ => rfl | 4 => fun _ => rfl | 5 => fun _ => rfl | 6 => fun _ => rfl | _ + 7 => fun _ => rfl
  agg1 := fun t => match t with | 0 => fun _ => rfl | 1 => fun h => by cases h | 2 => fun h => by cases h | 3 => fun h => by cases h | 4 => fun h => by cases h | 5 => fun _ => rfl | 6 => fun _ => rfl | _ + 7 => fun h => by cases h
  mkC := G_mk
  ofStr := fun t => match t with | 0 => fun _ _ h => by cases h | 1 => fun _ _ h => by cases h | 2 => fun _ _ h => by cases h | 3 => fun _ _ h => by cases h | 4 => fun _ _ h => by cases h | 5 => fun _ _ h => by cases h | 6 => fun s xs h => by obtain rfl := Option.some.inj h; exact ofStr_u8 s | _ + 7 => fun _ _ h => by cases h
  toStr := fun t => match t with | 0 => fun _ _ h => by cases h | 1 => fun _ _ h => by cases h | 2 => fun _ _ h => by cases h | 3 => fun _ _ h => by cases h | 4 => fun _ _ h => by cases h | 5 => fun _ _ h => by cases h | 6 => fun xs s h => by obtain rfl := Option.some.inj h; exact toStr_u8 xs | _ + 7 => fun _ _ h => by cases h
  flat := fun t => match t with | 0 => fun _ _ => rfl | 1 => fun _ _ => rfl | 2 => fun _ _ => rfl | 3 => fun _ _ => rfl | 4 => fun _ _ => rfl | 5 => fun _ _ => rfl | 6 => fun _ _ => rfl | _ + 7 => fun _ _ => rfl
  ti := tis_ok
def FOk (n : Nat) (a : List (V El)) (o : List (O El)) (r : V El × List (O El)) : Prop := callT Tryz.prog C0 P0 n (List.map (denV G) a) (List.map (denO G) o) = some (denV G r.1, List.map (denO G) r.2)
theorem fok {n : Nat} {fn : Func} {R Lb : Type} {D : Nat → Lb → Option R} {start : PT R Lb} {o : R → V El × List (O El)} {args : List (V El)} {objs : List (O El)} {k : Nat} {r : R} (l : List (Pk Tryz.prog C0 P0 G)) (h0 : H) (stt : Lb → Nat × S El) (hint : Lb → H) (blk : Nat → Lb → PT R Lb)
    (hf : Tryz.prog.funcs[n]? = some fn) (h : start.run (D k) = some r) (kt : Nat → Nat → Nat := fun _ _ => 0) (hp : P0 n = none := by kernel_rfl) (hb : fn.body = some fn.body.get! := by kernel_rfl) (ho : okCode (C0 n) fn.body.get! = true := by kernel_rfl) (hids : PN.distinct (PN.ids fn.body.get!) = true := by kernel_rfl) (hn : Nat.ble args.length fn.ntmps = true := by kernel_rfl)
    (D0 : ∀ x, D 0 x = none := by intro x; rfl) (DS : ∀ k x, D (k + 1) x = (blk k x).run (D k) := by intro k x; rfl)
    (hT : ∀ k x, resume ⟨G, evK l k, C0 n, kt⟩ (stt x).1 fn.body.get! (stt x).2 (hint x) (endK ⟨G, evK l k, C0 n, kt⟩ fn objs.length) = some ((blk k x).lay (outL o) (jumpL stt)) := by intro k x; cases x <;> kernel_rfl)
    (h0T : PN.exec ⟨G, evK l k, C0 n, kt⟩ fn.body.get! (startS fn.ntmps args objs) h0 (endK ⟨G, evK l k, C0 n, kt⟩ fn objs.length) = start.lay (outL o) (jumpL stt) := by kernel_rfl) : FOk n args objs (o r) :=
  fn_ok (D := D) (blk := blk) G_ok (fun k => evK_ok l k) hp hf hb ho hids rfl (Nat.le_of_ble_eq_true hn) D0 DS hT h0T h
theorem fok0 {n : Nat} {fn : Func} {R : Type} {start : PT R Empty} {o : R → V El × List (O El)} {args : List (V El)} {objs : List (O El)} {k : Nat} {r : R} (l : List (Pk Tryz.prog C0 P0 G)) (h0 : H)
    (hf : Tryz.prog.funcs[n]? = some fn) (h : start.run Empty.elim = some r) (kt : Nat → Nat → Nat := fun _ _ => 0) (hp : P0 n = none := by kernel_rfl) (hb : fn.body = some fn.body.get! := by kernel_rfl) (ho : okCode (C0 n) fn.body.get! = true := by kernel_rfl) (hids : PN.distinct (PN.ids fn.body.get!) = true := by kernel_rfl) (hn : Nat.ble args.length fn.ntmps = true := by kernel_rfl)
    (h0T : PN.exec ⟨G, evK l k, C0 n, kt⟩ fn.body.get! (startS fn.ntmps args objs) h0 (endK ⟨G, evK l k, C0 n, kt⟩ fn objs.length) = start.lay (outL o) (jumpL (Empty.elim : Empty → Nat × S El)) := by kernel_rfl) : FOk n args objs (o r) :=
  fn_ok0 (k := k) (E := evK l) G_ok (fun k => evK_ok l k) hp hf hb ho hids rfl (Nat.le_of_ble_eq_true hn) h0T h
end Go.Proofs.YtbfgmnjhikaagaaGreatDoor.P
namespace Go.Proofs.YtbfgmnjhikaagaaGreatDoor.P
open Go Go.Proofs.YtbfgmnjhikaagaaGreatDoor.PM Go.Proofs.YtbfgmnjhikaagaaGreatDoor.PN Go.Proofs
set_option maxRecDepth 100000
set_option linter.unusedVariables false
theorem f39_ok {k a b r} (h : f39 k a b = some r) : FOk 39 [.sl 0 a [], .id .i64 2 b] [] (f39.o r) :=
 fok0 [] .all (k := k) (o := f39.o) Tryz.func39 h
def pf39 : Pk Tryz.prog C0 P0 G := ⟨39, sf39, fun k => sum_auto (@f39_ok k)⟩
end Go.Proofs.YtbfgmnjhikaagaaGreatDoor.P
namespace Go.Proofs.YtbfgmnjhikaagaaGreatDoor.P
open Go Go.Proofs.YtbfgmnjhikaagaaGreatDoor.PM Go.Proofs.YtbfgmnjhikaagaaGreatDoor.PN Go.Proofs
set_option maxRecDepth 100000
set_option linter.unusedVariables false
theorem f20_ok {k a b c r} (h : f20 k a b c = some r) : FOk 20 [.agg [.sl 0 a [], .sl 0 b []], .id .i64 2 c] [] (f20.o r) :=
 fok0 [pf39] .all (k := k) (o := f20.o) Tryz.func20 h
def pf20 : Pk Tryz.prog C0 P0 G := ⟨20, sf20, fun k => sum_auto (@f20_ok k)⟩
end Go.Proofs.YtbfgmnjhikaagaaGreatDoor.P
namespace Go.Proofs.YtbfgmnjhikaagaaGreatDoor.P
open Go Go.Proofs.YtbfgmnjhikaagaaGreatDoor.PM Go.Proofs.YtbfgmnjhikaagaaGreatDoor.PN Go.Proofs
set_option maxRecDepth 100000
set_option linter.unusedVariables false
theorem f67_ok {k a b c d r} (h : f67 k a b c d = some r) : FOk 67 [.agg [.id .i64 0 a, .id .i64 0 b, .s c], .id .i64 2 d] [] (f67.o r) :=
 fok0 [] .all (k := k) (o := f67.o) Tryz.func67 h
def pf67 : Pk Tryz.prog C0 P0 G := ⟨67, sf67, fun k => sum_auto (@f67_ok k)⟩
end Go.Proofs.YtbfgmnjhikaagaaGreatDoor.P
namespace Go.Proofs.YtbfgmnjhikaagaaGreatDoor.P
open Go Go.Proofs.YtbfgmnjhikaagaaGreatDoor.PM Go.Proofs.YtbfgmnjhikaagaaGreatDoor.PN Go.Proofs
set_option maxRecDepth 100000
set_option linter.unusedVariables false
theorem f38_ok {k a b r} (h : f38 k a b = some r) : FOk 38 [.sl 1 a [], .id .i64 2 b] [] (f38.o r) :=
 fok [pf67] .all f38.st (fun _ => .all) (D := f38.D) f38.blk (o := f38.o) Tryz.func38 h
def pf38 : Pk Tryz.prog C0 P0 G := ⟨38, sf38, fun k => sum_auto (@f38_ok k)⟩
end Go.Proofs.YtbfgmnjhikaagaaGreatDoor.P
namespace Go.Proofs.YtbfgmnjhikaagaaGreatDoor.P
open Go Go.Proofs.YtbfgmnjhikaagaaGreatDoor.PM Go.Proofs.YtbfgmnjhikaagaaGreatDoor.PN Go.Proofs
set_option maxRecDepth 100000
set_option linter.unusedVariables false
theorem f40_ok {k a b r} (h : f40 k a b = some r) : FOk 40 [.sl 2 a [], .id .i64 2 b] [] (f40.o r) :=
 fok0 [] .all (k := k) (o := f40.o) Tryz.func40 h
def pf40 : Pk Tryz.prog C0 P0 G := ⟨40, sf40, fun k => sum_auto (@f40_ok k)⟩
end Go.Proofs.YtbfgmnjhikaagaaGreatDoor.P
namespace Go.Proofs.YtbfgmnjhikaagaaGreatDoor.P
open Go Go.Proofs.YtbfgmnjhikaagaaGreatDoor.PM Go.Proofs.YtbfgmnjhikaagaaGreatDoor.PN Go.Proofs
set_option maxRecDepth 100000
set_option linter.unusedVariables false
theorem f10_ok {k a b c d e g i j l m n p u v w r} (h : f10 k a b c d e g i j l m n p u v w = some r) : FOk 10 [.agg [.id .i64 0 a, .id .i64 0 b, .id .i64 0 c, .id .i64 0 d, .id .i64 0 e, .sl 0 g [], .sl 0 i [], .s j, .sl 1 l [], .id .i64 0 m, .id .i64 0 n, .id .i64 0 p, .sl 0 u [], .sl 2 v []], .id .i64 2 w] [] (f10.o r) :=
 fok0 [pf20, pf38, pf39, pf40] .all (k := k) (o := f10.o) Tryz.func10 h
def pf10 : Pk Tryz.prog C0 P0 G := ⟨10, sf10, fun k => sum_auto (@f10_ok k)⟩
end Go.Proofs.YtbfgmnjhikaagaaGreatDoor.P
namespace Go.Proofs.YtbfgmnjhikaagaaGreatDoor.P
open Go Go.Proofs.YtbfgmnjhikaagaaGreatDoor.PM Go.Proofs.YtbfgmnjhikaagaaGreatDoor.PN Go.Proofs
set_option maxRecDepth 100000
set_option linter.unusedVariables false
theorem f47_ok {k a r} (h : f47 k a = some r) : FOk 47 [.sl 0 a []] [] (f47.o r) :=
 fok [] .all f47.st (fun _ => .all) (D := f47.D) f47.blk (o := f47.o) Tryz.func47 h
def pf47 : Pk Tryz.prog C0 P0 G := ⟨47, sf47, fun k => sum_auto (@f47_ok k)⟩
end Go.Proofs.YtbfgmnjhikaagaaGreatDoor.P
namespace Go.Proofs.YtbfgmnjhikaagaaGreatDoor.P
open Go Go.Proofs.YtbfgmnjhikaagaaGreatDoor.PM Go.Proofs.YtbfgmnjhikaagaaGreatDoor.PN Go.Proofs
set_option maxRecDepth 100000
set_option linter.unusedVariables false
theorem f22_ok {k a b r} (h : f22 k a b = some r) : FOk 22 [.agg [.sl 0 a [], .sl 0 b []]] [] (f22.o r) :=
 fok0 [pf47] .all (k := k) (o := f22.o) Tryz.func22 h
def pf22 : Pk Tryz.prog C0 P0 G := ⟨22, sf22, fun k => sum_auto (@f22_ok k)⟩
end Go.Proofs.YtbfgmnjhikaagaaGreatDoor.P
namespace Go.Proofs.YtbfgmnjhikaagaaGreatDoor.P
open Go Go.Proofs.YtbfgmnjhikaagaaGreatDoor.PM Go.Proofs.YtbfgmnjhikaagaaGreatDoor.PN Go.Proofs
set_option maxRecDepth 100000
set_option linter.unusedVariables false
theorem f72_ok {k a b c r} (h : f72 k a b c = some r) : FOk 72 [.agg [.id .i64 0 a, .id .i64 0 b, .s c]] [] (f72.o r) :=
 fok0 [] .all (k := k) (o := f72.o) Tryz.func72 h
def pf72 : Pk Tryz.prog C0 P0 G := ⟨72, sf72, fun k => sum_auto (@f72_ok k)⟩
end Go.Proofs.YtbfgmnjhikaagaaGreatDoor.P
namespace Go.Proofs.YtbfgmnjhikaagaaGreatDoor.P
open Go Go.Proofs.YtbfgmnjhikaagaaGreatDoor.PM Go.Proofs.YtbfgmnjhikaagaaGreatDoor.PN Go.Proofs
set_option maxRecDepth 100000
set_option linter.unusedVariables false
theorem f46_ok {k a r} (h : f46 k a = some r) : FOk 46 [.sl 1 a []] [] (f46.o r) :=
 fok [pf72] .all f46.st (fun _ => .all) (D := f46.D) f46.blk (o := f46.o) Tryz.func46 h
def pf46 : Pk Tryz.prog C0 P0 G := ⟨46, sf46, fun k => sum_auto (@f46_ok k)⟩
end Go.Proofs.YtbfgmnjhikaagaaGreatDoor.P
namespace Go.Proofs.YtbfgmnjhikaagaaGreatDoor.P
open Go Go.Proofs.YtbfgmnjhikaagaaGreatDoor.PM Go.Proofs.YtbfgmnjhikaagaaGreatDoor.PN Go.Proofs
set_option maxRecDepth 100000
set_option linter.unusedVariables false
theorem f73_ok {k a b c r} (h : f73 k a b c = some r) : FOk 73 [.agg [.id .i64 0 a, .id .i64 0 b, .id .i64 0 c]] [] (f73.o r) :=
 fok0 [] .all (k := k) (o := f73.o) Tryz.func73 h
def pf73 : Pk Tryz.prog C0 P0 G := ⟨73, sf73, fun k => sum_auto (@f73_ok k)⟩
end Go.Proofs.YtbfgmnjhikaagaaGreatDoor.P
namespace Go.Proofs.YtbfgmnjhikaagaaGreatDoor.P
open Go Go.Proofs.YtbfgmnjhikaagaaGreatDoor.PM Go.Proofs.YtbfgmnjhikaagaaGreatDoor.PN Go.Proofs
set_option maxRecDepth 100000
set_option linter.unusedVariables false
theorem f48_ok {k a r} (h : f48 k a = some r) : FOk 48 [.sl 2 a []] [] (f48.o r) :=
 fok [pf73] .all f48.st (fun _ => .all) (D := f48.D) f48.blk (o := f48.o) Tryz.func48 h
def pf48 : Pk Tryz.prog C0 P0 G := ⟨48, sf48, fun k => sum_auto (@f48_ok k)⟩
end Go.Proofs.YtbfgmnjhikaagaaGreatDoor.P
namespace Go.Proofs.YtbfgmnjhikaagaaGreatDoor.P
open Go Go.Proofs.YtbfgmnjhikaagaaGreatDoor.PM Go.Proofs.YtbfgmnjhikaagaaGreatDoor.PN Go.Proofs
set_option maxRecDepth 100000
set_option linter.unusedVariables false
theorem f12_ok {k a b c d e g i j l m n p u v r} (h : f12 k a b c d e g i j l m n p u v = some r) : FOk 12 [.agg [.id .i64 0 a, .id .i64 0 b, .id .i64 0 c, .id .i64 0 d, .id .i64 0 e, .sl 0 g [], .sl 0 i [], .s j, .sl 1 l [], .id .i64 0 m, .id .i64 0 n, .id .i64 0 p, .sl 0 u [], .sl 2 v []]] [] (f12.o r) :=
 fok0 [pf22, pf46, pf47, pf48] .all (k := k) (o := f12.o) Tryz.func12 h
def pf12 : Pk Tryz.prog C0 P0 G := ⟨12, sf12, fun k => sum_auto (@f12_ok k)⟩
end Go.Proofs.YtbfgmnjhikaagaaGreatDoor.P
namespace Go.Proofs.YtbfgmnjhikaagaaGreatDoor.P
open Go Go.Proofs.YtbfgmnjhikaagaaGreatDoor.PM Go.Proofs.YtbfgmnjhikaagaaGreatDoor.PN Go.Proofs
set_option maxRecDepth 100000
set_option linter.unusedVariables false
theorem f50_ok {k a b r} (h : f50 k a b = some r) : FOk 50 [.sl 0 a [], .sl 0 b []] [] (f50.o r) :=
 fok [] .all f50.st (fun _ => .all) (D := f50.D) f50.blk (o := f50.o) Tryz.func50 h
def pf50 : Pk Tryz.prog C0 P0 G := ⟨50, sf50, fun k => sum_auto (@f50_ok k)⟩
end Go.Proofs.YtbfgmnjhikaagaaGreatDoor.P
namespace Go.Proofs.YtbfgmnjhikaagaaGreatDoor.P
open Go Go.Proofs.YtbfgmnjhikaagaaGreatDoor.PM Go.Proofs.YtbfgmnjhikaagaaGreatDoor.PN Go.Proofs
set_option maxRecDepth 100000
set_option linter.unusedVariables false
theorem f24_ok {k a b c d r} (h : f24 k a b c d = some r) : FOk 24 [.agg [.sl 0 a [], .sl 0 b []], .agg [.sl 0 c [], .sl 0 d []]] [] (f24.o r) :=
 fok0 [pf50] .all (k := k) (o := f24.o) Tryz.func24 h
def pf24 : Pk Tryz.prog C0 P0 G := ⟨24, sf24, fun k => sum_auto (@f24_ok k)⟩
end Go.Proofs.YtbfgmnjhikaagaaGreatDoor.P
namespace Go.Proofs.YtbfgmnjhikaagaaGreatDoor.P
open Go Go.Proofs.YtbfgmnjhikaagaaGreatDoor.PM Go.Proofs.YtbfgmnjhikaagaaGreatDoor.PN Go.Proofs
set_option maxRecDepth 100000
set_option linter.unusedVariables false
theorem f17_ok {k a b c d e g r} (h : f17 k a b c d e g = some r) : FOk 17 [.agg [.id .i64 0 a, .id .i64 0 b, .s c], .agg [.id .i64 0 d, .id .i64 0 e, .s g]] [] (f17.o r) :=
 fok0 [] .all (k := k) (o := f17.o) Tryz.func17 h
def pf17 : Pk Tryz.prog C0 P0 G := ⟨17, sf17, fun k => sum_auto (@f17_ok k)⟩
end Go.Proofs.YtbfgmnjhikaagaaGreatDoor.P
namespace Go.Proofs.YtbfgmnjhikaagaaGreatDoor.P
open Go Go.Proofs.YtbfgmnjhikaagaaGreatDoor.PM Go.Proofs.YtbfgmnjhikaagaaGreatDoor.PN Go.Proofs
set_option maxRecDepth 100000
set_option linter.unusedVariables false
theorem f30_ok {k a b r} (h : f30 k a b = some r) : FOk 30 [.sl 3 a [], .sl 3 b []] [] (f30.o r) :=
 fok [pf17] .all f30.st (fun _ => .all) (D := f30.D) f30.blk (o := f30.o) Tryz.func30 h
def pf30 : Pk Tryz.prog C0 P0 G := ⟨30, sf30, fun k => sum_auto (@f30_ok k)⟩
end Go.Proofs.YtbfgmnjhikaagaaGreatDoor.P
namespace Go.Proofs.YtbfgmnjhikaagaaGreatDoor.P
open Go Go.Proofs.YtbfgmnjhikaagaaGreatDoor.PM Go.Proofs.YtbfgmnjhikaagaaGreatDoor.PN Go.Proofs
set_option maxRecDepth 100000
set_option linter.unusedVariables false
theorem f80_ok {k a b c d e g r} (h : f80 k a b c d e g = some r) : FOk 80 [.agg [.id .i64 0 a, .id .i64 0 b, .id .i64 0 c], .agg [.id .i64 0 d, .id .i64 0 e, .id .i64 0 g]] [] (f80.o r) :=
 fok0 [] .all (k := k) (o := f80.o) Tryz.func80 h
def pf80 : Pk Tryz.prog C0 P0 G := ⟨80, sf80, fun k => sum_auto (@f80_ok k)⟩
end Go.Proofs.YtbfgmnjhikaagaaGreatDoor.P
namespace Go.Proofs.YtbfgmnjhikaagaaGreatDoor.P
open Go Go.Proofs.YtbfgmnjhikaagaaGreatDoor.PM Go.Proofs.YtbfgmnjhikaagaaGreatDoor.PN Go.Proofs
set_option maxRecDepth 100000
set_option linter.unusedVariables false
theorem f51_ok {k a b r} (h : f51 k a b = some r) : FOk 51 [.sl 4 a [], .sl 4 b []] [] (f51.o r) :=
 fok [pf80] .all f51.st (fun _ => .all) (D := f51.D) f51.blk (o := f51.o) Tryz.func51 h
def pf51 : Pk Tryz.prog C0 P0 G := ⟨51, sf51, fun k => sum_auto (@f51_ok k)⟩
end Go.Proofs.YtbfgmnjhikaagaaGreatDoor.P
namespace Go.Proofs.YtbfgmnjhikaagaaGreatDoor.P
open Go Go.Proofs.YtbfgmnjhikaagaaGreatDoor.PM Go.Proofs.YtbfgmnjhikaagaaGreatDoor.PN Go.Proofs
set_option maxRecDepth 100000
set_option linter.unusedVariables false
theorem f14_ok {k a b c d e g i j l m n p u v w y z ya yb yc yd ye yf yg yh yi yj yk r} (h : f14 k a b c d e g i j l m n p u v w y z ya yb yc yd ye yf yg yh yi yj yk = some r) : FOk 14 [.agg [.id .i64 0 a, .id .i64 0 b, .id .i64 0 c, .id .i64 0 d, .id .i64 0 e, .sl 0 g [], .sl 0 i [], .s j, .sl 3 l [], .id .i64 0 m, .id .i64 0 n, .id .i64 0 p, .sl 0 u [], .sl 4 v []], .agg [.id .i64 0 w, .id .i64 0 y, .id .i64 0 z, .id .i64 0 ya, .id .i64 0 yb, .sl 0 yc [], .sl 0 yd [], .s ye, .sl 3 yf [], .id .i64 0 yg, .id .i64 0 yh, .id .i64 0 yi, .sl 0 yj [], .sl 4 yk []]] [] (f14.o r) :=
 fok0 [pf24, pf30, pf50, pf51] .all (k := k) (o := f14.o) Tryz.func14 h
def pf14 : Pk Tryz.prog C0 P0 G := ⟨14, sf14, fun k => sum_auto (@f14_ok k)⟩
end Go.Proofs.YtbfgmnjhikaagaaGreatDoor.P
namespace Go.Proofs.YtbfgmnjhikaagaaGreatDoor.P
open Go Go.Proofs.YtbfgmnjhikaagaaGreatDoor.PM Go.Proofs.YtbfgmnjhikaagaaGreatDoor.PN Go.Proofs
set_option maxRecDepth 100000
set_option linter.unusedVariables false
theorem f57_ok {k a o0 r} (h : f57 k a o0 = some r) : FOk 57 [.win 0 true (.l 0) (.d 0 o0.length), .id .i64 2 a] [.row true true true 0 0 o0 none] (f57.o r) :=
 fok [] .all f57.st (fun _ => .all) (D := f57.D) f57.blk (o := f57.o) Tryz.func57 h
def pf57 : Pk Tryz.prog C0 P0 G := ⟨57, sf57, fun k => sum_auto (@f57_ok k)⟩
end Go.Proofs.YtbfgmnjhikaagaaGreatDoor.P
namespace Go.Proofs.YtbfgmnjhikaagaaGreatDoor.P
open Go Go.Proofs.YtbfgmnjhikaagaaGreatDoor.PM Go.Proofs.YtbfgmnjhikaagaaGreatDoor.PN Go.Proofs
set_option maxRecDepth 100000
set_option linter.unusedVariables false
theorem f25_ok {k a o0 o1 r} (h : f25 k a o0 o1 = some r) : FOk 25 [.agg [.win 0 true (.l 0) (.d 0 o0.length), .win 1 true (.l 0) (.d 0 o1.length)], .id .i64 2 a] [.row true true true 0 0 o0 none, .row true true true 0 0 o1 none] (f25.o r) :=
 fok0 [pf57] .all (k := k) (o := f25.o) Tryz.func25 h
def pf25 : Pk Tryz.prog C0 P0 G := ⟨25, sf25, fun k => sum_auto (@f25_ok k)⟩
end Go.Proofs.YtbfgmnjhikaagaaGreatDoor.P
namespace Go.Proofs.YtbfgmnjhikaagaaGreatDoor.P
open Go Go.Proofs.YtbfgmnjhikaagaaGreatDoor.PM Go.Proofs.YtbfgmnjhikaagaaGreatDoor.PN Go.Proofs
set_option maxRecDepth 100000
set_option linter.unusedVariables false
theorem f61_ok {k a r} (h : f61 k a = some r) : FOk 61 [.id .i64 1 a] [] (f61.o r) :=
 fok [] .all f61.st (fun _ => .all) (D := f61.D) f61.blk (o := f61.o) Tryz.func61 h
def pf61 : Pk Tryz.prog C0 P0 G := ⟨61, sf61, fun k => sum_auto (@f61_ok k)⟩
end Go.Proofs.YtbfgmnjhikaagaaGreatDoor.P
namespace Go.Proofs.YtbfgmnjhikaagaaGreatDoor.P
open Go Go.Proofs.YtbfgmnjhikaagaaGreatDoor.PM Go.Proofs.YtbfgmnjhikaagaaGreatDoor.PN Go.Proofs
set_option maxRecDepth 100000
set_option linter.unusedVariables false
theorem f31_ok {k a o0 r} (h : f31 k a o0 = some r) : FOk 31 [.win 0 true (.l 0) (.d 0 o0.length), .id .i64 2 a] [.row true true true 0 3 o0 none] (f31.o r) :=
 fok [pf61] .all f31.st (fun _ => .all) (D := f31.D) f31.blk (o := f31.o) Tryz.func31 h
def pf31 : Pk Tryz.prog C0 P0 G := ⟨31, sf31, fun k => sum_auto (@f31_ok k)⟩
end Go.Proofs.YtbfgmnjhikaagaaGreatDoor.P
namespace Go.Proofs.YtbfgmnjhikaagaaGreatDoor.P
open Go Go.Proofs.YtbfgmnjhikaagaaGreatDoor.PM Go.Proofs.YtbfgmnjhikaagaaGreatDoor.PN Go.Proofs
set_option maxRecDepth 100000
set_option linter.unusedVariables false
theorem f58_ok {k a o0 r} (h : f58 k a o0 = some r) : FOk 58 [.win 0 true (.l 0) (.d 0 o0.length), .id .i64 2 a] [.row true true true 0 4 o0 none] (f58.o r) :=
 fok [] .all f58.st (fun _ => .all) (D := f58.D) f58.blk (o := f58.o) Tryz.func58 h
def pf58 : Pk Tryz.prog C0 P0 G := ⟨58, sf58, fun k => sum_auto (@f58_ok k)⟩
end Go.Proofs.YtbfgmnjhikaagaaGreatDoor.P
namespace Go.Proofs.YtbfgmnjhikaagaaGreatDoor.P
open Go Go.Proofs.YtbfgmnjhikaagaaGreatDoor.PM Go.Proofs.YtbfgmnjhikaagaaGreatDoor.PN Go.Proofs
set_option maxRecDepth 100000
set_option linter.unusedVariables false
theorem f26_ok {k a b c d e g i j l m o0 o1 o2 o3 o4 r} (h : f26 k a b c d e g i j l m o0 o1 o2 o3 o4 = some r) : FOk 26 [.agg [.id .i64 0 a, .id .i64 0 b, .id .i64 0 c, .id .i64 0 d, .id .i64 0 e, .win 0 true (.l 0) (.d 0 o0.length), .win 1 true (.l 0) (.d 0 o1.length), .s g, .win 2 true (.l 0) (.d 0 o2.length), .id .i64 0 i, .id .i64 0 j, .id .i64 0 l, .win 3 true (.l 0) (.d 0 o3.length), .win 4 true (.l 0) (.d 0 o4.length)], .id .i64 2 m] [.row true true true 0 0 o0 none, .row true true true 0 0 o1 none, .row true true true 0 3 o2 none, .row true true true 0 0 o3 none, .row true true true 0 4 o4 none] (f26.o r) :=
 fok0 [pf25, pf31, pf57, pf58] .all (k := k) (o := f26.o) Tryz.func26 h
def pf26 : Pk Tryz.prog C0 P0 G := ⟨26, sf26, fun k => sum_auto (@f26_ok k)⟩
end Go.Proofs.YtbfgmnjhikaagaaGreatDoor.P
namespace Go.Proofs.YtbfgmnjhikaagaaGreatDoor.P
open Go Go.Proofs.YtbfgmnjhikaagaaGreatDoor.PM Go.Proofs.YtbfgmnjhikaagaaGreatDoor.PN Go.Proofs
set_option maxRecDepth 100000
set_option linter.unusedVariables false
theorem f32_ok {k a b r} (h : f32 k a b = some r) : FOk 32 [.sl 3 a [], .id .i64 2 b] [] (f32.o r) :=
 fok [pf61] .all f32.st (fun _ => .all) (D := f32.D) f32.blk (o := f32.o) Tryz.func32 h
def pf32 : Pk Tryz.prog C0 P0 G := ⟨32, sf32, fun k => sum_auto (@f32_ok k)⟩
end Go.Proofs.YtbfgmnjhikaagaaGreatDoor.P
namespace Go.Proofs.YtbfgmnjhikaagaaGreatDoor.P
open Go Go.Proofs.YtbfgmnjhikaagaaGreatDoor.PM Go.Proofs.YtbfgmnjhikaagaaGreatDoor.PN Go.Proofs
set_option maxRecDepth 100000
set_option linter.unusedVariables false
theorem f59_ok {k a b r} (h : f59 k a b = some r) : FOk 59 [.sl 0 a [], .id .i64 2 b] [] (f59.o r) :=
 fok [] .all f59.st (fun _ => .all) (D := f59.D) f59.blk (o := f59.o) Tryz.func59 h
def pf59 : Pk Tryz.prog C0 P0 G := ⟨59, sf59, fun k => sum_auto (@f59_ok k)⟩
end Go.Proofs.YtbfgmnjhikaagaaGreatDoor.P
namespace Go.Proofs.YtbfgmnjhikaagaaGreatDoor.P
open Go Go.Proofs.YtbfgmnjhikaagaaGreatDoor.PM Go.Proofs.YtbfgmnjhikaagaaGreatDoor.PN Go.Proofs
set_option maxRecDepth 100000
set_option linter.unusedVariables false
theorem f35_ok {k a b c r} (h : f35 k a b c = some r) : FOk 35 [.agg [.sl 0 a [], .sl 0 b []], .id .i64 2 c] [] (f35.o r) :=
 fok0 [pf59] .all (k := k) (o := f35.o) Tryz.func35 h
def pf35 : Pk Tryz.prog C0 P0 G := ⟨35, sf35, fun k => sum_auto (@f35_ok k)⟩
end Go.Proofs.YtbfgmnjhikaagaaGreatDoor.P
namespace Go.Proofs.YtbfgmnjhikaagaaGreatDoor.P
open Go Go.Proofs.YtbfgmnjhikaagaaGreatDoor.PM Go.Proofs.YtbfgmnjhikaagaaGreatDoor.PN Go.Proofs
set_option maxRecDepth 100000
set_option linter.unusedVariables false
theorem f60_ok {k a b r} (h : f60 k a b = some r) : FOk 60 [.sl 4 a [], .id .i64 2 b] [] (f60.o r) :=
 fok [] .all f60.st (fun _ => .all) (D := f60.D) f60.blk (o := f60.o) Tryz.func60 h
def pf60 : Pk Tryz.prog C0 P0 G := ⟨60, sf60, fun k => sum_auto (@f60_ok k)⟩
end Go.Proofs.YtbfgmnjhikaagaaGreatDoor.P
namespace Go.Proofs.YtbfgmnjhikaagaaGreatDoor.P
open Go Go.Proofs.YtbfgmnjhikaagaaGreatDoor.PM Go.Proofs.YtbfgmnjhikaagaaGreatDoor.PN Go.Proofs
set_option maxRecDepth 100000
set_option linter.unusedVariables false
theorem f27_ok {k a b c d e g i j l m n p u v w r} (h : f27 k a b c d e g i j l m n p u v w = some r) : FOk 27 [.agg [.id .i64 0 a, .id .i64 0 b, .id .i64 0 c, .id .i64 0 d, .id .i64 0 e, .sl 0 g [], .sl 0 i [], .s j, .sl 3 l [], .id .i64 0 m, .id .i64 0 n, .id .i64 0 p, .sl 0 u [], .sl 4 v []], .id .i64 2 w] [] (f27.o r) :=
 fok0 [pf32, pf35, pf59, pf60] .all (k := k) (o := f27.o) Tryz.func27 h
def pf27 : Pk Tryz.prog C0 P0 G := ⟨27, sf27, fun k => sum_auto (@f27_ok k)⟩
end Go.Proofs.YtbfgmnjhikaagaaGreatDoor.P
namespace Go.Proofs.YtbfgmnjhikaagaaGreatDoor.P
open Go Go.Proofs.YtbfgmnjhikaagaaGreatDoor.PM Go.Proofs.YtbfgmnjhikaagaaGreatDoor.PN Go.Proofs
set_option maxRecDepth 100000
set_option linter.unusedVariables false
theorem f41_ok {k a b c r} (h : f41 k a b c = some r) : FOk 41 [.id .i64 1 a, .id .i64 2 b, .id .i64 3 c] [] (f41.o r) :=
 fok0 [] (.both (.l (.l (.l .all))) (.r (.r (.r .all)))) (k := k) (o := f41.o) Tryz.func41 h
def pf41 : Pk Tryz.prog C0 P0 G := ⟨41, sf41, fun k => sum_auto (@f41_ok k)⟩
end Go.Proofs.YtbfgmnjhikaagaaGreatDoor.P
namespace Go.Proofs.YtbfgmnjhikaagaaGreatDoor.P
open Go Go.Proofs.YtbfgmnjhikaagaaGreatDoor.PM Go.Proofs.YtbfgmnjhikaagaaGreatDoor.PN Go.Proofs
set_option maxRecDepth 100000
set_option linter.unusedVariables false
theorem f68_ok {k a b r} (h : f68 k a b = some r) : FOk 68 [.sl 0 a [], .id .i64 2 b] [] (f68.o r) :=
 fok [pf41] .all f68.st f68.hint (D := f68.D) f68.blk (o := f68.o) Tryz.func68 h
def pf68 : Pk Tryz.prog C0 P0 G := ⟨68, sf68, fun k => sum_auto (@f68_ok k)⟩
end Go.Proofs.YtbfgmnjhikaagaaGreatDoor.P
namespace Go.Proofs.YtbfgmnjhikaagaaGreatDoor.P
open Go Go.Proofs.YtbfgmnjhikaagaaGreatDoor.PM Go.Proofs.YtbfgmnjhikaagaaGreatDoor.PN Go.Proofs
set_option maxRecDepth 100000
set_option linter.unusedVariables false
theorem f69_ok {k a b r} (h : f69 k a b = some r) : FOk 69 [.sl 0 a [], .id .i64 2 b] [] (f69.o r) :=
 fok [] .all f69.st (fun _ => .all) (D := f69.D) f69.blk (o := f69.o) Tryz.func69 h
def pf69 : Pk Tryz.prog C0 P0 G := ⟨69, sf69, fun k => sum_auto (@f69_ok k)⟩
end Go.Proofs.YtbfgmnjhikaagaaGreatDoor.P
namespace Go.Proofs.YtbfgmnjhikaagaaGreatDoor.P
open Go Go.Proofs.YtbfgmnjhikaagaaGreatDoor.PM Go.Proofs.YtbfgmnjhikaagaaGreatDoor.PN Go.Proofs
set_option maxRecDepth 100000
set_option linter.unusedVariables false
theorem f42_ok {k a b r} (h : f42 k a b = some r) : FOk 42 [.agg [.sl 0 a [], .sl 0 b []]] [] (f42.o r) :=
 fok [pf68, pf69] (.both (.l (.l (.l (.l .all)))) (.r (.r (.skip (.r (.r (.both (.l (.l (.skip (.l (.l .all))))) (.r (.r (.r (.r .all))))))))))) f42.st (fun _ => .all) (D := f42.D) f42.blk (o := f42.o) Tryz.func42 h
def pf42 : Pk Tryz.prog C0 P0 G := ⟨42, sf42, fun k => sum_auto (@f42_ok k)⟩
end Go.Proofs.YtbfgmnjhikaagaaGreatDoor.P
namespace Go.Proofs.YtbfgmnjhikaagaaGreatDoor.P
open Go Go.Proofs.YtbfgmnjhikaagaaGreatDoor.PM Go.Proofs.YtbfgmnjhikaagaaGreatDoor.PN Go.Proofs
set_option maxRecDepth 100000
set_option linter.unusedVariables false
theorem f43_ok {k a b c d e g i j l m n p u v r} (h : f43 k a b c d e g i j l m n p u v = some r) : FOk 43 [.agg [.id .i64 0 a, .id .i64 0 b, .id .i64 0 c, .id .i64 0 d, .id .i64 0 e, .sl 0 g [], .sl 0 i [], .s j, .sl 3 l [], .id .i64 0 m, .id .i64 0 n, .id .i64 0 p, .sl 0 u [], .sl 4 v []]] [] (f43.o r) :=
 fok0 [] .all (k := k) (o := f43.o) Tryz.func43 h
def pf43 : Pk Tryz.prog C0 P0 G := ⟨43, sf43, fun k => sum_auto (@f43_ok k)⟩
end Go.Proofs.YtbfgmnjhikaagaaGreatDoor.P
namespace Go.Proofs.YtbfgmnjhikaagaaGreatDoor.P
open Go Go.Proofs.YtbfgmnjhikaagaaGreatDoor.PM Go.Proofs.YtbfgmnjhikaagaaGreatDoor.PN Go.Proofs
set_option maxRecDepth 100000
set_option linter.unusedVariables false
theorem f82_ok {k a b r} (h : f82 k a b = some r) : FOk 82 [.s a, .id .u8 2 b] [] (f82.o r) :=
 fok [] .all f82.st f82.hint (D := f82.D) f82.blk (o := f82.o) Tryz.func82 h
def pf82 : Pk Tryz.prog C0 P0 G := ⟨82, sf82, fun k => sum_auto (@f82_ok k)⟩
end Go.Proofs.YtbfgmnjhikaagaaGreatDoor.P
namespace Go.Proofs.YtbfgmnjhikaagaaGreatDoor.P
open Go Go.Proofs.YtbfgmnjhikaagaaGreatDoor.PM Go.Proofs.YtbfgmnjhikaagaaGreatDoor.PN Go.Proofs
set_option maxRecDepth 100000
set_option linter.unusedVariables false
theorem f95_ok {k a r} (h : f95 k a = some r) : FOk 95 [.id .u8 1 a] [] (f95.o r) :=
 fok0 [] (.both (.l (.l .all)) (.r (.r .all))) (k := k) (o := f95.o) Tryz.func95 h
def pf95 : Pk Tryz.prog C0 P0 G := ⟨95, sf95, fun k => sum_auto (@f95_ok k)⟩
end Go.Proofs.YtbfgmnjhikaagaaGreatDoor.P
namespace Go.Proofs.YtbfgmnjhikaagaaGreatDoor.P
open Go Go.Proofs.YtbfgmnjhikaagaaGreatDoor.PM Go.Proofs.YtbfgmnjhikaagaaGreatDoor.PN Go.Proofs
set_option maxRecDepth 100000
set_option linter.unusedVariables false
theorem f83_ok {k a b r} (h : f83 k a b = some r) : FOk 83 [.s a, .id .i64 2 b] [] (f83.o r) :=
 fok [pf95] (.both (.l (.l (.l .all))) (.r (.r (.r (.both (.l (.l (.l (.l (.l .all))))) (.r (.r (.r (.both (.l (.l (.r (.l (.r .all))))) (.r (.r (.r (.r (.r .all)))))))))))))) f83.st (fun _ => .all) (D := f83.D) f83.blk (o := f83.o) Tryz.func83 h
def pf83 : Pk Tryz.prog C0 P0 G := ⟨83, sf83, fun k => sum_auto (@f83_ok k)⟩
end Go.Proofs.YtbfgmnjhikaagaaGreatDoor.P
namespace Go.Proofs.YtbfgmnjhikaagaaGreatDoor.P
open Go Go.Proofs.YtbfgmnjhikaagaaGreatDoor.PM Go.Proofs.YtbfgmnjhikaagaaGreatDoor.PN Go.Proofs
set_option maxRecDepth 100000
set_option linter.unusedVariables false
theorem f96_ok {k a r} (h : f96 k a = some r) : FOk 96 [.id .i64 1 a] [] (f96.o r) :=
 fok [] .all f96.st (fun _ => .all) (D := f96.D) f96.blk (o := f96.o) Tryz.func96 h
def pf96 : Pk Tryz.prog C0 P0 G := ⟨96, sf96, fun k => sum_auto (@f96_ok k)⟩
end Go.Proofs.YtbfgmnjhikaagaaGreatDoor.P
namespace Go.Proofs.YtbfgmnjhikaagaaGreatDoor.P
open Go Go.Proofs.YtbfgmnjhikaagaaGreatDoor.PM Go.Proofs.YtbfgmnjhikaagaaGreatDoor.PN Go.Proofs
set_option maxRecDepth 100000
set_option linter.unusedVariables false
theorem f84_ok {k a b r} (h : f84 k a b = some r) : FOk 84 [.agg [.sl 0 a [], .sl 0 b []]] [] (f84.o r) :=
 fok [pf42, pf96] .all f84.st (fun _ => .all) (D := f84.D) f84.blk (o := f84.o) Tryz.func84 h
def pf84 : Pk Tryz.prog C0 P0 G := ⟨84, sf84, fun k => sum_auto (@f84_ok k)⟩
end Go.Proofs.YtbfgmnjhikaagaaGreatDoor.P
namespace Go.Proofs.YtbfgmnjhikaagaaGreatDoor.P
open Go Go.Proofs.YtbfgmnjhikaagaaGreatDoor.PM Go.Proofs.YtbfgmnjhikaagaaGreatDoor.PN Go.Proofs
set_option maxRecDepth 100000
set_option linter.unusedVariables false
theorem f65_ok {k a r} (h : f65 k a = some r) : FOk 65 [.s a] [] (f65.o r) :=
 fok [pf82, pf83, pf84] .all f65.st f65.hint (D := f65.D) f65.blk (o := f65.o) Tryz.func65 h
def pf65 : Pk Tryz.prog C0 P0 G := ⟨65, sf65, fun k => sum_auto (@f65_ok k)⟩
end Go.Proofs.YtbfgmnjhikaagaaGreatDoor.P
namespace Go.Proofs.YtbfgmnjhikaagaaGreatDoor.P
open Go Go.Proofs.YtbfgmnjhikaagaaGreatDoor.PM Go.Proofs.YtbfgmnjhikaagaaGreatDoor.PN Go.Proofs
set_option maxRecDepth 100000
set_option linter.unusedVariables false
theorem f70_ok {k a b c r} (h : f70 k a b c = some r) : FOk 70 [.agg [.id .i64 0 a, .id .i64 0 b, .s c]] [] (f70.o r) :=
 fok0 [pf41] (.skip (.both (.l (.l (.skip (.l (.both (.l (.l (.l (.l .all)))) (.r (.r (.r (.r .all))))))))) (.r (.r (.r .all))))) (k := k) (o := f70.o) Tryz.func70 h
def pf70 : Pk Tryz.prog C0 P0 G := ⟨70, sf70, fun k => sum_auto (@f70_ok k)⟩
end Go.Proofs.YtbfgmnjhikaagaaGreatDoor.P
namespace Go.Proofs.YtbfgmnjhikaagaaGreatDoor.P
open Go Go.Proofs.YtbfgmnjhikaagaaGreatDoor.PM Go.Proofs.YtbfgmnjhikaagaaGreatDoor.PN Go.Proofs
set_option maxRecDepth 100000
set_option linter.unusedVariables false
theorem f44_ok {k a b c r} (h : f44 k a b c = some r) : FOk 44 [.agg [.id .i64 0 a, .id .i64 0 b, .s c]] [] (f44.o r) :=
 fok0 [pf65, pf70] .all (k := k) (o := f44.o) Tryz.func44 h
def pf44 : Pk Tryz.prog C0 P0 G := ⟨44, sf44, fun k => sum_auto (@f44_ok k)⟩
end Go.Proofs.YtbfgmnjhikaagaaGreatDoor.P
namespace Go.Proofs.YtbfgmnjhikaagaaGreatDoor.P
open Go Go.Proofs.YtbfgmnjhikaagaaGreatDoor.PM Go.Proofs.YtbfgmnjhikaagaaGreatDoor.PN Go.Proofs
set_option maxRecDepth 100000
set_option linter.unusedVariables false
theorem f55_ok {k a b r} (h : f55 k a b = some r) : FOk 55 [.agg [.sl 0 a [], .sl 0 b []]] [] (f55.o r) :=
 fok0 [] .all (k := k) (o := f55.o) Tryz.func55 h
def pf55 : Pk Tryz.prog C0 P0 G := ⟨55, sf55, fun k => sum_auto (@f55_ok k)⟩
end Go.Proofs.YtbfgmnjhikaagaaGreatDoor.P
namespace Go.Proofs.YtbfgmnjhikaagaaGreatDoor.P
open Go Go.Proofs.YtbfgmnjhikaagaaGreatDoor.PM Go.Proofs.YtbfgmnjhikaagaaGreatDoor.PN Go.Proofs
set_option maxRecDepth 100000
set_option linter.unusedVariables false
theorem f62_ok {k a b c d e g i j l m n p u v r} (h : f62 k a b c d e g i j l m n p u v = some r) : FOk 62 [.agg [.id .i64 0 a, .id .i64 0 b, .id .i64 0 c, .id .i64 0 d, .id .i64 0 e, .sl 0 g [], .sl 0 i [], .s j, .sl 3 l [], .id .i64 0 m, .id .i64 0 n, .id .i64 0 p, .sl 0 u [], .sl 4 v []]] [] (f62.o r) :=
 fok [pf55, pf65] .all f62.st (fun _ => .all) (D := f62.D) f62.blk (o := f62.o) Tryz.func62 h
def pf62 : Pk Tryz.prog C0 P0 G := ⟨62, sf62, fun k => sum_auto (@f62_ok k)⟩
end Go.Proofs.YtbfgmnjhikaagaaGreatDoor.P
namespace Go.Proofs.YtbfgmnjhikaagaaGreatDoor.P
open Go Go.Proofs.YtbfgmnjhikaagaaGreatDoor.PM Go.Proofs.YtbfgmnjhikaagaaGreatDoor.PN Go.Proofs
set_option maxRecDepth 100000
set_option linter.unusedVariables false
theorem f85_ok {k a b c r} (h : f85 k a b c = some r) : FOk 85 [.agg [.sl 0 a [], .sl 0 b []], .id .i64 2 c] [] (f85.o r) :=
 fok [pf69] .all f85.st f85.hint (D := f85.D) f85.blk (o := f85.o) Tryz.func85 h
def pf85 : Pk Tryz.prog C0 P0 G := ⟨85, sf85, fun k => sum_auto (@f85_ok k)⟩
end Go.Proofs.YtbfgmnjhikaagaaGreatDoor.P
namespace Go.Proofs.YtbfgmnjhikaagaaGreatDoor.P
open Go Go.Proofs.YtbfgmnjhikaagaaGreatDoor.PM Go.Proofs.YtbfgmnjhikaagaaGreatDoor.PN Go.Proofs
set_option maxRecDepth 100000
set_option linter.unusedVariables false
theorem f71_ok {k a b c d e g i j l m n p u v r} (h : f71 k a b c d e g i j l m n p u v = some r) : FOk 71 [.agg [.id .i64 0 a, .id .i64 0 b, .id .i64 0 c, .id .i64 0 d, .id .i64 0 e, .sl 0 g [], .sl 0 i [], .s j, .sl 3 l [], .id .i64 0 m, .id .i64 0 n, .id .i64 0 p, .sl 0 u [], .sl 4 v []]] [] (f71.o r) :=
 fok [pf41, pf43, pf62, pf85] .all f71.st f71.hint (D := f71.D) f71.blk (o := f71.o) Tryz.func71 h
def pf71 : Pk Tryz.prog C0 P0 G := ⟨71, sf71, fun k => sum_auto (@f71_ok k)⟩
end Go.Proofs.YtbfgmnjhikaagaaGreatDoor.P
namespace Go.Proofs.YtbfgmnjhikaagaaGreatDoor.P
open Go Go.Proofs.YtbfgmnjhikaagaaGreatDoor.PM Go.Proofs.YtbfgmnjhikaagaaGreatDoor.PN Go.Proofs
set_option maxRecDepth 100000
set_option linter.unusedVariables false
theorem f45_ok {k a b c d e g i j l m n p u v r} (h : f45 k a b c d e g i j l m n p u v = some r) : FOk 45 [.agg [.id .i64 0 a, .id .i64 0 b, .id .i64 0 c, .id .i64 0 d, .id .i64 0 e, .sl 0 g [], .sl 0 i [], .s j, .sl 3 l [], .id .i64 0 m, .id .i64 0 n, .id .i64 0 p, .sl 0 u [], .sl 4 v []]] [] (f45.o r) :=
 fok0 [pf68, pf71] (.skip (.both (.both (.both (.l (.l (.l (.l (.both (.l (.l (.l (.l (.l .all))))) (.r (.r (.r (.r (.r .all)))))))))) (.r (.r (.r (.r .all))))) (.both (.both (.l (.l (.l (.l (.both (.l (.l (.l (.l (.l (.both (.l (.l (.l (.l (.l .all))))) (.r (.r (.r (.r (.r .all))))))))))) (.r (.r (.r (.r (.r .all)))))))))) (.r (.r (.r (.r .all))))) (.both (.both (.l (.l (.l (.l (.both (.l (.l (.l (.l (.l (.both (.l (.l (.l (.l (.l (.both (.l (.skip (.l .all))) (.r (.r .all)))))))) (.r (.r (.r (.r (.r .all))))))))))) (.r (.r (.r (.r (.r .all)))))))))) (.r (.r (.r (.r .all))))) .all))) .all)) (k := k) (o := f45.o) Tryz.func45 h
def pf45 : Pk Tryz.prog C0 P0 G := ⟨45, sf45, fun k => sum_auto (@f45_ok k)⟩
end Go.Proofs.YtbfgmnjhikaagaaGreatDoor.P
namespace Go.Proofs.YtbfgmnjhikaagaaGreatDoor.P
open Go Go.Proofs.YtbfgmnjhikaagaaGreatDoor.PM Go.Proofs.YtbfgmnjhikaagaaGreatDoor.PN Go.Proofs
set_option maxRecDepth 100000
set_option linter.unusedVariables false
theorem f11_ok {k a b c d e g i j l m n p u v r} (h : f11 k a b c d e g i j l m n p u v = some r) : FOk 11 [.agg [.id .i64 0 a, .id .i64 0 b, .id .i64 0 c, .id .i64 0 d, .id .i64 0 e, .sl 0 g [], .sl 0 i [], .s j, .sl 3 l [], .id .i64 0 m, .id .i64 0 n, .id .i64 0 p, .sl 0 u [], .sl 4 v []]] [] (f11.o r) :=
 fok [pf41, pf42, pf43, pf44, pf45] (.skip (.both (.l (.l (.skip (.l (.l (.both (.l (.l (.skip (.l (.l (.both (.l (.l (.skip (.l (.l (.both (.l (.l (.skip (.l (.l (.both (.l (.l (.l (.l (.skip (.l (.l (.both (.skip (.both (.l (.l (.l (.l (.both (.l (.l (.l (.l .all)))) (.r (.r (.r (.r (.both (.l (.l (.l (.l (.l (.l (.l (.l .all)))))))) (.r (.r (.r (.r (.r (.skip (.r (.skip (.r (.r .all)))))))))))))))))))) (.r (.r (.r (.r .all)))))) .all)))))))) (.r (.r (.r (.r (.r (.r .all)))))))))))) (.r (.r (.r (.r .all)))))))))) (.r (.r (.r (.r .all)))))))))) (.r (.r (.r (.r .all)))))))))) (.r (.r (.r (.r .all)))))) f11.st f11.hint (D := f11.D) f11.blk (o := f11.o) Tryz.func11 h
def pf11 : Pk Tryz.prog C0 P0 G := ⟨11, sf11, fun k => sum_auto (@f11_ok k)⟩
end Go.Proofs.YtbfgmnjhikaagaaGreatDoor.P
namespace Go.Proofs.YtbfgmnjhikaagaaGreatDoor.P
open Go Go.Proofs.YtbfgmnjhikaagaaGreatDoor.PM Go.Proofs.YtbfgmnjhikaagaaGreatDoor.PN Go.Proofs
set_option maxRecDepth 100000
set_option linter.unusedVariables false
theorem f53_ok {k a b c d e g i j l m n p u v w r} (h : f53 k a b c d e g i j l m n p u v w = some r) : FOk 53 [.agg [.id .i64 0 a, .id .i64 0 b, .id .i64 0 c, .id .i64 0 d, .id .i64 0 e, .sl 0 g [], .sl 0 i [], .s j, .sl 3 l [], .id .i64 0 m, .id .i64 0 n, .id .i64 0 p, .sl 0 u [], .sl 4 v []], .id .i64 2 w] [] (f53.o r) :=
 fok0 [pf43] (.both .all (.both (.l (.l (.l (.l .all)))) (.r (.r (.skip (.r (.r .all))))))) (k := k) (o := f53.o) Tryz.func53 h
def pf53 : Pk Tryz.prog C0 P0 G := ⟨53, sf53, fun k => sum_auto (@f53_ok k)⟩
end Go.Proofs.YtbfgmnjhikaagaaGreatDoor.P
namespace Go.Proofs.YtbfgmnjhikaagaaGreatDoor.P
open Go Go.Proofs.YtbfgmnjhikaagaaGreatDoor.PM Go.Proofs.YtbfgmnjhikaagaaGreatDoor.PN Go.Proofs
set_option maxRecDepth 100000
set_option linter.unusedVariables false
theorem f64_ok {k a b c d e g i j l m n p u v r} (h : f64 k a b c d e g i j l m n p u v = some r) : FOk 64 [.agg [.id .i64 0 a, .id .i64 0 b, .id .i64 0 c, .id .i64 0 d, .id .i64 0 e, .sl 0 g [], .sl 0 i [], .s j, .sl 3 l [], .id .i64 0 m, .id .i64 0 n, .id .i64 0 p, .sl 0 u [], .sl 4 v []]] [] (f64.o r) :=
 fok0 [pf55] .all (k := k) (o := f64.o) Tryz.func64 h
def pf64 : Pk Tryz.prog C0 P0 G := ⟨64, sf64, fun k => sum_auto (@f64_ok k)⟩
end Go.Proofs.YtbfgmnjhikaagaaGreatDoor.P
namespace Go.Proofs.YtbfgmnjhikaagaaGreatDoor.P
open Go Go.Proofs.YtbfgmnjhikaagaaGreatDoor.PM Go.Proofs.YtbfgmnjhikaagaaGreatDoor.PN Go.Proofs
set_option maxRecDepth 100000
set_option linter.unusedVariables false
theorem f36_ok {k a b c d e g i j l m n p u v w y r} (h : f36 k a b c d e g i j l m n p u v w y = some r) : FOk 36 [.agg [.id .i64 0 a, .id .i64 0 b, .id .i64 0 c, .id .i64 0 d, .id .i64 0 e, .sl 0 g [], .sl 0 i [], .s j, .sl 3 l [], .id .i64 0 m, .id .i64 0 n, .id .i64 0 p, .sl 0 u [], .sl 4 v []], .id .i64 2 w, .s y] [] (f36.o r) :=
 fok [pf11, pf41, pf53, pf64, pf65] .all f36.st (fun _ => .all) (D := f36.D) f36.blk (o := f36.o) Tryz.func36 h
def pf36 : Pk Tryz.prog C0 P0 G := ⟨36, sf36, fun k => sum_auto (@f36_ok k)⟩
end Go.Proofs.YtbfgmnjhikaagaaGreatDoor.P
namespace Go.Proofs.YtbfgmnjhikaagaaGreatDoor.P
open Go Go.Proofs.YtbfgmnjhikaagaaGreatDoor.PM Go.Proofs.YtbfgmnjhikaagaaGreatDoor.PN Go.Proofs
set_option maxRecDepth 100000
set_option linter.unusedVariables false
theorem f52_ok {k a b c d e g i j l m n p u v r} (h : f52 k a b c d e g i j l m n p u v = some r) : FOk 52 [.agg [.id .i64 0 a, .id .i64 0 b, .id .i64 0 c, .id .i64 0 d, .id .i64 0 e, .sl 0 g [], .sl 0 i [], .s j, .sl 3 l [], .id .i64 0 m, .id .i64 0 n, .id .i64 0 p, .sl 0 u [], .sl 4 v []]] [] (f52.o r) :=
 fok0 [] .all (k := k) (o := f52.o) Tryz.func52 h
def pf52 : Pk Tryz.prog C0 P0 G := ⟨52, sf52, fun k => sum_auto (@f52_ok k)⟩
end Go.Proofs.YtbfgmnjhikaagaaGreatDoor.P
namespace Go.Proofs.YtbfgmnjhikaagaaGreatDoor.P
open Go Go.Proofs.YtbfgmnjhikaagaaGreatDoor.PM Go.Proofs.YtbfgmnjhikaagaaGreatDoor.PN Go.Proofs
set_option maxRecDepth 100000
set_option linter.unusedVariables false
theorem f76_ok {k a b c r} (h : f76 k a b c = some r) : FOk 76 [.id .i64 1 a, .id .i64 2 b, .id .i64 3 c] [] (f76.o r) :=
 fok0 [] (.both (.l (.l (.l .all))) (.r (.r (.r .all)))) (k := k) (o := f76.o) Tryz.func76 h
def pf76 : Pk Tryz.prog C0 P0 G := ⟨76, sf76, fun k => sum_auto (@f76_ok k)⟩
end Go.Proofs.YtbfgmnjhikaagaaGreatDoor.P
namespace Go.Proofs.YtbfgmnjhikaagaaGreatDoor.P
open Go Go.Proofs.YtbfgmnjhikaagaaGreatDoor.PM Go.Proofs.YtbfgmnjhikaagaaGreatDoor.PN Go.Proofs
set_option maxRecDepth 100000
set_option linter.unusedVariables false
theorem f74_ok {k a r} (h : f74 k a = some r) : FOk 74 [.id .i64 1 a] [] (f74.o r) :=
 fok0 [pf76] .all (k := k) (o := f74.o) Tryz.func74 h
def pf74 : Pk Tryz.prog C0 P0 G := ⟨74, sf74, fun k => sum_auto (@f74_ok k)⟩
end Go.Proofs.YtbfgmnjhikaagaaGreatDoor.P
namespace Go.Proofs.YtbfgmnjhikaagaaGreatDoor.P
open Go Go.Proofs.YtbfgmnjhikaagaaGreatDoor.PM Go.Proofs.YtbfgmnjhikaagaaGreatDoor.PN Go.Proofs
set_option maxRecDepth 100000
set_option linter.unusedVariables false
theorem f75_ok {k a r} (h : f75 k a = some r) : FOk 75 [.id .i64 1 a] [] (f75.o r) :=
 fok0 [pf76] .all (k := k) (o := f75.o) Tryz.func75 h
def pf75 : Pk Tryz.prog C0 P0 G := ⟨75, sf75, fun k => sum_auto (@f75_ok k)⟩
end Go.Proofs.YtbfgmnjhikaagaaGreatDoor.P
namespace Go.Proofs.YtbfgmnjhikaagaaGreatDoor.P
open Go Go.Proofs.YtbfgmnjhikaagaaGreatDoor.PM Go.Proofs.YtbfgmnjhikaagaaGreatDoor.PN Go.Proofs
set_option maxRecDepth 100000
set_option linter.unusedVariables false
theorem f86_ok {k a r} (h : f86 k a = some r) : FOk 86 [.sl 0 a []] [] (f86.o r) :=
 fok [pf74] .all f86.st f86.hint (D := f86.D) f86.blk (o := f86.o) Tryz.func86 h
def pf86 : Pk Tryz.prog C0 P0 G := ⟨86, sf86, fun k => sum_auto (@f86_ok k)⟩
end Go.Proofs.YtbfgmnjhikaagaaGreatDoor.P
namespace Go.Proofs.YtbfgmnjhikaagaaGreatDoor.P
open Go Go.Proofs.YtbfgmnjhikaagaaGreatDoor.PM Go.Proofs.YtbfgmnjhikaagaaGreatDoor.PN Go.Proofs
set_option maxRecDepth 100000
set_option linter.unusedVariables false
theorem f98_ok {k a b r} (h : f98 k a b = some r) : FOk 98 [.sl 0 a [], .id .i64 2 b] [] (f98.o r) :=
 fok [] .all f98.st (fun _ => .all) (D := f98.D) f98.blk (o := f98.o) Tryz.func98 h
def pf98 : Pk Tryz.prog C0 P0 G := ⟨98, sf98, fun k => sum_auto (@f98_ok k)⟩
end Go.Proofs.YtbfgmnjhikaagaaGreatDoor.P
namespace Go.Proofs.YtbfgmnjhikaagaaGreatDoor.P
open Go Go.Proofs.YtbfgmnjhikaagaaGreatDoor.PM Go.Proofs.YtbfgmnjhikaagaaGreatDoor.PN Go.Proofs
set_option maxRecDepth 100000
set_option linter.unusedVariables false
theorem f89_ok {k a b r} (h : f89 k a b = some r) : FOk 89 [.sl 0 a [], .id .i64 2 b] [] (f89.o r) :=
 fok0 [pf98] .all (k := k) (o := f89.o) Tryz.func89 h
def pf89 : Pk Tryz.prog C0 P0 G := ⟨89, sf89, fun k => sum_auto (@f89_ok k)⟩
end Go.Proofs.YtbfgmnjhikaagaaGreatDoor.P
namespace Go.Proofs.YtbfgmnjhikaagaaGreatDoor.P
open Go Go.Proofs.YtbfgmnjhikaagaaGreatDoor.PM Go.Proofs.YtbfgmnjhikaagaaGreatDoor.PN Go.Proofs
set_option maxRecDepth 100000
set_option linter.unusedVariables false
theorem f88_ok {k a o0_0 o0_1 r} (h : f88 k a o0_0 o0_1 = some r) : FOk 88 [.id .i64 1 a, .ptr 0 (.l 0) 0] [.box true true 0 2 true [.sl 0 o0_0 [], .sl 0 o0_1 []]] (f88.o o0_0 o0_1 r) :=
 fok0 [pf89] .all (k := k) (o := (f88.o o0_0 o0_1)) Tryz.func88 h
def pf88 : Pk Tryz.prog C0 P0 G := ⟨88, sf88, fun k => sum_auto (@f88_ok k)⟩
end Go.Proofs.YtbfgmnjhikaagaaGreatDoor.P
namespace Go.Proofs.YtbfgmnjhikaagaaGreatDoor.P
open Go Go.Proofs.YtbfgmnjhikaagaaGreatDoor.PM Go.Proofs.YtbfgmnjhikaagaaGreatDoor.PN Go.Proofs
set_option maxRecDepth 100000
set_option linter.unusedVariables false
theorem f97_ok {k a o0_0 o0_1 r} (h : f97 k a o0_0 o0_1 = some r) : FOk 97 [.sl 0 a [], .fn 88 [.ptr 0 (.l 0) 0]] [.box true true 0 2 true [.sl 0 o0_0 [], .sl 0 o0_1 []]] (f97.o r) :=
 fok [pf88] .all f97.st (fun _ => .all) (D := f97.D) f97.blk (o := f97.o) Tryz.func97 h
def pf97 : Pk Tryz.prog C0 P0 G := ⟨97, sf97, fun k => sum_auto (@f97_ok k)⟩
end Go.Proofs.YtbfgmnjhikaagaaGreatDoor.P
namespace Go.Proofs.YtbfgmnjhikaagaaGreatDoor.P
open Go Go.Proofs.YtbfgmnjhikaagaaGreatDoor.PM Go.Proofs.YtbfgmnjhikaagaaGreatDoor.PN Go.Proofs
set_option maxRecDepth 100000
set_option linter.unusedVariables false
theorem f87_ok {k a o0_0 o0_1 r} (h : f87 k a o0_0 o0_1 = some r) : FOk 87 [.sl 0 a [], .fn 88 [.ptr 0 (.l 0) 0]] [.box true true 0 2 true [.sl 0 o0_0 [], .sl 0 o0_1 []]] (f87.o r) :=
 fok0 [pf97] .all (k := k) (o := f87.o) Tryz.func87 h
def pf87 : Pk Tryz.prog C0 P0 G := ⟨87, sf87, fun k => sum_auto (@f87_ok k)⟩
end Go.Proofs.YtbfgmnjhikaagaaGreatDoor.P
namespace Go.Proofs.YtbfgmnjhikaagaaGreatDoor.P
open Go Go.Proofs.YtbfgmnjhikaagaaGreatDoor.PM Go.Proofs.YtbfgmnjhikaagaaGreatDoor.PN Go.Proofs
set_option maxRecDepth 100000
set_option linter.unusedVariables false
theorem f77_ok {k a b r} (h : f77 k a b = some r) : FOk 77 [.agg [.sl 0 a [], .sl 0 b []]] [] (f77.o r) :=
 fok0 [pf86, pf87] (.both (.l (.l (.skip (.l (.both (.l (.l (.skip (.l (.both (.l (.l (.l (.skip (.l (.l .all)))))) (.r (.r (.r (.r (.r .all)))))))))) (.r (.r (.r .all)))))))) (.r (.r (.r .all)))) (k := k) (o := f77.o) Tryz.func77 h
def pf77 : Pk Tryz.prog C0 P0 G := ⟨77, sf77, fun k => sum_auto (@f77_ok k)⟩
end Go.Proofs.YtbfgmnjhikaagaaGreatDoor.P
namespace Go.Proofs.YtbfgmnjhikaagaaGreatDoor.P
open Go Go.Proofs.YtbfgmnjhikaagaaGreatDoor.PM Go.Proofs.YtbfgmnjhikaagaaGreatDoor.PN Go.Proofs
set_option maxRecDepth 100000
set_option linter.unusedVariables false
theorem f92_ok {k a0_0 a1_0 r} (h : f92 k a0_0 a1_0 = some r) : callT Tryz.prog C0 P0 92 [.sc (.string a0_0), .sc (.string a1_0)] [] = some (.win 0 0 r.length, [Ob.mkRow 1 (r.map fun x => .sc (.string x))]) := by
 unfold f92 at h
 obtain ⟨c, h⟩ := ite_l h
 obtain rfl := Option.some.inj h
 exact callT_prim (d := splD) rfl (if_pos c)
def pf92 : Pk Tryz.prog C0 P0 G := ⟨92, sf92, fun k => sum_auto (@f92_ok k)⟩
end Go.Proofs.YtbfgmnjhikaagaaGreatDoor.P
namespace Go.Proofs.YtbfgmnjhikaagaaGreatDoor.P
open Go Go.Proofs.YtbfgmnjhikaagaaGreatDoor.PM Go.Proofs.YtbfgmnjhikaagaaGreatDoor.PN Go.Proofs
set_option maxRecDepth 100000
set_option linter.unusedVariables false
theorem f93_ok {k a0_0 a1_0 a2_0 r} (h : f93 k a0_0 a1_0 a2_0 = some r) : callT Tryz.prog C0 P0 93 [.sc (.string a0_0), .sc (.int .i64 a1_0), .sc (.int .i64 a2_0)] [] = some (.tup [.sc (.int .i64 r.1), .ifc r.2], []) := by
 unfold f93 at h
 obtain ⟨c, h⟩ := ite_l h
 obtain rfl := Option.some.inj h
 exact callT_prim (d := pintD) rfl (if_pos c)
def pf93 : Pk Tryz.prog C0 P0 G := ⟨93, sf93, fun k => sum_auto (@f93_ok k)⟩
end Go.Proofs.YtbfgmnjhikaagaaGreatDoor.P
namespace Go.Proofs.YtbfgmnjhikaagaaGreatDoor.P
open Go Go.Proofs.YtbfgmnjhikaagaaGreatDoor.PM Go.Proofs.YtbfgmnjhikaagaaGreatDoor.PN Go.Proofs
set_option maxRecDepth 100000
set_option linter.unusedVariables false
theorem f135_ok {k a r} (h : f135 k a = some r) : FOk 135 [.id .i64 1 a] [] (f135.o r) :=
 fok0 [] .all (k := k) (o := f135.o) Tryz.func135 h
def pf135 : Pk Tryz.prog C0 P0 G := ⟨135, sf135, fun k => sum_auto (@f135_ok k)⟩
end Go.Proofs.YtbfgmnjhikaagaaGreatDoor.P
namespace Go.Proofs.YtbfgmnjhikaagaaGreatDoor.P
open Go Go.Proofs.YtbfgmnjhikaagaaGreatDoor.PM Go.Proofs.YtbfgmnjhikaagaaGreatDoor.PN Go.Proofs
set_option maxRecDepth 100000
set_option linter.unusedVariables false
theorem f114_ok {k a b r} (h : f114 k a b = some r) : FOk 114 [.id .i64 1 a, .id .i64 2 b] [] (f114.o r) :=
 fok0 [pf135] (.both (.both (.l (.l (.both .all (.r .all)))) (.r (.r (.l .all)))) .all) (k := k) (o := f114.o) Tryz.func114 h
def pf114 : Pk Tryz.prog C0 P0 G := ⟨114, sf114, fun k => sum_auto (@f114_ok k)⟩
end Go.Proofs.YtbfgmnjhikaagaaGreatDoor.P
namespace Go.Proofs.YtbfgmnjhikaagaaGreatDoor.P
open Go Go.Proofs.YtbfgmnjhikaagaaGreatDoor.PM Go.Proofs.YtbfgmnjhikaagaaGreatDoor.PN Go.Proofs
set_option maxRecDepth 100000
set_option linter.unusedVariables false
theorem f103_ok {k a b r} (h : f103 k a b = some r) : FOk 103 [.id .i64 1 a, .id .i64 2 b] [] (f103.o r) :=
 fok0 [pf114] .all (k := k) (o := f103.o) Tryz.func103 h
def pf103 : Pk Tryz.prog C0 P0 G := ⟨103, sf103, fun k => sum_auto (@f103_ok k)⟩
end Go.Proofs.YtbfgmnjhikaagaaGreatDoor.P
namespace Go.Proofs.YtbfgmnjhikaagaaGreatDoor.P
open Go Go.Proofs.YtbfgmnjhikaagaaGreatDoor.PM Go.Proofs.YtbfgmnjhikaagaaGreatDoor.PN Go.Proofs
set_option maxRecDepth 100000
set_option linter.unusedVariables false
theorem f94_ok {k a b r} (h : f94 k a b = some r) : FOk 94 [.agg [.sl 0 a [], .sl 0 b []]] [] (f94.o r) :=
 fok [pf103] .all f94.st (fun _ => .all) (D := f94.D) f94.blk (o := f94.o) Tryz.func94 h
def pf94 : Pk Tryz.prog C0 P0 G := ⟨94, sf94, fun k => sum_auto (@f94_ok k)⟩
end Go.Proofs.YtbfgmnjhikaagaaGreatDoor.P
namespace Go.Proofs.YtbfgmnjhikaagaaGreatDoor.P
open Go Go.Proofs.YtbfgmnjhikaagaaGreatDoor.PM Go.Proofs.YtbfgmnjhikaagaaGreatDoor.PN Go.Proofs
set_option maxRecDepth 100000
set_option linter.unusedVariables false
theorem f81_ok {k a r} (h : f81 k a = some r) : FOk 81 [.s a] [] (f81.o r) :=
 fok [pf77, pf92, pf93, pf94] .all f81.st f81.hint (D := f81.D) f81.blk (o := f81.o) Tryz.func81 h
def pf81 : Pk Tryz.prog C0 P0 G := ⟨81, sf81, fun k => sum_auto (@f81_ok k)⟩
end Go.Proofs.YtbfgmnjhikaagaaGreatDoor.P
namespace Go.Proofs.YtbfgmnjhikaagaaGreatDoor.P
open Go Go.Proofs.YtbfgmnjhikaagaaGreatDoor.PM Go.Proofs.YtbfgmnjhikaagaaGreatDoor.PN Go.Proofs
set_option maxRecDepth 100000
set_option linter.unusedVariables false
theorem f90_ok {k a b c r} (h : f90 k a b c = some r) : FOk 90 [.agg [.id .i64 0 a, .id .i64 0 b, .s c]] [] (f90.o r) :=
 fok0 [pf76] (.skip (.both (.l (.l (.skip (.l (.both (.l (.l (.l (.l .all)))) (.r (.r (.r (.r .all))))))))) (.r (.r (.r .all))))) (k := k) (o := f90.o) Tryz.func90 h
def pf90 : Pk Tryz.prog C0 P0 G := ⟨90, sf90, fun k => sum_auto (@f90_ok k)⟩
end Go.Proofs.YtbfgmnjhikaagaaGreatDoor.P
namespace Go.Proofs.YtbfgmnjhikaagaaGreatDoor.P
open Go Go.Proofs.YtbfgmnjhikaagaaGreatDoor.PM Go.Proofs.YtbfgmnjhikaagaaGreatDoor.PN Go.Proofs
set_option maxRecDepth 100000
set_option linter.unusedVariables false
theorem f78_ok {k a b c r} (h : f78 k a b c = some r) : FOk 78 [.agg [.id .i64 0 a, .id .i64 0 b, .s c]] [] (f78.o r) :=
 fok0 [pf81, pf90] .all (k := k) (o := f78.o) Tryz.func78 h
def pf78 : Pk Tryz.prog C0 P0 G := ⟨78, sf78, fun k => sum_auto (@f78_ok k)⟩
end Go.Proofs.YtbfgmnjhikaagaaGreatDoor.P
namespace Go.Proofs.YtbfgmnjhikaagaaGreatDoor.P
open Go Go.Proofs.YtbfgmnjhikaagaaGreatDoor.PM Go.Proofs.YtbfgmnjhikaagaaGreatDoor.PN Go.Proofs
set_option maxRecDepth 100000
set_option linter.unusedVariables false
theorem f63_ok {k a b c d e g i j l m n p u v r} (h : f63 k a b c d e g i j l m n p u v = some r) : FOk 63 [.agg [.id .i64 0 a, .id .i64 0 b, .id .i64 0 c, .id .i64 0 d, .id .i64 0 e, .sl 0 g [], .sl 0 i [], .s j, .sl 3 l [], .id .i64 0 m, .id .i64 0 n, .id .i64 0 p, .sl 0 u [], .sl 4 v []]] [] (f63.o r) :=
 fok [pf81] .all f63.st (fun _ => .all) (D := f63.D) f63.blk (o := f63.o) Tryz.func63 h
def pf63 : Pk Tryz.prog C0 P0 G := ⟨63, sf63, fun k => sum_auto (@f63_ok k)⟩
end Go.Proofs.YtbfgmnjhikaagaaGreatDoor.P
namespace Go.Proofs.YtbfgmnjhikaagaaGreatDoor.P
open Go Go.Proofs.YtbfgmnjhikaagaaGreatDoor.PM Go.Proofs.YtbfgmnjhikaagaaGreatDoor.PN Go.Proofs
set_option maxRecDepth 100000
set_option linter.unusedVariables false
theorem f99_ok {k o0 r} (h : f99 k o0 = some r) : callT Tryz.prog C0 P0 99 [.win 0 0 o0.length] [Ob.mkRow 1 (o0.map fun z => .sc (.int .i64 z))] = some (.tup [], [Ob.mkRow 1 (r.map fun z => .sc (.int .i64 z))]) := by
 unfold f99 at h
 obtain ⟨c, h⟩ := ite_l h
 obtain rfl := Option.some.inj h
 refine callT_prim (d := srtD) rfl ?_
 show srtD [.win 0 0 o0.length] [Ob.mkRow 1 (o0.map tI)] = some (.tup [], [Ob.mkRow 1 ((sortI o0).map tI)])
 simp only [srtD, Ob.mkRow, intsT_map]
 exact if_pos ⟨by first | rfl | trivial, by rw [List.length_map], c.1, c.2⟩
def pf99 : Pk Tryz.prog C0 P0 G := ⟨99, sf99, fun k => sum_auto (@f99_ok k)⟩
end Go.Proofs.YtbfgmnjhikaagaaGreatDoor.P
namespace Go.Proofs.YtbfgmnjhikaagaaGreatDoor.P
open Go Go.Proofs.YtbfgmnjhikaagaaGreatDoor.PM Go.Proofs.YtbfgmnjhikaagaaGreatDoor.PN Go.Proofs
set_option maxRecDepth 100000
set_option linter.unusedVariables false
theorem f91_ok {k a b c d e g i j l m n p u v w r} (h : f91 k a b c d e g i j l m n p u v w = some r) : FOk 91 [.agg [.id .i64 0 a, .id .i64 0 b, .id .i64 0 c, .id .i64 0 d, .id .i64 0 e, .sl 0 g [], .sl 0 i [], .s j, .sl 3 l [], .id .i64 0 m, .id .i64 0 n, .id .i64 0 p, .sl 0 u [], .sl 4 v []], .id .i64 2 w] [] (f91.o r) :=
 fok [pf63, pf99] .all f91.st (fun _ => .all) (D := f91.D) f91.blk (o := f91.o) Tryz.func91 h
def pf91 : Pk Tryz.prog C0 P0 G := ⟨91, sf91, fun k => sum_auto (@f91_ok k)⟩
end Go.Proofs.YtbfgmnjhikaagaaGreatDoor.P
namespace Go.Proofs.YtbfgmnjhikaagaaGreatDoor.P
open Go Go.Proofs.YtbfgmnjhikaagaaGreatDoor.PM Go.Proofs.YtbfgmnjhikaagaaGreatDoor.PN Go.Proofs
set_option maxRecDepth 100000
set_option linter.unusedVariables false
theorem f79_ok {k a b c d e g i j l m n p u v r} (h : f79 k a b c d e g i j l m n p u v = some r) : FOk 79 [.agg [.id .i64 0 a, .id .i64 0 b, .id .i64 0 c, .id .i64 0 d, .id .i64 0 e, .sl 0 g [], .sl 0 i [], .s j, .sl 3 l [], .id .i64 0 m, .id .i64 0 n, .id .i64 0 p, .sl 0 u [], .sl 4 v []]] [] (f79.o r) :=
 fok [pf52, pf76, pf91] .all f79.st f79.hint (D := f79.D) f79.blk (o := f79.o) Tryz.func79 h
def pf79 : Pk Tryz.prog C0 P0 G := ⟨79, sf79, fun k => sum_auto (@f79_ok k)⟩
end Go.Proofs.YtbfgmnjhikaagaaGreatDoor.P
namespace Go.Proofs.YtbfgmnjhikaagaaGreatDoor.P
open Go Go.Proofs.YtbfgmnjhikaagaaGreatDoor.PM Go.Proofs.YtbfgmnjhikaagaaGreatDoor.PN Go.Proofs
set_option maxRecDepth 100000
set_option linter.unusedVariables false
theorem f49_ok {k a b c d e g i j l m n p u v r} (h : f49 k a b c d e g i j l m n p u v = some r) : FOk 49 [.agg [.id .i64 0 a, .id .i64 0 b, .id .i64 0 c, .id .i64 0 d, .id .i64 0 e, .sl 0 g [], .sl 0 i [], .s j, .sl 3 l [], .id .i64 0 m, .id .i64 0 n, .id .i64 0 p, .sl 0 u [], .sl 4 v []]] [] (f49.o r) :=
 fok [pf52, pf74, pf75, pf76, pf77, pf78, pf79] (.skip (.both (.l (.l (.skip (.l (.l (.both (.l (.l (.skip (.l (.l (.both (.l (.l (.skip (.l (.l (.both (.l (.l (.l (.l (.skip (.l (.l (.both (.l (.l (.skip (.l (.l (.both (.l (.l (.skip (.l (.l (.both (.l (.l (.l (.l (.both (.l (.l (.l (.l .all)))) (.r (.r (.r (.r (.both (.l (.l (.l (.l .all)))) (.r (.r (.skip (.r (.r .all))))))))))))))) (.r (.r (.r (.r .all)))))))))) (.r (.r (.r (.r .all)))))))))) (.r (.r (.r (.r .all)))))))))))) (.r (.r (.r (.r (.r (.r .all)))))))))))) (.r (.r (.r (.r .all)))))))))) (.r (.r (.r (.r .all)))))))))) (.r (.r (.r (.r .all)))))) f49.st f49.hint (D := f49.D) f49.blk (o := f49.o) Tryz.func49 h
def pf49 : Pk Tryz.prog C0 P0 G := ⟨49, sf49, fun k => sum_auto (@f49_ok k)⟩
end Go.Proofs.YtbfgmnjhikaagaaGreatDoor.P
namespace Go.Proofs.YtbfgmnjhikaagaaGreatDoor.P
open Go Go.Proofs.YtbfgmnjhikaagaaGreatDoor.PM Go.Proofs.YtbfgmnjhikaagaaGreatDoor.PN Go.Proofs
set_option maxRecDepth 100000
set_option linter.unusedVariables false
theorem f54_ok {k a b c d e g i j l m n p u v w r} (h : f54 k a b c d e g i j l m n p u v w = some r) : FOk 54 [.agg [.id .i64 0 a, .id .i64 0 b, .id .i64 0 c, .id .i64 0 d, .id .i64 0 e, .sl 0 g [], .sl 0 i [], .s j, .sl 3 l [], .id .i64 0 m, .id .i64 0 n, .id .i64 0 p, .sl 0 u [], .sl 4 v []], .id .i64 2 w] [] (f54.o r) :=
 fok0 [] .all (k := k) (o := f54.o) Tryz.func54 h
def pf54 : Pk Tryz.prog C0 P0 G := ⟨54, sf54, fun k => sum_auto (@f54_ok k)⟩
end Go.Proofs.YtbfgmnjhikaagaaGreatDoor.P
namespace Go.Proofs.YtbfgmnjhikaagaaGreatDoor.P
open Go Go.Proofs.YtbfgmnjhikaagaaGreatDoor.PM Go.Proofs.YtbfgmnjhikaagaaGreatDoor.PN Go.Proofs
set_option maxRecDepth 100000
set_option linter.unusedVariables false
theorem f56_ok {k a b r} (h : f56 k a b = some r) : FOk 56 [.agg [.sl 0 a [], .sl 0 b []]] [] (f56.o r) :=
 fok0 [] .all (k := k) (o := f56.o) Tryz.func56 h
def pf56 : Pk Tryz.prog C0 P0 G := ⟨56, sf56, fun k => sum_auto (@f56_ok k)⟩
end Go.Proofs.YtbfgmnjhikaagaaGreatDoor.P
namespace Go.Proofs.YtbfgmnjhikaagaaGreatDoor.P
open Go Go.Proofs.YtbfgmnjhikaagaaGreatDoor.PM Go.Proofs.YtbfgmnjhikaagaaGreatDoor.PN Go.Proofs
set_option maxRecDepth 100000
set_option linter.unusedVariables false
theorem f66_ok {k a b c d e g i j l m n p u v r} (h : f66 k a b c d e g i j l m n p u v = some r) : FOk 66 [.agg [.id .i64 0 a, .id .i64 0 b, .id .i64 0 c, .id .i64 0 d, .id .i64 0 e, .sl 0 g [], .sl 0 i [], .s j, .sl 3 l [], .id .i64 0 m, .id .i64 0 n, .id .i64 0 p, .sl 0 u [], .sl 4 v []]] [] (f66.o r) :=
 fok0 [pf56] .all (k := k) (o := f66.o) Tryz.func66 h
def pf66 : Pk Tryz.prog C0 P0 G := ⟨66, sf66, fun k => sum_auto (@f66_ok k)⟩
end Go.Proofs.YtbfgmnjhikaagaaGreatDoor.P
namespace Go.Proofs.YtbfgmnjhikaagaaGreatDoor.P
open Go Go.Proofs.YtbfgmnjhikaagaaGreatDoor.PM Go.Proofs.YtbfgmnjhikaagaaGreatDoor.PN Go.Proofs
set_option maxRecDepth 100000
set_option linter.unusedVariables false
theorem f37_ok {k a b c d e g i j l m n p u v w y r} (h : f37 k a b c d e g i j l m n p u v w y = some r) : FOk 37 [.agg [.id .i64 0 a, .id .i64 0 b, .id .i64 0 c, .id .i64 0 d, .id .i64 0 e, .sl 0 g [], .sl 0 i [], .s j, .sl 3 l [], .id .i64 0 m, .id .i64 0 n, .id .i64 0 p, .sl 0 u [], .sl 4 v []], .id .i64 2 w, .s y] [] (f37.o r) :=
 fok0 [pf49, pf54, pf56, pf63, pf66] (.skip (.both (.skip (.both (.l (.l (.l (.l .all)))) (.r (.r (.r (.r .all)))))) .all)) (k := k) (o := f37.o) Tryz.func37 h
def pf37 : Pk Tryz.prog C0 P0 G := ⟨37, sf37, fun k => sum_auto (@f37_ok k)⟩
end Go.Proofs.YtbfgmnjhikaagaaGreatDoor.P
namespace Go.Proofs.YtbfgmnjhikaagaaGreatDoor.P
open Go Go.Proofs.YtbfgmnjhikaagaaGreatDoor.PM Go.Proofs.YtbfgmnjhikaagaaGreatDoor.PN Go.Proofs
set_option maxRecDepth 100000
set_option linter.unusedVariables false
theorem f9_ok {k a b c d e g i j l m n p u v w y r} (h : f9 k a b c d e g i j l m n p u v w y = some r) : FOk 9 [.agg [.id .i64 0 a, .id .i64 0 b, .id .i64 0 c, .id .i64 0 d, .id .i64 0 e, .sl 0 g [], .sl 0 i [], .s j, .sl 1 l [], .id .i64 0 m, .id .i64 0 n, .id .i64 0 p, .sl 0 u [], .sl 2 v []], .id .i64 2 w, .s y] [] (f9.o r) :=
 fok0 [pf10, pf12, pf14, pf26, pf27, pf36, pf37] (.both .all (.skip (.both .all (.bindr (Int × Int × Int × Int × Int × ByteArray × Int × Int × Int × (List Int) × (List Int) × (List S40) × (List Int) × (List S90)) fun t2 => (.skip (.re (Int × Int × Int × Int × Int × ByteArray × Int × Int × Int × (List Int) × (List Int) × (List S40) × (List Int) × (List S90)) t2 (.bindr (Int × Int × Int × Int × Int × ByteArray × Int × Int × Int × Int × (List Int) × (List Int) × (List S40) × (List Int) × (List S90)) fun t4 => (.bindr (Bool) fun t5 => (.both (.l (.l (.l (.both (.re (Int × Int × Int × Int × Int × ByteArray × Int × Int × Int × (List Int) × (List Int) × (List S40) × (List Int) × (List S90)) t2 (.skip (.both (.skip (.both (.l (.l (.l (.l .all)))) (.r (.r (.re (Bool) t5 (.r (.r (.l (.l (.l (.l (.l (.skip (.bindr (Int) fun t9 => (.both .all (.both (.re (Int × Int × Int × Int × Int × ByteArray × Int × Int × Int × (List Int) × (List Int) × (List S40) × (List Int) × (List S90)) t2 (.re (Int × Int × Int × Int × Int × ByteArray × Int × Int × Int × Int × (List Int) × (List Int) × (List S40) × (List Int) × (List S90)) t4 (.re (Bool) t5 (.l (.l (.l (.l (.l (.re (Int) t9 (.r (.l .all))))))))))) .all)))))))))))))))) .all))) .all)))) (.r (.r (.r .all)))))))))))) (k := k) (o := f9.o) Tryz.func9 h
theorem f9_okT {k : Nat} {a b c d e : Int} {g i : List Int} {j : ByteArray} {l : List S85} {m n p : Int} {u : List Int} {v : List S92} {w : Int} {y : ByteArray} {r : Bool} (h : f9 k a b c d e g i j l m n p u v w y = some r) : callT Tryz.prog C0 P0 9 [T.agg [T.sc (.int .i64 a), T.sc (.int .i64 b), T.sc (.int .i64 c), T.sc (.int .i64 d), T.sc (.int .i64 e), T.sl (List.map e_i64 g) [], T.sl (List.map e_i64 i) [], T.sc (.string j), T.sl (List.map e85 l) [], T.sc (.int .i64 m), T.sc (.int .i64 n), T.sc (.int .i64 p), T.sl (List.map e_i64 u) [], T.sl (List.map e92 v) []], T.sc (.int .i64 w), T.sc (.string y)] [] = some (denV G (f9.o r).1, []) := f9_ok h
end Go.Proofs.YtbfgmnjhikaagaaGreatDoor.P
namespace Go.Proofs.YtbfgmnjhikaagaaGreatDoor.PM
open Go Go.Shelf Go.RowKit Go.Proofs
variable {P : Program} {ρ : Go.Shelf.Ren}
set_option maxHeartbeats 1000000 in
theorem split_one (L : Lays.n146 P ρ) (hi9 : (P.info? (ρ.t 9)).map (fun i => (i.zero, i.size, i.bytes)) = some (some (.string ByteArray.empty), 1, 16)) (s : ByteArray) (c : UInt8) (w : World) (hs : s.size < 4294967281) :
 Calls P (ρ.f 146) #[.string s, .string ⟨#[c]⟩] w fun e w' =>
  e = .returned (.slice (some ⟨w.heap.size, 0, none⟩) (Lib.countB s ⟨#[c]⟩ + 1) (Lib.countB s ⟨#[c]⟩ + 1)) ∧ w' = w.alloc (.cells ((Lib.splitB ⟨#[c]⟩ 0 (Lib.countB s ⟨#[c]⟩) s).map Value.string).toArray (ρ.t 9)) := by
 have h1 : 1 ≤ (⟨#[c]⟩ : ByteArray).size := Nat.le_refl 1
 have hle := Lib.countB_le ⟨#[c]⟩ h1 s.size s (Nat.le_refl _)
 have hlen := Lib.splitB_all ⟨#[c]⟩ h1 0 _ s rfl
 have hI : ∀ (x : ByteArray) (d : Array Value), x.size ≤ s.size → Calls P (ρ.f 143) #[.string x, .string ⟨#[c]⟩] (w.alloc (.cells d (ρ.t 9))) fun e w' => e = .returned (.int .i64 (Lib.indexB x ⟨#[c]⟩)) ∧ w' = w.alloc (.cells d (ρ.t 9)) := fun x d _ => by
  refine (Any.strings_Index_one { L with } x c _).mono fun e w' ⟨he, hw⟩ => ⟨?_, hw⟩
  rw [he]
  show _ = Ending.returned (Value.int .i64 (Lib.index x.data.toList [c]))
  rw [Lib.index_one]
 have hC : Calls P (ρ.f 138) #[.string s, .string ⟨#[c]⟩] w fun e w' => e = .returned (.int .i64 (Lib.countB s ⟨#[c]⟩)) ∧ w' = w := by
  refine (Any.strings_Count_one { L with } s c w).mono fun e w' ⟨he, hw⟩ => ⟨?_, hw⟩
  rw [he]
  show _ = Ending.returned (Value.int .i64 ((Lib.count s.data.toList [c] : Nat) : Int))
  rw [Lib.count_one]
  rfl
 have k := Any.strings_genSplit_core { L with } hi9 s ⟨#[c]⟩ 0 (-1) (Lib.countB s ⟨#[c]⟩ + 1) w hs h1 (Nat.zero_le _) hI hC (by decide) (by decide) (by rw [if_pos (by decide)]; omega)
 rw [Nat.add_sub_cancel, hlen] at k
 have e2 : Lib.cellsOf (Lib.splitB ⟨#[c]⟩ 0 (Lib.countB s ⟨#[c]⟩) s) (Lib.countB s ⟨#[c]⟩ + 1) = ((Lib.splitB ⟨#[c]⟩ 0 (Lib.countB s ⟨#[c]⟩) s).map Value.string).toArray := by rw [← hlen]; exact Lib.cellsOf_full _
 rw [e2] at k
 have t3 := L.t3; have t9 := L.t9; have t31 := L.t31
 have a3 := L.a3; have a9 := L.a9; have a31 := L.a31
 have z3 := L.z3; have v3 := L.v3; have z9 := L.z9; have v9 := L.v9; have z31 := L.z31; have v31 := L.v31
 have e221 : ∀ args w, (callFunc (ρ.f 221) args).run P w = .ok (.enter (ρ.f 221) args) w := enters_of L.f221 (by kernel_rfl) rfl
 go_enter L.f146, Body.n146_ntmps ρ
 go_wp2_with (go_at_fn (ρ.f 221); refine k.mono ?_; rintro e w' ⟨rfl, hw⟩; rw [hw])
 go_ret
 exact ⟨rfl, rfl⟩
theorem split_calls (L : Lays.n146 P ρ) (hi9 : (P.info? (ρ.t 9)).map (fun i => (i.zero, i.size, i.bytes)) = some (some (.string ByteArray.empty), 1, 16)) (s sep : ByteArray) (w : World) (h1 : sep.size = 1) (hs : s.size ≤ 4194304) :
 Calls P (ρ.f 146) #[.string s, .string sep] w fun e w' => ∃ ty, e = .returned (.slice (some ⟨w.heap.size, 0, none⟩) (splV s sep).length (splV s sep).length) ∧ w' = w.alloc (.cells ((splV s sep).map Value.string).toArray ty) := by
 obtain ⟨c, rfl⟩ := Lib.one_byte sep h1
 refine (split_one L hi9 s c w (by omega)).mono fun e w' ⟨he, hw⟩ => ⟨_, ?_, hw⟩
 rw [he]
 unfold splV
 rw [Lib.splitB_all ⟨#[c]⟩ (Nat.le_refl 1) 0 _ s rfl]
theorem pint_calls (L : LaysC.n174 P ρ) (g15 : isGlob P (ρ.g 15) = true) (g16 : isGlob P (ρ.g 16) = true) (s : ByteArray) (w : World) (N : Nat → Prop) (G : GlobOk P w N) (hs : s.size ≤ 281474976710656) :
 Calls P (ρ.f 174) #[.string s, .int .i64 10, .int .i64 64] w fun e w' => ∃ ev, e = .returned (.tuple #[.int .i64 (pintV s).1, ev]) ∧ IfcV (pintV s).2 ev ∧ Below w.heap.size w w' := by
 unfold pintV
 cases h : Lib.parseIntB 64 s.data.toList with
 | ok v =>
  refine (Any.strconv_ParseInt_10_at64_ok L s (by omega) v h w).mono ?_
  rintro e w' ⟨rfl, hw⟩
  refine ⟨_, rfl, rfl, ?_⟩
  rcases hw with rfl | ⟨t, rfl⟩
  · exact Below.refl _ _
  · exact Lib.bytesWorld_below _ _ _
 | range =>
  obtain ⟨_, u, x, hv⟩ := G _ g16
  refine (Any.strconv_ParseInt_10_at64_range L s hs h _ w hv (.inr ⟨u, x, rfl⟩)).mono ?_
  rintro e w' ⟨n, rfl, _, _, hb⟩
  exact ⟨_, rfl, ⟨_, _, rfl⟩, hb⟩
 | _ =>
  obtain ⟨_, u, x, hv⟩ := G _ g15
  refine (Any.strconv_ParseInt_10_at64_syntax L s hs h _ w hv (.inr ⟨u, x, rfl⟩)).mono ?_
  rintro e w' ⟨n, rfl, _, _, hb⟩
  exact ⟨_, rfl, ⟨_, _, rfl⟩, hb⟩
end Go.Proofs.YtbfgmnjhikaagaaGreatDoor.PM
namespace Go.Proofs
open Go.Shelf
def Tryz.lays146_ren : Go.Shelf.Ren := ⟨fun | 146 => 92 | 221 => 100 | 268 => 106 | 138 => 107 | 143 => 108 | 195 => 126 | 197 => 127 | 218 => 128 | 219 => 129 | 260 => 145 | 217 => 146 | 225 => 147 | 224 => 148 | 267 => 149 | 266 => 156 | 314 => 157 | n => n, fun | 9 => 9 | 31 => 97 | 3 => 3 | 4 => 4 | 0 => 0 | 105 => 144 | 21 => 21 | 5 => 5 | 46 => 121 | 119 => 175 | 139 => 178 | 138 => 177 | 146 => 179 | 51 => 141 | n => n, fun | 1 => 2 | 3 => 4 | 4 => 5 | n => n⟩
theorem Tryz.lays146 : Go.Proofs.Lays.n146 Tryz.prog Tryz.lays146_ren := {
  mixed := by kernel_rfl
  f138 := Tryz.func107.trans (congrArg some (by kernel_rfl))
  f143 := Tryz.func108.trans (congrArg some (by kernel_rfl))
  f146 := Tryz.func92.trans (congrArg some (by kernel_rfl))
  f195 := Tryz.func126.trans (congrArg some (by kernel_rfl))
  f197 := Tryz.func127.trans (congrArg some (by kernel_rfl))
  f217 := Tryz.func146.trans (congrArg some (by kernel_rfl))
  f218 := Tryz.func128.trans (congrArg some (by kernel_rfl))
  f219 := Tryz.func129.trans (congrArg some (by kernel_rfl))
  f221 := Tryz.func100.trans (congrArg some (by kernel_rfl))
  f224 := Tryz.func148.trans (congrArg some (by kernel_rfl))
  f225 := Tryz.func147.trans (congrArg some (by kernel_rfl))
  f260 := Tryz.func145.trans (congrArg some (by kernel_rfl))
  f266 := Tryz.func156.trans (congrArg some (by kernel_rfl))
  f267 := Tryz.func149.trans (congrArg some (by kernel_rfl))
  f268 := Tryz.func106.trans (congrArg some (by kernel_rfl))
  f314 := Tryz.func157.trans (congrArg some (by kernel_rfl))
  t0 := Tryz.underlying0
  a0 := Tryz.isAgg0
  z0 := Tryz.sizeOf0
  v0 := Tryz.zeroValue0
  t3 := Tryz.underlying3
  a3 := Tryz.isAgg3
  z3 := Tryz.sizeOf3
  v3 := Tryz.zeroValue3
  t4 := Tryz.underlying4
  a4 := Tryz.isAgg4
  z4 := Tryz.sizeOf4
  v4 := Tryz.zeroValue4
  t5 := Tryz.underlying5
  a5 := Tryz.isAgg5
  z5 := Tryz.sizeOf5
  v5 := Tryz.zeroValue5
  t9 := Tryz.underlying9
  a9 := Tryz.isAgg9
  z9 := Tryz.sizeOf9
  v9 := Tryz.zeroValue9
  t21 := Tryz.underlying21
  a21 := Tryz.isAgg21
  z21 := Tryz.sizeOf21
  v21 := Tryz.zeroValue21
  t31 := Tryz.underlying97
  a31 := Tryz.isAgg97
  z31 := Tryz.sizeOf97
  v31 := Tryz.zeroValue97
  t46 := Tryz.underlying121
  a46 := Tryz.isAgg121
  z46 := Tryz.sizeOf121
  v46 := Tryz.zeroValue121
  t51 := Tryz.underlying141
  a51 := Tryz.isAgg141
  z51 := Tryz.sizeOf141
  v51 := Tryz.zeroValue141
  t105 := Tryz.underlying144
  a105 := Tryz.isAgg144
  z105 := Tryz.sizeOf144
  v105 := Tryz.zeroValue144
  t119 := Tryz.underlying175
  a119 := Tryz.isAgg175
  z119 := Tryz.sizeOf175
  t138 := Tryz.underlying177
  a138 := Tryz.isAgg177
  z138 := Tryz.sizeOf177
  v138 := Tryz.zeroValue177
  t139 := Tryz.underlying178
  a139 := Tryz.isAgg178
  z139 := Tryz.sizeOf178
  v139 := Tryz.zeroValue178
  t146 := Tryz.underlying179
  a146 := Tryz.isAgg179
  z146 := Tryz.sizeOf179
  v146 := Tryz.zeroValue179
  g1 := by kernel_rfl
  g3 := by kernel_rfl
  g4 := by kernel_rfl }
def Tryz.laysC174_ren : Go.Shelf.Ren := ⟨fun | 174 => 93 | 247 => 101 | 245 => 102 | 287 => 109 | 279 => 110 | 280 => 111 | 281 => 112 | 282 => 113 | 321 => 130 | 322 => 131 | 316 => 132 | 171 => 134 | 205 => 133 | 243 => 150 | 246 => 114 | 283 => 135 | 284 => 136 | 285 => 137 | 286 => 138 | 129 => 125 | 317 => 151 | 318 => 152 | 319 => 153 | 320 => 154 | 337 => 158 | 338 => 159 | n => n, fun | 9 => 9 | 3 => 3 | 2 => 2 | 75 => 108 | 85 => 109 | 4 => 4 | 167 => 124 | 5 => 5 | 53 => 125 | 175 => 126 | 46 => 121 | 168 => 128 | 37 => 96 | 0 => 0 | 210 => 151 | 21 => 21 | 127 => 164 | 145 => 167 | 143 => 165 | 171 => 153 | 173 => 155 | 212 => 169 | 51 => 141 | 20 => 20 | 213 => 170 | 232 => 181 | 233 => 182 | 80 => 183 | n => n, fun | 15 => 0 | 16 => 1 | 17 => 3 | 18 => 6 | 19 => 7 | n => n⟩
theorem Tryz.laysC174 : Go.Proofs.LaysC.n174 Tryz.prog Tryz.laysC174_ren := {
  mixed := by kernel_rfl
  f129 := Tryz.func125.trans (congrArg some (by kernel_rfl))
  f171 := Tryz.func134.trans (congrArg some (by kernel_rfl))
  f174 := Tryz.func93.trans (congrArg some (by kernel_rfl))
  f205 := Tryz.func133.trans (congrArg some (by kernel_rfl))
  f243 := Tryz.func150.trans (congrArg some (by kernel_rfl))
  f245 := Tryz.func102.trans (congrArg some (by kernel_rfl))
  f246 := Tryz.func114.trans (congrArg some (by kernel_rfl))
  f247 := Tryz.func101.trans (congrArg some (by kernel_rfl))
  f279 := Tryz.func110.trans (congrArg some (by kernel_rfl))
  f280 := Tryz.func111.trans (congrArg some (by kernel_rfl))
  f281 := Tryz.func112.trans (congrArg some (by kernel_rfl))
  f282 := Tryz.func113.trans (congrArg some (by kernel_rfl))
  f283 := Tryz.func135.trans (congrArg some (by kernel_rfl))
  f284 := Tryz.func136.trans (congrArg some (by kernel_rfl))
  f285 := Tryz.func137.trans (congrArg some (by kernel_rfl))
  f286 := Tryz.func138.trans (congrArg some (by kernel_rfl))
  f287 := Tryz.func109.trans (congrArg some (by kernel_rfl))
  f316 := Tryz.func132.trans (congrArg some (by kernel_rfl))
  f317 := Tryz.func151.trans (congrArg some (by kernel_rfl))
  f318 := Tryz.func152.trans (congrArg some (by kernel_rfl))
  f319 := Tryz.func153.trans (congrArg some (by kernel_rfl))
  f320 := Tryz.func154.trans (congrArg some (by kernel_rfl))
  f321 := Tryz.func130.trans (congrArg some (by kernel_rfl))
  f322 := Tryz.func131.trans (congrArg some (by kernel_rfl))
  f337 := Tryz.func158.trans (congrArg some (by kernel_rfl))
  f338 := Tryz.func159.trans (congrArg some (by kernel_rfl))
  t0 := Tryz.underlying0
  a0 := Tryz.isAgg0
  z0 := Tryz.sizeOf0
  v0 := Tryz.zeroValue0
  t2 := Tryz.underlying2
  a2 := Tryz.isAgg2
  z2 := Tryz.sizeOf2
  v2 := Tryz.zeroValue2
  t3 := Tryz.underlying3
  a3 := Tryz.isAgg3
  z3 := Tryz.sizeOf3
  v3 := Tryz.zeroValue3
  t4 := Tryz.underlying4
  a4 := Tryz.isAgg4
  z4 := Tryz.sizeOf4
  v4 := Tryz.zeroValue4
  t5 := Tryz.underlying5
  a5 := Tryz.isAgg5
  z5 := Tryz.sizeOf5
  v5 := Tryz.zeroValue5
  t9 := Tryz.underlying9
  a9 := Tryz.isAgg9
  z9 := Tryz.sizeOf9
  v9 := Tryz.zeroValue9
  t20 := Tryz.underlying20
  a20 := Tryz.isAgg20
  z20 := Tryz.sizeOf20
  v20 := Tryz.zeroValue20
  t21 := Tryz.underlying21
  a21 := Tryz.isAgg21
  z21 := Tryz.sizeOf21
  v21 := Tryz.zeroValue21
  t37 := Tryz.underlying96
  a37 := Tryz.isAgg96
  z37 := Tryz.sizeOf96
  v37 := Tryz.zeroValue96
  t46 := Tryz.underlying121
  a46 := Tryz.isAgg121
  z46 := Tryz.sizeOf121
  v46 := Tryz.zeroValue121
  t51 := Tryz.underlying141
  a51 := Tryz.isAgg141
  z51 := Tryz.sizeOf141
  v51 := Tryz.zeroValue141
  t53 := Tryz.underlying125
  a53 := Tryz.isAgg125
  z53 := Tryz.sizeOf125
  v53 := Tryz.zeroValue125
  t75 := Tryz.underlying108
  a75 := Tryz.isAgg108
  z75 := Tryz.sizeOf108
  v75 := Tryz.zeroValue108
  t85 := Tryz.underlying109
  a85 := Tryz.isAgg109
  z85 := Tryz.sizeOf109
  v85 := Tryz.zeroValue109
  t127 := Tryz.underlying164
  a127 := Tryz.isAgg164
  z127 := Tryz.sizeOf164
  v127 := Tryz.zeroValue164
  t143 := Tryz.underlying165
  a143 := Tryz.isAgg165
  z143 := Tryz.sizeOf165
  v143 := Tryz.zeroValue165
  t145 := Tryz.underlying167
  a145 := Tryz.isAgg167
  z145 := Tryz.sizeOf167
  v145 := Tryz.zeroValue167
  t167 := Tryz.underlying124
  a167 := Tryz.isAgg124
  z167 := Tryz.sizeOf124
  v167 := Tryz.zeroValue124
  t168 := Tryz.underlying128
  a168 := Tryz.isAgg128
  z168 := Tryz.sizeOf128
  v168 := Tryz.zeroValue128
  t171 := Tryz.underlying153
  a171 := Tryz.isAgg153
  z171 := Tryz.sizeOf153
  v171 := Tryz.zeroValue153
  t173 := Tryz.underlying155
  a173 := Tryz.isAgg155
  z173 := Tryz.sizeOf155
  v173 := Tryz.zeroValue155
  t175 := Tryz.underlying126
  a175 := Tryz.isAgg126
  z175 := Tryz.sizeOf126
  v175 := Tryz.zeroValue126
  t210 := Tryz.underlying151
  a210 := Tryz.isAgg151
  z210 := Tryz.sizeOf151
  v210 := Tryz.zeroValue151
  t212 := Tryz.underlying169
  a212 := Tryz.isAgg169
  z212 := Tryz.sizeOf169
  v212 := Tryz.zeroValue169
  t213 := Tryz.underlying170
  a213 := Tryz.isAgg170
  z213 := Tryz.sizeOf170
  t232 := Tryz.underlying181
  a232 := Tryz.isAgg181
  z232 := Tryz.sizeOf181
  v232 := Tryz.zeroValue181
  t233 := Tryz.underlying182
  a233 := Tryz.isAgg182
  z233 := Tryz.sizeOf182
  v233 := Tryz.zeroValue182
  g15 := by kernel_rfl
  g16 := by kernel_rfl
  g17 := by kernel_rfl
  g18 := by kernel_rfl
  g19 := by kernel_rfl
  t80 := Tryz.underlying183
  a80 := Tryz.isAgg183
  z80 := Tryz.sizeOf183
  v80 := Tryz.zeroValue183
  i0 := by kernel_rfl
  i2 := by kernel_rfl
  i3 := by kernel_rfl
  i4 := by kernel_rfl
  i5 := by kernel_rfl
  i9 := by kernel_rfl
  i20 := by kernel_rfl
  i21 := by kernel_rfl
  i37 := by kernel_rfl
  i46 := by kernel_rfl
  i51 := by kernel_rfl
  i53 := by kernel_rfl
  i75 := by kernel_rfl
  i80 := by kernel_rfl
  i85 := by kernel_rfl
  i127 := by kernel_rfl
  i143 := by kernel_rfl
  i145 := by kernel_rfl
  i167 := by kernel_rfl
  i168 := by kernel_rfl
  i171 := by kernel_rfl
  i173 := by kernel_rfl
  i175 := by kernel_rfl
  i210 := by kernel_rfl
  i212 := by kernel_rfl
  i232 := by kernel_rfl
  i233 := by kernel_rfl
  m15 := by kernel_rfl
  m16 := by kernel_rfl
  m17 := by kernel_rfl
  m18 := by kernel_rfl
  m19 := by kernel_rfl
  c0 := by kernel_rfl
  c2 := by kernel_rfl
  c3 := by kernel_rfl
  c4 := by kernel_rfl
  c5 := by kernel_rfl
  c9 := by kernel_rfl
  c20 := by kernel_rfl
  c21 := by kernel_rfl
  c37 := by kernel_rfl
  c46 := by kernel_rfl
  c51 := by kernel_rfl
  c53 := by kernel_rfl
  c75 := by kernel_rfl
  c80 := by kernel_rfl
  c85 := by kernel_rfl
  c127 := by kernel_rfl
  c143 := by kernel_rfl
  c145 := by kernel_rfl
  c167 := by kernel_rfl
  c168 := by kernel_rfl
  c171 := by kernel_rfl
  c173 := by kernel_rfl
  c175 := by kernel_rfl
  c210 := by kernel_rfl
  c212 := by kernel_rfl
  c213 := by kernel_rfl
  c232 := by kernel_rfl
  c233 := by kernel_rfl }
def Tryz.laysN99_ren : Go.Shelf.Ren := ⟨fun | 53 => 99 | 64 => 105 | 63 => 104 | 78 => 124 | 79 => 125 | 70 => 115 | 71 => 116 | 72 => 117 | 73 => 118 | 74 => 119 | 75 => 120 | 59 => 121 | 76 => 122 | 77 => 123 | 88 => 139 | 89 => 140 | 90 => 141 | 91 => 142 | 92 => 143 | 68 => 144 | 96 => 155 | n => n, fun | 22 => 22 | 23 => 2 | 3 => 3 | 51 => 121 | 0 => 0 | 67 => 141 | 69 => 125 | 4 => 4 | 61 => 133 | 60 => 132 | 44 => 138 | 5 => 5 | 9 => 9 | 75 => 157 | 79 => 161 | 83 => 172 | 84 => 173 | n => n, fun | n => n⟩
theorem Tryz.laysN99 : Go.Proofs.SlLaysN.n53 Tryz.prog Tryz.laysN99_ren := {
  mixed := by kernel_rfl
  f53 := ⟨Tryz.f99.name, by decide, Tryz.func99.trans (congrArg some (by kernel_rfl))⟩
  f59 := ⟨Tryz.f121.name, by decide, Tryz.func121.trans (congrArg some (by kernel_rfl))⟩
  f63 := ⟨Tryz.f104.name, by decide, Tryz.func104.trans (congrArg some (by kernel_rfl))⟩
  f64 := Tryz.func105.trans (congrArg some (by kernel_rfl))
  f68 := ⟨Tryz.f144.name, by decide, Tryz.func144.trans (congrArg some (by kernel_rfl))⟩
  f70 := ⟨Tryz.f115.name, by decide, Tryz.func115.trans (congrArg some (by kernel_rfl))⟩
  f71 := ⟨Tryz.f116.name, by decide, Tryz.func116.trans (congrArg some (by kernel_rfl))⟩
  f72 := ⟨Tryz.f117.name, by decide, Tryz.func117.trans (congrArg some (by kernel_rfl))⟩
  f73 := ⟨Tryz.f118.name, by decide, Tryz.func118.trans (congrArg some (by kernel_rfl))⟩
  f74 := ⟨Tryz.f119.name, by decide, Tryz.func119.trans (congrArg some (by kernel_rfl))⟩
  f75 := ⟨Tryz.f120.name, by decide, Tryz.func120.trans (congrArg some (by kernel_rfl))⟩
  f76 := ⟨Tryz.f122.name, by decide, Tryz.func122.trans (congrArg some (by kernel_rfl))⟩
  f77 := ⟨Tryz.f123.name, by decide, Tryz.func123.trans (congrArg some (by kernel_rfl))⟩
  f78 := Tryz.func124.trans (congrArg some (by kernel_rfl))
  f79 := Tryz.func125.trans (congrArg some (by kernel_rfl))
  f88 := ⟨Tryz.f139.name, by decide, Tryz.func139.trans (congrArg some (by kernel_rfl))⟩
  f89 := Tryz.func140.trans (congrArg some (by kernel_rfl))
  f90 := Tryz.func141.trans (congrArg some (by kernel_rfl))
  f91 := ⟨Tryz.f142.name, by decide, Tryz.func142.trans (congrArg some (by kernel_rfl))⟩
  f92 := ⟨Tryz.f143.name, by decide, Tryz.func143.trans (congrArg some (by kernel_rfl))⟩
  f96 := ⟨Tryz.f155.name, by decide, Tryz.func155.trans (congrArg some (by kernel_rfl))⟩
  t0 := Tryz.underlying0
  a0 := Tryz.isAgg0
  z0 := Tryz.sizeOf0
  v0 := Tryz.zeroValue0
  t3 := Tryz.underlying3
  a3 := Tryz.isAgg3
  z3 := Tryz.sizeOf3
  v3 := Tryz.zeroValue3
  t4 := Tryz.underlying4
  a4 := Tryz.isAgg4
  z4 := Tryz.sizeOf4
  v4 := Tryz.zeroValue4
  t5 := Tryz.underlying5
  a5 := Tryz.isAgg5
  z5 := Tryz.sizeOf5
  v5 := Tryz.zeroValue5
  t9 := Tryz.underlying9
  a9 := Tryz.isAgg9
  z9 := Tryz.sizeOf9
  v9 := Tryz.zeroValue9
  t22 := Tryz.underlying22
  a22 := Tryz.isAgg22
  z22 := Tryz.sizeOf22
  v22 := Tryz.zeroValue22
  t23 := Tryz.underlying2
  a23 := Tryz.isAgg2
  z23 := Tryz.sizeOf2
  v23 := Tryz.zeroValue2
  t44 := Tryz.underlying138
  a44 := Tryz.isAgg138
  z44 := Tryz.sizeOf138
  v44 := Tryz.zeroValue138
  t51 := Tryz.underlying121
  a51 := Tryz.isAgg121
  z51 := Tryz.sizeOf121
  v51 := Tryz.zeroValue121
  t60 := Tryz.underlying132
  a60 := Tryz.isAgg132
  z60 := Tryz.sizeOf132
  v60 := Tryz.zeroValue132
  t61 := Tryz.underlying133
  a61 := Tryz.isAgg133
  z61 := Tryz.sizeOf133
  v61 := Tryz.zeroValue133
  t67 := Tryz.underlying141
  a67 := Tryz.isAgg141
  z67 := Tryz.sizeOf141
  v67 := Tryz.zeroValue141
  t69 := Tryz.underlying125
  a69 := Tryz.isAgg125
  z69 := Tryz.sizeOf125
  v69 := Tryz.zeroValue125
  t75 := Tryz.underlying157
  a75 := Tryz.isAgg157
  z75 := Tryz.sizeOf157
  v75 := Tryz.zeroValue157
  t79 := Tryz.underlying161
  a79 := Tryz.isAgg161
  z79 := Tryz.sizeOf161
  v79 := Tryz.zeroValue161
  t83 := Tryz.underlying172
  a83 := Tryz.isAgg172
  z83 := Tryz.sizeOf172
  v83 := Tryz.zeroValue172
  t84 := Tryz.underlying173
  a84 := Tryz.isAgg173
  z84 := Tryz.sizeOf173
  v84 := Tryz.zeroValue173 }
end Go.Proofs
namespace Go.Proofs.YtbfgmnjhikaagaaGreatDoor.P
open Go Go.Proofs.YtbfgmnjhikaagaaGreatDoor.PM Go.Proofs
theorem fnOk_of {P : Program} {f : FuncId} {fn : Func} (h : P.funcs[f]? = some fn) (h1 : (fn.name == "runtime.NumGoroutine") = false) (h2 : fn.body.isNone = false) : FnOk P f := ⟨fn, h, h1, h2⟩
theorem pintW (s : ByteArray) (w : World) (N : Nat → Prop) (G : GlobOk Tryz.prog w N) (hs : s.size ≤ 281474976710656) : Calls Tryz.prog 93 #[.string s, .int .i64 10, .int .i64 64] w fun e w' => ∃ ev, e = .returned (.tuple #[.int .i64 (pintV s).1, ev]) ∧ IfcV (pintV s).2 ev ∧ RowKit.Below w.heap.size w w' :=
  pint_calls Tryz.laysC174 (by kernel_rfl) (by kernel_rfl) s w N G hs
theorem splW (s sep : ByteArray) (w : World) (h1 : sep.size = 1) (hs : s.size ≤ 4194304) : Calls Tryz.prog 92 #[.string s, .string sep] w fun e w' => ∃ ty, e = .returned (.slice (some ⟨w.heap.size, 0, none⟩) (splV s sep).length (splV s sep).length) ∧ w' = w.alloc (.cells ((splV s sep).map Value.string).toArray ty) :=
  split_calls Tryz.lays146 (by kernel_rfl) s sep w h1 hs
theorem srtW (blk cap : Nat) (zs : List Int) (w : World) (hH : Sort.Holds (Value.int .i64) w blk 0 zs.toArray) (hb : blk < w.heap.size) (hs : zs.length < 4611686018427387904) : Calls Tryz.prog 99 #[.slice (some ⟨blk, 0, none⟩) zs.length cap] w fun e w' => e = .returned (.tuple #[]) ∧ ∃ n os, w' = Sort.grow (Sort.putRow (Value.int .i64) (Sort.ahead w n) blk 0 (sortI zs).toArray) os :=
  AnyG.slices_Sort_int Tryz.laysN99 blk 0 cap zs w hH hb hs
end Go.Proofs.YtbfgmnjhikaagaaGreatDoor.P
namespace Go.Proofs.YtbfgmnjhikaagaaGreatDoor.P
open Go Go.Proofs.YtbfgmnjhikaagaaGreatDoor.PM Go.Proofs.YtbfgmnjhikaagaaGreatDoor.PN Go.Proofs
set_option maxRecDepth 100000
set_option linter.unusedVariables false
theorem prims_ok : PrimOk Tryz.prog P0 := by
 intro f D hD args objs r objs' h
 unfold P0 at hD
 split at hD
 · rename_i hf
   subst hf
   obtain rfl := Option.some.inj hD
   exact spl_ok (fnOk_of Tryz.func92 rfl rfl) splW h
 split at hD
 · rename_i hf
   subst hf
   obtain rfl := Option.some.inj hD
   exact pint_ok (fnOk_of Tryz.func93 rfl rfl) pintW h
 split at hD
 · rename_i hf
   subst hf
   obtain rfl := Option.some.inj hD
   exact srt_ok (fnOk_of Tryz.func99 rfl rfl) srtW h
 cases hD
end Go.Proofs.YtbfgmnjhikaagaaGreatDoor.P
