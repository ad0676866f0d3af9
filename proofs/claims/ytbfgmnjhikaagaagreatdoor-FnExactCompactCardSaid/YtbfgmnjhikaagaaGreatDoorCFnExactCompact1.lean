/- Part of the proof of FnExactCompact: no statement of its own. -/
import Derived.Below
import Derived.ChangeArms
import Derived.DataElems
import Derived.DataReads
import Derived.Deep.RegionLaw
import Derived.Deep.Slices
import Derived.IntWalk
import Derived.LaidLaws
import Derived.LaidMore
import Derived.Laws.BytesString
import Derived.Laws.CopyRow
import Derived.Laws.NewBlocks
import Derived.Lib.AppendZerosOnto
import Derived.Lib.Bytealg
import Derived.Test.YtbfgmnjhikaagaaGreatDoorCFnExactCompact0
set_option linter.unusedVariables false
set_option linter.unusedSimpArgs false
namespace Go.Proofs.YtbfgmnjhikaagaaGreatDoor.PM
open Go
section
variable {cx : Cx} {w : World} {g : Nat → Option Nat} {look : Nat → Ob} {tmps : List T} {a : Act}
theorem pick_length (keep : List (Nat × Bool)) (look : Nat → Ob) : ∀ (l : List T) (i : Nat), (pickTmps keep look i l).length = l.length
 | [], _ => rfl
 | t :: r, i => by simp only [pickTmps, List.length_cons, pick_length keep look r]
theorem pick_ok (R : Rel cx g tmps look a w) (keep : List (Nat × Bool)) : ∀ (l : List T) (i : Nat) (vs : Nat → Value), (∀ (q : Nat) t, l[q]? = some t → FrV w g look (NN cx w g look) (vs q) t) →
 ∀ (q : Nat) t, (pickTmps keep look i l)[q]? = some t → FrV w g look (NN cx w g look) (vs q) t
 | [], _, _, _, q, t, h => by simp [pickTmps] at h
 | x :: r, i, vs, hv, 0, t, h => by
  simp only [pickTmps, List.getElem?_cons_zero, Option.some.injEq] at h
  have hx := hv 0 x rfl
  subst h
  split
  · exact trivial
  · exact hx
  ·
   split
   ·
    obtain ⟨ad, hh⟩ := hx
    rw [hh]
    exact ⟨⟨_, _, rfl, Nat.zero_le _, .inl rfl⟩, okSrc_nil, fun _ => .empty⟩
   ·
    rename_i o off len
    split
    ·
     rename_i hc
     have hrun : (view1 (.win o off len)).run look = some (.sl (((look o).xs.drop off).take len) (if (look o).may then [(o, (look o).ver)] else []), [o]) := by
      simp only [view1, obj, Rd.run_bind, Rd.run, guardR, hc, if_true]
      rfl
     exact (view1_ok R (v := vs 0) (t := .win o off len) hx hrun).1
    · exact trivial
   · exact hx
 | x :: r, i, vs, hv, q + 1, t, h => by
  simp only [pickTmps, List.getElem?_cons_succ] at h
  exact pick_ok R keep r (i + 1) (fun q => vs (q + 1)) (fun q t ht => hv (q + 1) t ht) q t h
theorem normB_ok {s : St} (R : RelS cx g s a w) (keep : List (Nat × Bool)) : ∃ g', RelS cx g' (normB keep s) a w := by
 obtain ⟨R, hws, hcm⟩ := R
 generalize hlook : lookIn s.store = look at R hws
 generalize hts : pickTmps keep look 0 s.tmps = ts
 generalize hK : List.range s.m ++ (reachN look 64 (List.range s.m ++ ts.flatMap refs) []).filter (fun o => !decide (o < s.m)) = K
 have hnd : K.Nodup := by
  rw [← hK, List.nodup_append]
  refine ⟨List.nodup_range, (reachN_nodup _ _ _ _ (by simp)).filter _, fun a ha b hb => ?_⟩
  have h1 : a < s.m := by simpa using ha
  have h2 := (List.mem_filter.1 hb).2
  intro e
  subst e
  simp [h1] at h2
 have hKm : ∀ j, j < s.m → K[j]? = some j := fun j hj => by
  rw [← hK, List.getElem?_append_left (by simpa using hj)]
  simp [hj]
 generalize hsg : srcN K look (fun _ => 0) = sg
 have hnorm : normB keep s = ⟨ts.map (mapV (posIn K) sg), K.zipIdx.map fun p => (p.2, { mapOb (posIn K) sg (look p.1) with ver := 0 }), K.length, s.m⟩ := by
  unfold normB
  simp only [hlook, hts, hK, hsg]
 rw [hnorm]
 have hlk : ∀ j, lookIn (K.zipIdx.map fun p => (p.2, { mapOb (posIn K) sg (look p.1) with ver := 0 })) j = ((K[j]?).map fun o => { mapOb (posIn K) sg (look o) with ver := 0 }).getD .gone := fun j => lookIn_zip0 (fun o => { mapOb (posIn K) sg (look o) with ver := 0 }) K j
 generalize hl' : lookIn (K.zipIdx.map fun p => (p.2, { mapOb (posIn K) sg (look p.1) with ver := 0 })) = look' at hlk
 let g' : Nat → Option Nat := fun j => (K[j]?).bind g
 have hmo : ∀ o, (mapOb (posIn K) sg (look o)).alive = (look o).alive ∧ (mapOb (posIn K) sg (look o)).born = (look o).born ∧ (mapOb (posIn K) sg (look o)).may = (look o).may ∧ (mapOb (posIn K) sg (look o)).k = (look o).k := fun o => by
  unfold mapOb; cases (look o).row <;> exact ⟨rfl, rfl, rfl, rfl⟩
 have hat : ∀ j o, K[j]? = some o → look' j = { mapOb (posIn K) sg (look o) with ver := 0 } ∧ g' j = g o := fun j o hj => by
  rw [hlk j, hj]
  exact ⟨rfl, by simp [g', hj]⟩
 have hout : ∀ j, K[j]? = none → look' j = .gone := fun j hj => by rw [hlk j, hj]; rfl
 have halive : ∀ j, (look' j).alive = true → ∃ o, K[j]? = some o ∧ (look o).alive = true := fun j hj => by
  cases hk : K[j]? with
  | none => rw [hout j hk] at hj; cases hj
  | some o => rw [(hat j o hk).1] at hj; exact ⟨o, rfl, (hmo o).1.symm.trans hj⟩
 have hown : ∀ j, Own look' j → ∃ o, K[j]? = some o ∧ Own look o ∧ g' j = g o := fun j hj => by
  obtain ⟨o, h1, h2⟩ := halive j hj.1
  refine ⟨o, h1, ⟨h2, ?_⟩, (hat j o h1).2⟩
  have := hj.2
  rw [(hat j o h1).1] at this
  exact (hmo o).2.2.1.symm.trans this
 have hNN : ∀ b, NN cx w g look b → NN cx w g' look' b := fun b ⟨h1, h2, h3⟩ => ⟨h1, h2, fun j hj hg => by
  obtain ⟨o, _, h5, h6⟩ := hown j hj
  exact h3 o h5 (h6.symm.trans hg)⟩
 have E : Ren w g look (NN cx w g look) w g' look' (NN cx w g' look') (posIn K) sg := by
  refine ⟨fun o j hj hb => ?_, fun l l' hl hok => ?_⟩
  ·
   obtain ⟨h1, h2⟩ := hat j o (posIn_some hj)
   rw [h1, h2]
   refine ⟨(hmo o).2.1.trans hb, fun ha => ⟨(hmo o).1.symm.trans ha, (hmo o).2.2.2, rfl, fun _ _ => rfl⟩⟩
  ·
   rw [← hsg] at hl
   unfold srcN at hl
   split at hl
   ·
    rename_i hvb
    obtain rfl := Option.some.inj hl
    have hval : valid look l := fun p hp => by
     have := List.all_eq_true.1 hvb p hp
     simpa using this
    refine ⟨fun p hp => ?_, fun _ => ⟨hval, fun b hb => ⟨?_, rfl⟩⟩⟩
    ·
     obtain ⟨q, hq, hqp⟩ := List.mem_filterMap.1 hp
     simp only [Option.map_eq_some_iff] at hqp
     obtain ⟨j, hj, rfl⟩ := hqp
     rw [(hat j q.1 (posIn_some hj)).1]
     exact ⟨(hmo q.1).2.1.trans (hok q hq).1, Nat.zero_le _⟩
    ·
     rcases hb with hb | ⟨p, hp, hgb⟩
     · exact .inl (hNN b hb)
     ·
      cases hpos : posIn K p.1 with
      | some j => exact .inr ⟨(j, 0), List.mem_filterMap.2 ⟨p, hp, by simp [hpos]⟩, (hat j p.1 (posIn_some hpos)).2.trans hgb⟩
      | none =>
       left
       obtain ⟨h1, h2⟩ := R.blk p.1 b (hval p hp).1 hgb
       by_cases hm : (look p.1).may = true
       ·
        rw [if_pos hm] at h2
        refine ⟨h1, .inr h2, fun j hj hgj => ?_⟩
        obtain ⟨o, h5, h6, h7⟩ := hown j hj
        have := R.inj o p.1 b h6 ⟨(hval p hp).1, hm⟩ (h7.symm.trans hgj) hgb
        subst this
        exact posIn_none hpos (List.mem_of_getElem? h5)
       ·
        rw [if_neg hm] at h2
        exact hNN b h2
   · cases hl
 refine ⟨g', ?_, fun q hq => ?_, hcm⟩
 ·
  show Rel cx g' (ts.map (mapV (posIn K) sg)) (lookIn (K.zipIdx.map fun p => (p.2, { mapOb (posIn K) sg (look p.1) with ver := 0 }))) a w
  rw [hl']
  refine ⟨by rw [R.size, List.length_map, ← hts, pick_length], R.dfr, fun t x hx => ?_, fun j => ?_, fun j j' b h1 h2 h3 h4 => ?_, fun j b ha hgb => ?_, R.keep, R.hsz, R.os, R.tape, R.output, R.n0, R.lb, fun j hj => ?_⟩
  ·
   simp only [List.getElem?_map, Option.map_eq_some_iff] at hx
   obtain ⟨y, hy, rfl⟩ := hx
   rw [← hts] at hy
   exact (pick_ok R keep s.tmps 0 (fun q => a.tmps.getD q undef) R.tm t y hy).ren E
  ·
   cases hk : K[j]? with
   | none => intro ha; rw [hout j hk] at ha; cases ha
   | some o =>
    obtain ⟨h1, h2⟩ := hat j o hk
    refine RootV.ren E (R.rt o) { mapOb (posIn K) sg (look o) with ver := 0 } ?_ h1 h2 (fun _ _ => rfl) (fun _ _ _ _ _ _ _ v h => h.mono fun b hb => ⟨hNN b hb, rfl⟩)
    unfold mapOb
    cases (look o).row <;> rfl
  ·
   obtain ⟨o, a1, a2, a3⟩ := hown j h1
   obtain ⟨o', b1, b2, b3⟩ := hown j' h2
   have := R.inj o o' b a2 b2 (a3.symm.trans h3) (b3.symm.trans h4)
   subst this
   exact nodup_at hnd a1 b1
  ·
   obtain ⟨o, h1, h2⟩ := halive j ha
   obtain ⟨h3, h4⟩ := hat j o h1
   obtain ⟨h5, h6⟩ := R.blk o b h2 (h4.symm.trans hgb)
   refine ⟨h5, ?_⟩
   have hmay : (look' j).may = (look o).may := by rw [h3]; exact (hmo o).2.2.1
   rw [hmay]
   split
   · rename_i hm; rw [if_pos hm] at h6; exact h6
   · rename_i hm; rw [if_neg hm] at h6; exact hNN b h6
  ·
   obtain ⟨h1, h2⟩ := R.lent j hj
   obtain ⟨h3, h4⟩ := hat j j (hKm j (by rw [← hcm]; exact hj))
   rw [h3, h4]
   exact ⟨(hmo j).2.1.trans h1, fun ha => by
    obtain ⟨a1, a2, a3, a4⟩ := h2 ((hmo j).1.symm.trans ha)
    exact ⟨a1, (hmo j).2.2.2.trans a2, a3, a4⟩⟩
 ·
  show (lookIn (K.zipIdx.map fun p => (p.2, { mapOb (posIn K) sg (look p.1) with ver := 0 })) q).born = false
  rw [hl', hout q (List.getElem?_eq_none hq)]
  rfl
theorem fresh1_ok {s : St} (R : RelS cx g s a w) (q k : Nat) : ∃ g', RelS cx g' (fresh1 q k s) a w := by
 unfold fresh1
 split
 ·
  rename_i hq
  obtain ⟨R, hws, hm⟩ := R
  have hb := hws s.nx (Nat.le_refl _)
  have R1 := phantom_new R hb k none none
  have E := phantom_ext (w := w) (cx := cx) (g := g) hb k
  have hlk : lookIn (putAll s.store [(s.nx, Ob.mkRow k [])]) = up (lookIn s.store) s.nx (Ob.mkRow k []) := lookIn_putAll _ _
  have hv := R.tm q _ hq
  refine ⟨up g s.nx none, ?_, fun j hj => ?_, hm⟩
  ·
   show Rel cx _ (s.tmps.set q (.win s.nx 0 0)) (lookIn (putAll s.store [(s.nx, Ob.mkRow k [])])) a w
   rw [hlk]
   refine ⟨by rw [List.length_set]; exact R.size, R.dfr, fun t x hx => ?_, R1.rt, R1.inj, R1.blk, R1.keep, R1.hsz, R1.os, R1.tape, R1.output, R1.n0, R1.lb, R1.lent⟩
   by_cases ht : t = q
   ·
    subst ht
    have hlt : t < s.tmps.length := (List.getElem?_eq_some_iff.1 hq).1
    rw [List.getElem?_set_self hlt] at hx
    obtain rfl := Option.some.inj hx
    obtain ⟨ad, hh⟩ := hv
    rw [hh]
    refine ⟨by rw [up_same], ⟨_, _, rfl, Nat.le_refl _, .inl rfl⟩, fun _ => ⟨_, _, rfl, Nat.le_refl _, .inl rfl⟩⟩
   ·
    rw [List.getElem?_set_ne (Ne.symm ht)] at hx
    exact FrV.mono E (R.tm t x hx)
  ·
   show (lookIn (putAll s.store [(s.nx, Ob.mkRow k [])]) j).born = false
   rw [hlk, up_ne _ _ (by simp only at hj; omega)]
   exact hws j (by simp only at hj; omega)
 · exact ⟨g, R⟩
theorem freshR_ok : ∀ (l : List (Nat × Nat)) {s : St} {g : Nat → Option Nat}, RelS cx g s a w → ∃ g', RelS cx g' (freshR l s) a w
 | [], s, g, R => ⟨g, R⟩
 | (q, k) :: r, s, g, R => by
  simp only [freshR]
  split
  · exact freshR_ok r R
  ·
   obtain ⟨g1, R1⟩ := fresh1_ok R q (k - 2)
   exact freshR_ok r R1
theorem norm_ok {s : St} (R : RelS cx g s a w) (keep : List (Nat × Nat)) : ∃ g', RelS cx g' (normR keep s) a w := by
 obtain ⟨g1, R1⟩ := freshR_ok keep R
 exact normB_ok R1 _
end
end Go.Proofs.YtbfgmnjhikaagaaGreatDoor.PM
namespace Go.Proofs.YtbfgmnjhikaagaaGreatDoor.PM
open Go
section
variable {P : Program} {E : Env} {cx : Cx} {cert : FCert} {n : Nat}
def Does (P : Program) (E : Env) (cx : Cx) (cert : FCert) (n : Nat) (c : Code) : Prop :=
 ∀ (s s' : St) (ex : Ex) (g : Nat → Option Nat) (a : Act) (w : World), RelS cx g s a w → exec P E cert n c s = some (ex, s') → ∀ (Q : Exit → Act → World → Prop), (∀ g a w, RelS cx g s' a w → Q ex.to a w) → c.wp P Q a w
theorem least (p : Nat → Prop) (h : ∃ n, p n) : ∃ m, p m ∧ ∀ k, p k → m ≤ k := by
 obtain ⟨n, hn⟩ := h
 induction n using Nat.strongRecOn with
 | _ n ih =>
  by_cases hx : ∃ k, k < n ∧ p k
  ·
   obtain ⟨k, hk, hp⟩ := hx
   exact ih k hk hp
  · exact ⟨n, hn, fun k hp => Nat.le_of_not_lt fun hk => hx ⟨k, hk, hp⟩⟩
open Classical in
theorem loop_does {b : Code} (hb : Does P E cx cert n b) : Does P E cx cert n (.loop b) := by
 intro s s' ex g a w R h Q hQ
 simp only [exec] at h
 let I : Nat → Act → World → Prop := fun k a w => ∃ s g, RelS cx g s a w ∧ iter (exec P E cert n b) k s = some (ex, s')
 let μ : Act → World → Nat := fun a w => if h : ∃ k, I k a w then Classical.choose (least (fun k => I k a w) h) else 0
 refine wp_loop (fun a w => ∃ k, I k a w) μ ⟨n, s, g, R, h⟩ (fun a w hI => ?_)
 have hμ : I (μ a w) a w := by
  show I (if h : ∃ k, I k a w then Classical.choose (least (fun k => I k a w) h) else 0) a w
  rw [dif_pos hI]
  exact (Classical.choose_spec (least (fun k => I k a w) hI)).1
 generalize hk : μ a w = k at hμ ⊢
 obtain ⟨s1, g1, R1, h1⟩ := hμ
 cases k with
 | zero => simp only [iter] at h1; cases h1
 | succ k =>
  simp only [iter] at h1
  split at h1
  ·
   rename_i s2 h2
   refine hb s1 s2 .normal g1 a w R1 h2 _ (fun g' a' w' R' => ?_)
   show (∃ k, I k a' w') ∧ μ a' w' < k + 1
   have hI' : I k a' w' := ⟨s2, g', R', h1⟩
   refine ⟨⟨k, hI'⟩, ?_⟩
   have : μ a' w' ≤ k := by
    show (if h : ∃ k, I k a' w' then Classical.choose (least (fun k => I k a' w') h) else 0) ≤ k
    rw [dif_pos ⟨k, hI'⟩]
    exact (Classical.choose_spec (least (fun k => I k a' w') ⟨k, hI'⟩)).2 k hI'
   omega
  ·
   rename_i hne
   have hx : ex ≠ .normal := fun e => by subst e; exact hne s' h1
   refine hb s1 s' ex g1 a w R1 h1 _ (fun g' a' w' R' => ?_)
   cases ex with
   | normal => exact absurd rfl hx
   | exit id => exact hQ g' a' w' R'
   | ret => exact hQ g' a' w' R'
theorem exec_does (hE : EnvOk P E cx) (hm : P.follows .mixedOrders = true) : ∀ c, okCode cert c = true → Does P E cx cert n c := by
 intro c hoc
 induction c with
 | skip =>
  intro s s' ex g a w R h Q hQ
  simp only [exec, Option.some.injEq, Prod.mk.injEq] at h
  obtain ⟨rfl, rfl⟩ := h
  exact wp_skip (hQ g a w R)
 | region id ops draw =>
  intro s s' ex g a w R h Q hQ
  simp only [exec, Option.map_eq_some_iff] at h
  obtain ⟨s1, h1, h2⟩ := h
  obtain ⟨rfl, rfl⟩ := Prod.mk.inj h2
  have hok : draw = true → okOps ops = true ∧ okPreds (cert.predsOf id) (predsR ops.toList []) = true := fun hd => by
   simp only [okCode, hd, Bool.not_true, Bool.false_or, Bool.and_eq_true] at hoc
   exact hoc
  cases hc : findK cert.keep id with
  | none =>
   rw [hc] at h1
   exact region_wp hE hm hok R h1 hQ
  | some k =>
   rw [hc] at h1
   obtain ⟨g', R'⟩ := norm_ok R k
   exact region_wp hE hm hok R' h1 hQ
 | seq x y ihx ihy =>
  simp only [okCode, Bool.and_eq_true] at hoc
  have ihx := ihx hoc.1
  have ihy := ihy hoc.2
  intro s s' ex g a w R h Q hQ
  simp only [exec] at h
  refine wp_seq ?_
  split at h
  ·
   rename_i s1 h1
   refine ihx s s1 .normal g a w R h1 _ (fun g' a' w' R' => ?_)
   exact ihy s1 s' ex g' a' w' R' h Q hQ
  ·
   rename_i hne
   have hx : ex ≠ .normal := fun e => by subst e; exact hne s' h
   refine ihx s s' ex g a w R h _ (fun g' a' w' R' => ?_)
   cases ex with
   | normal => exact absurd rfl hx
   | exit id => exact hQ g' a' w' R'
   | ret => exact hQ g' a' w' R'
 | cond c x y ihx ihy =>
  simp only [okCode, Bool.and_eq_true] at hoc
  have ihx := ihx hoc.1
  have ihy := ihy hoc.2
  intro s s' ex g a w R h Q hQ
  simp only [exec] at h
  split at h
  ·
   rename_i t ht
   have hc := eval_ok R.1 c
   rw [ht] at hc
   obtain ⟨hc, _⟩ := frV_sc hc
   refine wp_cond hc ?_
   cases t with
   | true => exact ihx s s' ex g a w R (by simpa using h) Q hQ
   | false => exact ihy s s' ex g a w R (by simpa using h) Q hQ
  · cases h
 | block id b ih =>
  have ih := ih hoc
  intro s s' ex g a w R h Q hQ
  simp only [exec] at h
  refine wp_block ?_
  split at h
  ·
   rename_i j s1 h1
   simp only [Option.some.injEq, Prod.mk.injEq] at h
   obtain ⟨rfl, rfl⟩ := h
   refine ih s s1 (.exit j) g a w R h1 _ (fun g' a' w' R' => ?_)
   have := hQ g' a' w' R'
   show if j = id then Q .normal a' w' else Q (.exit j) a' w'
   split
   · rename_i he; rw [if_pos he] at this; exact this
   · rename_i he; rw [if_neg he] at this; exact this
  ·
   rename_i hne
   have hx : ∀ j, ex ≠ .exit j := fun j e => by subst e; exact hne j s' h
   refine ih s s' ex g a w R h _ (fun g' a' w' R' => ?_)
   cases ex with
   | normal => exact hQ g' a' w' R'
   | exit j => exact absurd rfl (hx j)
   | ret => exact hQ g' a' w' R'
 | loop b ih => exact loop_does (ih hoc)
 | exit id =>
  intro s s' ex g a w R h Q hQ
  simp only [exec, Option.some.injEq, Prod.mk.injEq] at h
  obtain ⟨rfl, rfl⟩ := h
  exact wp_exit (hQ g a w R)
 | ret =>
  intro s s' ex g a w R h Q hQ
  simp only [exec, Option.some.injEq, Prod.mk.injEq] at h
  obtain ⟨rfl, rfl⟩ := h
  exact wp_ret (hQ g a w R)
 | _ =>
  intro s s' ex g a w R h Q hQ
  simp only [exec] at h
  cases h
end
end Go.Proofs.YtbfgmnjhikaagaaGreatDoor.PM
namespace Go.Proofs.YtbfgmnjhikaagaaGreatDoor.PM
open Go
abbrev lookOf (objs : List Ob) (j : Nat) : Ob := (objs[j]?).getD .gone
structure Ent (w : World) (g : Nat → Option Nat) (N : Nat → Prop) (objs : List Ob) (args : List T) (vs : Array Value) : Prop where
 size : vs.size = args.length
 args : ∀ (i : Nat) t, args[i]? = some t → ∃ v, vs[i]? = some v ∧ FrV w g (lookOf objs) N v t
 born : ∀ j, j < objs.length → (lookOf objs j).born = true
 rt : ∀ o, RootV w g (lookOf objs) N o
 inj : ∀ o o' b, Own (lookOf objs) o → Own (lookOf objs) o' → g o = some b → g o' = some b → o = o'
 blk : ∀ o b, (lookOf objs o).alive = true → g o = some b → b < w.heap.size ∧ if (lookOf objs o).may then ¬ N b else N b
 n : ∀ b, N b → b < w.heap.size
def cxOf (w : World) (g : Nat → Option Nat) (N : Nat → Prop) (objs : List Ob) : Cx :=
 ⟨w, N, fun b => ∃ o, Own (lookOf objs) o ∧ g o = some b, g, lookOf objs, objs.length⟩
structure Exi (w : World) (g : Nat → Option Nat) (N : Nat → Prop) (objs : List Ob) (w' : World) (g' : Nat → Option Nat) (objs' : List Ob) (v : Value) (r : T) : Prop where
 val : FrV w' g' (lookOf objs') (NN (cxOf w g N objs) w' g' (lookOf objs')) v r
 rt : ∀ o, RootV w' g' (lookOf objs') (NN (cxOf w g N objs) w' g' (lookOf objs')) o
 inj : ∀ o o' b, Own (lookOf objs') o → Own (lookOf objs') o' → g' o = some b → g' o' = some b → o = o'
 blk : ∀ o b, (lookOf objs' o).alive = true → g' o = some b → b < w'.heap.size ∧ if (lookOf objs' o).may then w.heap.size ≤ b ∨ ∃ o, Own (lookOf objs) o ∧ g o = some b else NN (cxOf w g N objs) w' g' (lookOf objs') b
 keep : ∀ b, b < w.heap.size → (¬ ∃ o, Own (lookOf objs) o ∧ g o = some b) → w'.heap[b]? = w.heap[b]?
 hsz : w.heap.size ≤ w'.heap.size
 os : w'.os = w.os
 tape : w'.tape = w.tape
 output : w'.output = w.output
 lent : ∀ j, j < objs.length → (lookOf objs' j).born = true ∧ ((lookOf objs' j).alive = true → (lookOf objs j).alive = true ∧ (lookOf objs' j).k = (lookOf objs j).k ∧ g' j = g j ∧ ∀ b, g j = some b → csz w' b = csz w b)
def CallOk (P : Program) (f : FuncId) (args : List T) (objs : List Ob) (r : T) (objs' : List Ob) : Prop :=
 ∀ (w : World) (g : Nat → Option Nat) (N : Nat → Prop) (vs : Array Value), Ent w g N objs args vs → GlobOk P w N → Calls P f vs w fun e w' => ∃ v g', e = .returned v ∧ Exi w g N objs w' g' objs' v r
def FnOk (P : Program) (f : FuncId) : Prop := ∃ fn, P.funcs[f]? = some fn ∧ (fn.name == "runtime.NumGoroutine") = false ∧ fn.body.isNone = false
def CallsOk (P : Program) (E : Env) : Prop := ∀ f args objs r objs', E.call f args objs = some (r, objs') → FnOk P f ∧ CallOk P f args objs r objs'
section
variable {cx : Cx} {w : World} {g : Nat → Option Nat} {look : Nat → Ob} {tmps : List T} {a : Act}
def Nx (N : Nat → Prop) (g : Nat → Option Nat) (S : List (Nat × Nat)) (b : Nat) : Prop := N b ∨ ∃ p ∈ S, g p.1 = some b
theorem FrC.nosrc {N N' : Nat → Prop} {v : Value} {t : T} (h : FrC w g look N v t) (ht : ∀ xs src, t ≠ .sl xs src) (ht' : ∀ x j src, t ≠ .rp x j src) : FrC w g look N' v t := by
 cases t with
 | sl xs src => exact absurd rfl (ht xs src)
 | rp x j src => exact absurd rfl (ht' x j src)
 | _ => exact h
theorem pass1_ok (R : Rel cx g tmps look a w) {lent : Bool} {v : Value} {t t' : T} {S : List (Nat × Nat)} {l : List Nat} (hv : FrC w g look (NN cx w g look) v t) (h : (pass1 lent t).run look = some ((t', S), l)) :
 valid look S ∧ okSrc look S ∧ ∀ S', (∀ p ∈ S, p ∈ S') → FrC w g look (Nx (NN cx w g look) g S') v t' := by
 have h0 : valid look ([] : List (Nat × Nat)) ∧ okSrc look [] := ⟨fun p hp => by simp at hp, okSrc_nil⟩
 have hview : ∀ {t : T}, FrC w g look (NN cx w g look) v t → (do match ← view1 t with
  | .sl xs src => pure (.sl xs [], src)
  | t => pure (t, []) : Rd (T × List (Nat × Nat))).run look = some ((t', S), l) → valid look S ∧ okSrc look S ∧ ∀ S', (∀ p ∈ S, p ∈ S') → FrC w g look (Nx (NN cx w g look) g S') v t' := by
  intro t hv h
  simp only [bind_some] at h
  obtain ⟨z, _, _, h1, h2, _⟩ := h
  obtain ⟨h3, h4⟩ := view1_ok R hv h1
  rcases h4 with ⟨u, rfl⟩ | ⟨xs, src, rfl, hvl⟩
  ·
   simp only [pure_some, Prod.mk.injEq] at h2
   obtain ⟨⟨rfl, rfl⟩, _⟩ := h2
   exact ⟨h0.1, h0.2, fun S' _ => h3⟩
  ·
   simp only [pure_some, Prod.mk.injEq] at h2
   obtain ⟨⟨rfl, rfl⟩, _⟩ := h2
   refine ⟨hvl, h3.2.1, fun S' hS => ⟨h3.1, okSrc_nil, fun _ => (h3.2.2 hvl).mono fun b hb => ⟨.inl ?_, rfl⟩⟩⟩
   rcases hb with hb | ⟨p, hp, hgb⟩
   · exact .inl hb
   · exact .inr ⟨p, hS p hp, hgb⟩
 have hret : ∀ {t : T}, FrC w g look (NN cx w g look) v t → (∀ xs src, t ≠ .sl xs src) → (∀ x j src, t ≠ .rp x j src) → (Rd.ret (t, ([] : List (Nat × Nat)))).run look = some ((t', S), l) → valid look S ∧ okSrc look S ∧ ∀ S', (∀ p ∈ S, p ∈ S') → FrC w g look (Nx (NN cx w g look) g S') v t' := by
  intro t hv h1 h2 h
  simp only [ret_some, Prod.mk.injEq] at h
  obtain ⟨⟨rfl, rfl⟩, _⟩ := h
  exact ⟨h0.1, h0.2, fun S' _ => hv.nosrc h1 h2⟩
 cases t with
 | ptr o i j => cases lent <;> exact hret hv (fun _ _ h => by cases h) (fun _ _ _ h => by cases h) h
 | fn f caps =>
  have h' : (do guardR (caps.all fun c => match c with | .ptr .. => true | _ => false); pure (.fn f caps, []) : Rd (T × List (Nat × Nat))).run look = some ((t', S), l) := by cases lent <;> exact h
  simp only [bind_some, guard_some, pure_some, Prod.mk.injEq] at h'
  obtain ⟨_, _, _, _, ⟨⟨rfl, rfl⟩, _⟩, _⟩ := h'
  exact ⟨h0.1, h0.2, fun S' _ => hv⟩
 | win o off len =>
  cases lent with
  | true => exact hret hv (fun _ _ h => by cases h) (fun _ _ _ h => by cases h) h
  | false => exact hview hv h
 | nil =>
  cases lent with
  | true => exact hret hv (fun _ _ h => by cases h) (fun _ _ _ h => by cases h) h
  | false => exact hview hv h
 | dead =>
  cases lent with
  | true => exact hret hv (fun _ _ h => by cases h) (fun _ _ _ h => by cases h) h
  | false => exact hview hv h
 | sc u => cases lent <;> exact hview hv h
 | ifc b => cases lent <;> exact hview hv h
 | sl xs src => cases lent <;> exact hview hv h
 | rp x j src => cases lent <;> exact hview hv h
 | agg cs => exact hv.elim
 | tup cs => exact hv.elim
theorem passT_cells {lent : Bool} {t t' : T} {S : List (Nat × Nat)} {l : List Nat} (h : (passT lent t).run look = some ((t', S), l)) (ht : ∀ cs, t ≠ .tup cs) :
 ((∃ cs cs', t = .agg cs ∧ t' = .agg cs') ∨ ((∀ cs, t ≠ .agg cs) ∧ ∃ l', (pass1 lent t).run look = some ((t', S), l'))) ∧
 (∀ cs, t = .agg cs → t'.cells.length = cs.length ∧ ∀ (j : Nat) c', t'.cells[j]? = some c' → ∃ c Sc l', cs[j]? = some c ∧ (pass1 lent c).run look = some ((c', Sc), l') ∧ ∀ p ∈ Sc, p ∈ S) := by
 by_cases hc : ∃ cs, t = .agg cs
 ·
  obtain ⟨cs, rfl⟩ := hc
  simp only [passT, bind_some, pure_some, Prod.mk.injEq] at h
  obtain ⟨ps, _, _, h1, ⟨⟨rfl, rfl⟩, _⟩, _⟩ := h
  obtain ⟨h2, h3⟩ := mapR_some h1
  refine ⟨.inl ⟨cs, _, rfl, rfl⟩, fun cs' he => ?_⟩
  obtain rfl := T.agg.inj he
  refine ⟨by simp [T.cells, h2], fun j c' hj => ?_⟩
  simp only [T.cells, List.getElem?_map, Option.map_eq_some_iff] at hj
  obtain ⟨p, hp, rfl⟩ := hj
  have hlt : j < cs.length := by have := (List.getElem?_eq_some_iff.1 hp).1; omega
  obtain ⟨y, l', h4, h5⟩ := h3 j _ (List.getElem?_eq_getElem hlt)
  rw [hp] at h4
  obtain rfl := Option.some.inj h4
  exact ⟨cs[j], p.2, l', List.getElem?_eq_getElem hlt, h5, fun q hq => List.mem_flatMap.2 ⟨p, List.mem_of_getElem? hp, hq⟩⟩
 ·
  have h' : (pass1 lent t).run look = some ((t', S), l) := by cases t <;> first | exact h | exact absurd ⟨_, rfl⟩ hc
  exact ⟨.inr ⟨fun cs e => hc ⟨cs, e⟩, l, h'⟩, fun cs e => absurd ⟨cs, e⟩ hc⟩
theorem passT_ok (R : Rel cx g tmps look a w) {lent : Bool} {v : Value} {t t' : T} {S : List (Nat × Nat)} {l : List Nat} (hv : FrV w g look (NN cx w g look) v t) (h : (passT lent t).run look = some ((t', S), l)) :
 (valid look S ∧ okSrc look S) ∧ ∀ S', (∀ p ∈ S, p ∈ S') → FrV w g look (Nx (NN cx w g look) g S') v t' := by
 have htup : ∀ cs, t ≠ .tup cs := fun cs e => by
  subst e
  cases lent <;> simp only [passT, pass1, view1, bind_some, fail_some, false_and, exists_false] at h
 by_cases hc : ∃ cs, t = .agg cs
 ·
  obtain ⟨cs, rfl⟩ := hc
  obtain ⟨vs, rfl, h1, h2⟩ := hv
  have hcells := (passT_cells h htup).2 cs rfl
  simp only [passT, bind_some, pure_some, Prod.mk.injEq] at h
  obtain ⟨ps, _, _, h3, ⟨⟨rfl, rfl⟩, _⟩, _⟩ := h
  obtain ⟨h4, h5⟩ := mapR_some h3
  have each : ∀ (j : Nat) p, ps[j]? = some p → ∃ u, vs[j]? = some u ∧ valid look p.2 ∧ okSrc look p.2 ∧ ∀ S', (∀ q ∈ p.2, q ∈ S') → FrC w g look (Nx (NN cx w g look) g S') u p.1 := fun j p hp => by
   have hlt : j < cs.length := by have := (List.getElem?_eq_some_iff.1 hp).1; omega
   obtain ⟨y, l', h6, h7⟩ := h5 j _ (List.getElem?_eq_getElem hlt)
   rw [hp] at h6
   obtain rfl := Option.some.inj h6
   obtain ⟨u, h8, h9⟩ := h2 j _ (List.getElem?_eq_getElem hlt)
   obtain ⟨b1, b2, b3⟩ := pass1_ok R (t' := p.1) (S := p.2) h9 h7
   exact ⟨u, h8, b1, b2, b3⟩
  refine ⟨⟨fun q hq => ?_, fun q hq => ?_⟩, fun S' hS => ⟨vs, rfl, by simp [h1, h4], fun j c hj => ?_⟩⟩
  ·
   obtain ⟨p, hp, hqp⟩ := List.mem_flatMap.1 hq
   obtain ⟨j, hj, rfl⟩ := List.getElem_of_mem hp
   obtain ⟨_, _, b1, _⟩ := each j _ (List.getElem?_eq_getElem hj)
   exact b1 q hqp
  ·
   obtain ⟨p, hp, hqp⟩ := List.mem_flatMap.1 hq
   obtain ⟨j, hj, rfl⟩ := List.getElem_of_mem hp
   obtain ⟨_, _, _, b1, _⟩ := each j _ (List.getElem?_eq_getElem hj)
   exact b1 q hqp
  ·
   simp only [List.getElem?_map, Option.map_eq_some_iff] at hj
   obtain ⟨p, hp, rfl⟩ := hj
   obtain ⟨u, h8, _, _, h9⟩ := each j p hp
   exact ⟨u, h8, h9 S' fun q hq => hS q (List.mem_flatMap.2 ⟨p, List.mem_of_getElem? hp, hq⟩)⟩
 ·
  have h' : (pass1 lent t).run look = some ((t', S), l) := by cases t <;> first | exact h | exact absurd ⟨_, rfl⟩ hc
  have hf : FrC w g look (NN cx w g look) v t := by
   rw [frV_eq htup, frA_eq fun cs e => hc ⟨cs, e⟩] at hv; exact hv
  obtain ⟨b1, b2, b3⟩ := pass1_ok R hf h'
  refine ⟨⟨b1, b2⟩, fun S' hS => ?_⟩
  have := b3 S' hS
  rw [frV_eq (by rintro cs rfl; exact this), frA_eq (by rintro cs rfl; exact this)]
  exact this
theorem passAll_ok (R : Rel cx g tmps look a w) : ∀ {ls : List Bool} {ts : List T} {aas : List (T × List (Nat × Nat))} {l : List Nat} {vs : Nat → Value}, (passAll ls ts).run look = some (aas, l) → (∀ (i : Nat) t, ts[i]? = some t → FrV w g look (NN cx w g look) (vs i) t) →
 aas.length = ts.length ∧ ∀ (i : Nat) p, aas[i]? = some p → (valid look p.2 ∧ okSrc look p.2) ∧ ∀ S', (∀ q ∈ p.2, q ∈ S') → FrV w g look (Nx (NN cx w g look) g S') (vs i) p.1
 | ls, [], aas, l, vs, h, _ => by
  cases ls <;> (simp only [passAll, ret_some] at h; obtain ⟨rfl, _⟩ := h; exact ⟨rfl, fun i p hp => by simp at hp⟩)
 | ls, t :: r, aas, l, vs, h, hv => by
  have h' : (do let a ← passT (ls.headD false) t; let s ← passAll ls.tail r; pure (a :: s) : Rd (List (T × List (Nat × Nat)))).run look = some (aas, l) := by cases ls <;> exact h
  simp only [bind_some, pure_some] at h'
  obtain ⟨p, _, _, h1, ⟨s, _, _, h2, ⟨rfl, _⟩, _⟩, _⟩ := h'
  obtain ⟨h3, h4⟩ := passAll_ok R (vs := fun i => vs (i + 1)) h2 (fun i t ht => hv (i + 1) t ht)
  refine ⟨by simp [h3], fun i q hq => ?_⟩
  cases i with
  | zero =>
   simp only [List.getElem?_cons_zero, Option.some.injEq] at hq
   subst hq
   exact passT_ok R (t' := p.1) (S := p.2) (hv 0 t rfl) h1
  | succ i => exact h4 i q (by simpa using hq)
structure Reached (look : Nat → Ob) (done : List (Nat × Ob)) (vs : List (Nat × Nat)) : Prop where
 nd : (done.map (·.1)).Nodup
 each : ∀ p ∈ done, (look p.1).alive = true ∧ ∃ S l, (passOb (look p.1)).run look = some ((p.2, S), l) ∧ ∀ q ∈ S, q ∈ vs
 src : ∀ q ∈ vs, ∃ p ∈ done, ∃ S l, (passOb (look p.1)).run look = some ((p.2, S), l) ∧ q ∈ S
theorem reach_ok : ∀ (n : Nat) (todo : List Nat) (done : List (Nat × Ob)) (vs : List (Nat × Nat)) (r : List (Nat × Ob) × List (Nat × Nat)) (l : List Nat), Reached look done vs → (reach n todo done vs).run look = some (r, l) → Reached look r.1 r.2
 | n, [], done, vs, r, l, hR, h => by
  have h' : (Rd.ret (done, vs)).run look = some (r, l) := by cases n <;> exact h
  simp only [ret_some] at h'
  obtain ⟨rfl, _⟩ := h'
  exact hR
 | 0, o :: todo, done, vs, r, l, hR, h => by simp only [reach, fail_some] at h
 | n + 1, o :: todo, done, vs, r, l, hR, h => by
  simp only [reach] at h
  split at h
  · exact reach_ok n todo done vs r l hR h
  ·
   rename_i hno
   simp only [bind_some, obj_some, guard_some] at h
   obtain ⟨x, _, _, ⟨rfl, _⟩, ⟨_, _, _, ⟨ha, _⟩, ⟨y, _, l3, h1, h2, _⟩, _⟩, _⟩ := h
   refine reach_ok n _ _ _ r _ ⟨?_, ?_, ?_⟩ h2
   ·
    rw [List.map_append, List.nodup_append]
    refine ⟨hR.nd, by simp, fun p hp q hq => ?_⟩
    simp only [List.map_cons, List.map_nil, List.mem_singleton] at hq
    subst hq
    intro e
    subst e
    obtain ⟨z, hz, rfl⟩ := List.mem_map.1 hp
    exact hno (List.any_eq_true.2 ⟨z, hz, by simp⟩)
   ·
    intro p hp
    rcases List.mem_append.1 hp with hp | hp
    ·
     obtain ⟨b1, S, l, b2, b3⟩ := hR.each p hp
     exact ⟨b1, S, l, b2, fun q hq => List.mem_append_left _ (b3 q hq)⟩
    ·
     simp only [List.mem_singleton] at hp
     subst hp
     exact ⟨ha, y.2, _, h1, fun q hq => List.mem_append_right _ hq⟩
   ·
    intro q hq
    rcases List.mem_append.1 hq with hq | hq
    ·
     obtain ⟨p, hp, S, l, b1, b2⟩ := hR.src q hq
     exact ⟨p, List.mem_append_left _ hp, S, l, b1, b2⟩
    · exact ⟨(o, y.1), by simp, y.2, _, h1, hq⟩
end
end Go.Proofs.YtbfgmnjhikaagaaGreatDoor.PM
namespace Go.Proofs.YtbfgmnjhikaagaaGreatDoor.PM
open Go
section
variable {cx : Cx} {w : World} {g : Nat → Option Nat} {look : Nat → Ob} {tmps : List T} {a : Act}
theorem passOb_same {x y : Ob} {S : List (Nat × Nat)} {l : List Nat} (h : (passOb x).run look = some ((y, S), l)) : y.born = x.born ∧ y.alive = x.alive ∧ y.may = x.may ∧ y.row = x.row ∧ y.k = x.k ∧ y.ver = x.ver ∧ (x.row = true → y = x ∧ S = []) := by
 unfold passOb at h
 split at h
 ·
  rename_i hr
  simp only [ret_some, Prod.mk.injEq] at h
  obtain ⟨⟨rfl, rfl⟩, _⟩ := h
  exact ⟨rfl, rfl, rfl, rfl, rfl, rfl, fun _ => ⟨rfl, rfl⟩⟩
 ·
  rename_i hr
  simp only [bind_some, pure_some, Prod.mk.injEq] at h
  obtain ⟨ps, _, _, _, ⟨⟨rfl, rfl⟩, _⟩, _⟩ := h
  exact ⟨rfl, rfl, rfl, rfl, rfl, rfl, fun h => absurd h hr⟩
theorem passOb_cells (R : Rel cx g tmps look a w) {o : Nat} {y : Ob} {S : List (Nat × Nat)} {l : List Nat} (h : (passOb (look o)).run look = some ((y, S), l)) (ha : (look o).alive = true) (hr : (look o).row = false) :
 (valid look S ∧ okSrc look S) ∧ ∀ (i : Nat) z, y.xs[i]? = some z → ∃ x, (look o).xs[i]? = some x ∧ z.cells.length = x.cells.length ∧
  ∀ S', (∀ p ∈ S, p ∈ S') → ∀ (j : Nat) c', z.cells[j]? = some c' → ∃ c, x.cells[j]? = some c ∧ ∀ v, FrC w g look (NN cx w g look) v c → FrC w g look (Nx (NN cx w g look) g S') v c' := by
 unfold passOb at h
 rw [hr] at h
 simp only [Bool.false_eq_true, if_false, bind_some, pure_some, Prod.mk.injEq] at h
 obtain ⟨ps, _, _, h1, ⟨⟨rfl, rfl⟩, _⟩, _⟩ := h
 obtain ⟨h2, h3⟩ := mapR_some h1
 have hat : ∀ (i : Nat) p, ps[i]? = some p → ∃ x l', (look o).xs[i]? = some x ∧ (passT true x).run look = some (p, l') := fun i p hp => by
  have hlt : i < (look o).xs.length := by have := (List.getElem?_eq_some_iff.1 hp).1; omega
  obtain ⟨y, l', h4, h5⟩ := h3 i _ (List.getElem?_eq_getElem hlt)
  rw [hp] at h4
  obtain rfl := Option.some.inj h4
  exact ⟨_, l', List.getElem?_eq_getElem hlt, h5⟩
 have hbox : ∀ (i : Nat) x, (look o).xs[i]? = some x → ∃ vs : Array Value, ∀ (j : Nat) c, x.cells[j]? = some c → ∃ u, vs[j]? = some u ∧ FrC w g look (NN cx w g look) u c := fun i x hx => by
  obtain ⟨b, _, _, hc⟩ := root_cells R ha hx
  refine ⟨((List.range x.cells.length).map fun j => (w.cell? ⟨b, i * (look o).k + j, none⟩).getD undef).toArray, fun j c hj => ?_⟩
  obtain ⟨u, h5, h6⟩ := hc j c hj
  have hlt := (List.getElem?_eq_some_iff.1 hj).1
  exact ⟨u, by simp [hlt, h5], h6.fr.1⟩
 have hsrc : ∀ (i : Nat) p, ps[i]? = some p → valid look p.2 ∧ okSrc look p.2 := fun i p hp => by
  obtain ⟨x, l', h4, h5⟩ := hat i p hp
  obtain ⟨vs, hvs⟩ := hbox i x h4
  by_cases hc : ∃ cs, x = .agg cs
  ·
   obtain ⟨cs, rfl⟩ := hc
   simp only [passT, bind_some, pure_some] at h5
   obtain ⟨qs, _, _, h6, ⟨rfl, _⟩, _⟩ := h5
   obtain ⟨h7, h8⟩ := mapR_some h6
   have each : ∀ q ∈ qs, valid look q.2 ∧ okSrc look q.2 := fun q hq => by
    obtain ⟨j, hj, rfl⟩ := List.getElem_of_mem hq
    obtain ⟨y, l'', h9, h10⟩ := h8 j _ (List.getElem?_eq_getElem (by omega))
    rw [List.getElem?_eq_getElem hj] at h9
    obtain rfl := Option.some.inj h9
    obtain ⟨u, _, h11⟩ := hvs j _ (List.getElem?_eq_getElem (l := cs) (by omega))
    obtain ⟨b1, b2, _⟩ := pass1_ok R (t' := qs[j].1) (S := qs[j].2) h11 h10
    exact ⟨b1, b2⟩
   refine ⟨fun q hq => ?_, fun q hq => ?_⟩
   ·
    obtain ⟨z, hz, hqz⟩ := List.mem_flatMap.1 hq
    exact (each z hz).1 q hqz
   ·
    obtain ⟨z, hz, hqz⟩ := List.mem_flatMap.1 hq
    exact (each z hz).2 q hqz
  ·
   have h' : (pass1 true x).run look = some (p, l') := by cases x <;> first | exact h5 | exact absurd ⟨_, rfl⟩ hc
   have hx1 : x.cells = [x] := by cases x <;> first | rfl | exact absurd ⟨_, rfl⟩ hc
   obtain ⟨u, _, h11⟩ := hvs 0 x (by rw [hx1]; rfl)
   obtain ⟨b1, b2, _⟩ := pass1_ok R (t' := p.1) (S := p.2) h11 h'
   exact ⟨b1, b2⟩
 refine ⟨⟨fun q hq => ?_, fun q hq => ?_⟩, fun i z hz => ?_⟩
 ·
  obtain ⟨p, hp, hqp⟩ := List.mem_flatMap.1 hq
  obtain ⟨i, hi, rfl⟩ := List.getElem_of_mem hp
  exact (hsrc i _ (List.getElem?_eq_getElem hi)).1 q hqp
 ·
  obtain ⟨p, hp, hqp⟩ := List.mem_flatMap.1 hq
  obtain ⟨i, hi, rfl⟩ := List.getElem_of_mem hp
  exact (hsrc i _ (List.getElem?_eq_getElem hi)).2 q hqp
 ·
  have hz' : (ps.map (·.1))[i]? = some z := hz
  simp only [List.getElem?_map, Option.map_eq_some_iff] at hz'
  obtain ⟨p, hp, rfl⟩ := hz'
  obtain ⟨x, l', h4, h5⟩ := hat i p hp
  obtain ⟨vs, hvs⟩ := hbox i x h4
  have hps : ∀ q ∈ p.2, q ∈ ps.flatMap (·.2) := fun q hq => List.mem_flatMap.2 ⟨p, List.mem_of_getElem? hp, hq⟩
  refine ⟨x, h4, ?_⟩
  by_cases hc : ∃ cs, x = .agg cs
  ·
   obtain ⟨cs, rfl⟩ := hc
   obtain ⟨b1, b2⟩ := (passT_cells (t' := p.1) (S := p.2) h5 (fun _ h => by cases h)).2 cs rfl
   refine ⟨b1, fun S' hS j c' hj => ?_⟩
   obtain ⟨c, Sc, l'', b3, b4, b5⟩ := b2 j c' hj
   exact ⟨c, b3, fun v hv => (pass1_ok R hv b4).2.2 S' fun q hq => hS q (hps q (b5 q hq))⟩
  ·
   have h' : (pass1 true x).run look = some (p, l') := by cases x <;> first | exact h5 | exact absurd ⟨_, rfl⟩ hc
   have hx1 : x.cells = [x] := by cases x <;> first | rfl | exact absurd ⟨_, rfl⟩ hc
   have hp1 : p.1.cells = [p.1] := by
    obtain ⟨u, _, h11⟩ := hvs 0 x (by rw [hx1]; rfl)
    have := (pass1_ok R (t' := p.1) (S := p.2) h11 h').2.2 p.2 (fun q hq => hq)
    cases hpp : p.1 with
    | agg cs => rw [hpp] at this; exact this.elim
    | _ => rfl
   rw [hx1, hp1]
   refine ⟨rfl, fun S' hS j c' hj => ?_⟩
   cases j with
   | zero =>
    simp only [List.getElem?_cons_zero, Option.some.injEq] at hj
    subst hj
    exact ⟨x, rfl, fun v hv => (pass1_ok R (t' := p.1) (S := p.2) hv h').2.2 S' fun q hq => hS q (hps q hq)⟩
   | succ j => simp at hj
theorem ren_there {N : Nat → Prop} {L : List Nat} {objs : List Ob} (hlen : objs.length = L.length) (hob : ∀ (j o : Nat), L[j]? = some o → (lookOf objs j).born = (look o).born ∧ (lookOf objs j).alive = (look o).alive ∧ (lookOf objs j).k = (look o).k) :
 Ren w g look N w (fun j => (L[j]?).bind g) (lookOf objs) N (posIn L) noSrc := by
 refine ⟨fun o j hj hb => ?_, fun l l' hl hok => ?_⟩
 ·
  have h1 := posIn_some hj
  obtain ⟨b1, b2, b3⟩ := hob j o h1
  refine ⟨b1.trans hb, fun ha => ⟨b2.symm.trans ha, b3, by simp [h1], fun _ _ => rfl⟩⟩
 ·
  unfold noSrc at hl
  split at hl
  ·
   rename_i he
   obtain rfl := Option.some.inj hl
   have : l = [] := by simpa using he
   subst this
   refine ⟨okSrc_nil, fun _ => ⟨fun p hp => by simp at hp, fun b hb => ⟨.inl (srcA_nil.1 hb), rfl⟩⟩⟩
  · cases hl
theorem call_ent (R : Rel cx g tmps look a w) {args : List T} {aas : List (T × List (Nat × Nat))} {lv : List (Nat × Ob) × List (Nat × Nat)} {lent : List Bool} {l₁ l₂ : List Nat} {vs : Array Value} (hvs : vs.size = args.length) (hv : ∀ (i : Nat) t, args[i]? = some t → ∃ v, vs[i]? = some v ∧ FrV w g look (NN cx w g look) v t)
 (h1 : (passAll lent args).run look = some (aas, l₁)) (h2 : (reach 64 ((aas.map (·.1)).flatMap refs) [] []).run look = some (lv, l₂)) (hS : (aas.flatMap (·.2) ++ lv.2).all (fun p => !(lv.1.map (·.1)).contains p.1) = true) :
 Reached look lv.1 lv.2 ∧ (valid look (aas.flatMap (·.2) ++ lv.2) ∧ okSrc look (aas.flatMap (·.2) ++ lv.2)) ∧
 Ent w (fun j => ((lv.1.map (·.1))[j]?).bind g) (Nx (NN cx w g look) g (aas.flatMap (·.2) ++ lv.2)) (lv.1.map fun p => mapOb (posIn (lv.1.map (·.1))) noSrc { p.2 with ver := 0 }) (aas.map fun a => mapV (posIn (lv.1.map (·.1))) noSrc a.1) vs := by
 have hRe := reach_ok 64 _ [] [] lv _ ⟨by simp, fun p hp => by simp at hp, fun q hq => by simp at hq⟩ h2
 obtain ⟨hal, hap⟩ := passAll_ok R (vs := fun i => vs.getD i undef) h1 (fun i t ht => by
  obtain ⟨v, h3, h4⟩ := hv i t ht
  simp only [Array.getD_eq_getD_getElem?, h3]
  exact h4)
 generalize hSdef : aas.flatMap (·.2) ++ lv.2 = S at hS ⊢
 generalize hLdef : lv.1.map (·.1) = L at hS ⊢
 have hSv : valid look S ∧ okSrc look S := by
  have each : ∀ q ∈ S, (look q.1).alive = true ∧ (look q.1).ver = q.2 ∧ (look q.1).born = true ∧ q.2 ≤ (look q.1).ver := fun q hq => by
   rw [← hSdef] at hq
   rcases List.mem_append.1 hq with hq | hq
   ·
    obtain ⟨p, hp, hqp⟩ := List.mem_flatMap.1 hq
    obtain ⟨i, hi, rfl⟩ := List.getElem_of_mem hp
    obtain ⟨⟨b1, b2⟩, _⟩ := hap i _ (List.getElem?_eq_getElem hi)
    exact ⟨(b1 q hqp).1, (b1 q hqp).2, (b2 q hqp).1, (b2 q hqp).2⟩
   ·
    obtain ⟨p, hp, S', l, b1, b2⟩ := hRe.src q hq
    have ha := (hRe.each p hp).1
    cases hr : (look p.1).row with
    | true =>
     have := ((passOb_same b1).2.2.2.2.2.2 hr).2
     subst this
     simp at b2
    | false =>
     obtain ⟨⟨b3, b4⟩, _⟩ := passOb_cells R b1 ha hr
     exact ⟨(b3 q b2).1, (b3 q b2).2, (b4 q b2).1, (b4 q b2).2⟩
  exact ⟨fun q hq => ⟨(each q hq).1, (each q hq).2.1⟩, fun q hq => ⟨(each q hq).2.2.1, (each q hq).2.2.2⟩⟩
 refine ⟨hRe, hSv, ?_⟩
 have hnd : L.Nodup := by rw [← hLdef]; exact hRe.nd
 generalize hobjs : (lv.1.map fun p => mapOb (posIn L) noSrc { p.2 with ver := 0 }) = objs
 have hlen : objs.length = L.length := by rw [← hobjs, ← hLdef]; simp
 have hob : ∀ (j o : Nat), L[j]? = some o → ∃ x S' l, (passOb (look o)).run look = some ((x, S'), l) ∧ (∀ q ∈ S', q ∈ S) ∧ (look o).alive = true ∧ lookOf objs j = mapOb (posIn L) noSrc { x with ver := 0 } := fun j o hj => by
  rw [← hLdef] at hj
  simp only [List.getElem?_map, Option.map_eq_some_iff] at hj
  obtain ⟨p, hp, rfl⟩ := hj
  obtain ⟨b1, S', l, b2, b3⟩ := hRe.each p (List.mem_of_getElem? hp)
  refine ⟨p.2, S', l, b2, fun q hq => by rw [← hSdef]; exact List.mem_append_right _ (b3 q hq), b1, ?_⟩
  rw [← hobjs]
  simp [lookOf, hp]
 have hflags : ∀ (j o : Nat), L[j]? = some o → (lookOf objs j).born = (look o).born ∧ (lookOf objs j).alive = (look o).alive ∧ (lookOf objs j).may = (look o).may ∧ (lookOf objs j).row = (look o).row ∧ (lookOf objs j).k = (look o).k := fun j o hj => by
  obtain ⟨x, S', l, b1, _, _, b4⟩ := hob j o hj
  obtain ⟨c1, c2, c3, c4, c5, _⟩ := passOb_same b1
  rw [b4]
  unfold mapOb
  cases hr : x.row <;> simp [hr, ← c1, ← c2, ← c3, ← c4, ← c5]
 have hnone : ∀ j, L[j]? = none → lookOf objs j = .gone := fun j hj => by
  have : objs[j]? = none := List.getElem?_eq_none (by rw [hlen]; exact List.getElem?_eq_none_iff.1 hj)
  simp [lookOf, this]
 have hal' : ∀ j, (lookOf objs j).alive = true → ∃ o, L[j]? = some o ∧ (look o).alive = true := fun j hj => by
  cases hk : L[j]? with
  | none => rw [hnone j hk] at hj; cases hj
  | some o => exact ⟨o, rfl, (hflags j o hk).2.1.symm.trans hj⟩
 have hRen : Ren w g look (Nx (NN cx w g look) g S) w (fun j => (L[j]?).bind g) (lookOf objs) (Nx (NN cx w g look) g S) (posIn L) noSrc :=
  ren_there hlen fun j o hj => ⟨(hflags j o hj).1, (hflags j o hj).2.1, (hflags j o hj).2.2.2.2⟩
 have hNxb : ∀ b, Nx (NN cx w g look) g S b → b < w.heap.size := fun b hb => by
  rcases hb with hb | ⟨p, hp, hgb⟩
  · exact hb.1
  · exact (R.blk p.1 b (hSv.1 p hp).1 hgb).1
 have hnotS : ∀ p ∈ S, p.1 ∉ L := fun p hp hm => by
  have := List.all_eq_true.1 hS p hp
  simp [hm] at this
 refine ⟨by rw [hvs, List.length_map, hal], fun i t ht => ?_, fun j hj => ?_, fun j => ?_, fun j j' b h3 h4 h5 h6 => ?_, fun j b ha hgb => ?_, hNxb⟩
 ·
  simp only [List.getElem?_map, Option.map_eq_some_iff] at ht
  obtain ⟨p, hp, rfl⟩ := ht
  have hi : i < args.length := by have := (List.getElem?_eq_some_iff.1 hp).1; omega
  obtain ⟨v, h3, _⟩ := hv i _ (List.getElem?_eq_getElem hi)
  have := (hap i p hp).2 S (fun q hq => by rw [← hSdef]; exact List.mem_append_left _ (List.mem_flatMap.2 ⟨p, List.mem_of_getElem? hp, hq⟩))
  simp only [Array.getD_eq_getD_getElem?, h3, Option.getD_some] at this
  exact ⟨v, h3, this.ren hRen⟩
 ·
  have hk : L[j]? = some L[j] := List.getElem?_eq_getElem (by omega)
  rw [(hflags j _ hk).1]
  exact alive_born R (hob j _ hk).choose_spec.choose_spec.choose_spec.2.2.1
 ·
  intro ha
  obtain ⟨o, hk, hao⟩ := hal' j ha
  obtain ⟨x, S', l, b1, b2, _, b4⟩ := hob j o hk
  obtain ⟨f1, f2, f3, f4, f5⟩ := hflags j o hk
  have hr := (R.rt o hao).2
  have hg : (fun j => (L[j]?).bind g) j = g o := by simp [hk]
  refine ⟨f1.trans (alive_born R hao), ?_⟩
  rw [hg]
  cases hrow : (look o).row with
  | true =>
   have hxs : (lookOf objs j).xs = (look o).xs := by
    rw [b4]
    have := ((passOb_same b1).2.2.2.2.2.2 hrow).1
    subst this
    unfold mapOb
    simp [hrow]
   rw [hxs, f4, f5, hrow]
   rw [hrow] at hr
   cases hgo : g o with
   | none => rw [hgo] at hr; exact hr
   | some b =>
    rw [hgo] at hr
    obtain ⟨c, E', fr, c1, c2, c3⟩ := hr
    refine ⟨c, E', fr, c1, c2, fun i y hy => ⟨(c3 i y hy).1, fun q t ht => ?_⟩⟩
    obtain ⟨v, c4, c5⟩ := (c3 i y hy).2 q t ht
    exact ⟨v, c4, ShV.mono c5 fun b hb => ⟨.inl hb, rfl⟩⟩
  | false =>
   have hxr : x.row = false := (passOb_same b1).2.2.2.1.trans hrow
   have hxs : (lookOf objs j).xs = x.xs.map (mapA (posIn L) noSrc) := by
    rw [b4]
    unfold mapOb
    simp [hxr]
   rw [hxs, f4, f5, hrow]
   rw [hrow] at hr
   cases hgo : g o with
   | none => rw [hgo] at hr; cases hr.2
   | some b =>
    rw [hgo] at hr
    obtain ⟨c, E', fr, c1, c2, c3⟩ := hr
    refine ⟨c, E', fr, c1, c2, fun i y hy => ?_⟩
    simp only [List.getElem?_map, Option.map_eq_some_iff] at hy
    obtain ⟨z, hz, rfl⟩ := hy
    obtain ⟨_, hcells⟩ := passOb_cells R b1 hao hrow
    obtain ⟨x0, d1, d2, d3⟩ := hcells i z hz
    obtain ⟨e1, e2⟩ := mapA_cells (f := posIn L) (sg := noSrc) (t := z)
    refine ⟨(e1.trans d2).trans (c3 i x0 d1).1, fun q t ht => ?_⟩
    obtain ⟨t', e3, rfl⟩ := e2 q t ht
    obtain ⟨c0, d4, d5⟩ := d3 S b2 q t' e3
    obtain ⟨v, c4, c5⟩ := (c3 i x0 d1).2 q c0 d4
    exact ⟨v, c4, FrC.ren hRen (d5 v c5.1), c5.2⟩
 ·
  obtain ⟨o, k1, k2⟩ := hal' j h3.1
  obtain ⟨o', k3, k4⟩ := hal' j' h4.1
  have hgo : g o = some b := by simpa [k1] using h5
  have hgo' : g o' = some b := by simpa [k3] using h6
  have := R.inj o o' b ⟨k2, (hflags j o k1).2.2.1.symm.trans h3.2⟩ ⟨k4, (hflags j' o' k3).2.2.1.symm.trans h4.2⟩ hgo hgo'
  subst this
  exact nodup_at hnd k1 k3
 ·
  obtain ⟨o, k1, k2⟩ := hal' j ha
  have hgo : g o = some b := by simpa [k1] using hgb
  obtain ⟨h3, h4⟩ := R.blk o b k2 hgo
  refine ⟨h3, ?_⟩
  rw [(hflags j o k1).2.2.1]
  split
  ·
   rename_i hm
   rintro (hb | ⟨p, hp, hgp⟩)
   · exact hb.2.2 o ⟨k2, hm⟩ hgo
   ·
    by_cases hm' : (look p.1).may = true
    ·
     have := R.inj o p.1 b ⟨k2, hm⟩ ⟨(hSv.1 p hp).1, hm'⟩ hgo hgp
     exact hnotS p hp (this ▸ List.mem_of_getElem? k1)
    ·
     have := (R.blk p.1 b (hSv.1 p hp).1 hgp).2
     rw [if_neg hm'] at this
     exact this.2.2 o ⟨k2, hm⟩ hgo
  ·
   rename_i hm
   rw [if_neg hm] at h4
   exact .inl h4
end
end Go.Proofs.YtbfgmnjhikaagaaGreatDoor.PM
namespace Go.Proofs.YtbfgmnjhikaagaaGreatDoor.PM
open Go
theorem updL_at : ∀ (wr : List (Nat × Ob)) (look : Nat → Ob) (q : Nat) (x : Ob), (wr.map (·.1)).Nodup → (q, x) ∈ wr → updL look wr q = x
 | [], _, _, _, _, h => by simp at h
 | (o, y) :: r, look, q, x, hn, h => by
  rw [List.map_cons, List.nodup_cons] at hn
  rw [updL]
  rcases List.mem_cons.1 h with h | h
  ·
   obtain ⟨rfl, rfl⟩ := Prod.mk.inj h
   rw [updL_out r _ hn.1, up_same]
  · exact updL_at r _ q x hn.2 h
theorem verOf_eq {objs : List Ob} {j : Nat} : verOf objs j = (lookOf objs j).ver := by
 unfold verOf lookOf
 cases objs[j]? <;> rfl
theorem mapOb_same {f : Nat → Option Nat} {sg : List (Nat × Nat) → Option (List (Nat × Nat))} (x : Ob) : (mapOb f sg x).born = x.born ∧ (mapOb f sg x).alive = x.alive ∧ (mapOb f sg x).may = x.may ∧ (mapOb f sg x).row = x.row ∧ (mapOb f sg x).k = x.k := by
 unfold mapOb
 split <;> exact ⟨rfl, rfl, rfl, rfl, rfl⟩
section
variable {P : Program} {cx : Cx} {w w' : World} {g g' : Nat → Option Nat} {look : Nat → Ob} {tmps : List T} {a : Act}
theorem call_exi (R : Rel cx g tmps look a w) {lvs : List (Nat × Ob)} {S : List (Nat × Nat)} {objs objs' : List Ob} {base : Nat} {v : Value} {r : T} (hnd : (lvs.map (·.1)).Nodup) (hlal : ∀ p ∈ lvs, (look p.1).alive = true ∧ p.2.ver = (look p.1).ver)
 (hS : valid look S ∧ okSrc look S) (hSL : S.all (fun p => !(lvs.map (·.1)).contains p.1) = true)
 (hob : ∀ (j o : Nat), (lvs.map (·.1))[j]? = some o → (lookOf objs j).born = (look o).born ∧ (lookOf objs j).alive = (look o).alive ∧ (lookOf objs j).may = (look o).may ∧ (lookOf objs j).k = (look o).k) (hlen : objs.length = lvs.length)
 (hfresh : ∀ q, base ≤ q → q < base + room → (look q).born = false) (hm1 : lvs.length ≤ objs'.length) (hm2 : objs'.length < lvs.length + room) (hflat : S = [] ∨ ∀ x ∈ objs', x.row = true → flatL x.xs = true)
 (hmay : ∀ x ∈ objs', x.alive = true → x.may = true) (X : Exi w (fun j => ((lvs.map (·.1))[j]?).bind g) (Nx (NN cx w g look) g S) objs w' g' objs' v r) (dst : Option Tmp) :
 ∃ g₁, Rel cx g₁ (putT tmps dst (mapV (backN (lvs.map (·.1)) base objs'.length) (backS (lvs.map (·.1)) base (lvs.map (·.2)) objs' S) r))
  (updL look (objs'.zipIdx.map fun p => ((backN (lvs.map (·.1)) base objs'.length p.2).getD 0, { mapOb (backN (lvs.map (·.1)) base objs'.length) (backS (lvs.map (·.1)) base (lvs.map (·.2)) objs' S) p.1 with ver := if p.2 < (lvs.map (·.1)).length then verOf (lvs.map (·.2)) p.2 + 1 else p.1.ver }))) (a.put dst v) w' := by
 generalize hLdef : lvs.map (·.1) = L at *
 have hLl : L.length = lvs.length := by rw [← hLdef]; simp
 generalize hsg : backS L base (lvs.map (·.2)) objs' S = sg
 generalize hbk : backN L base objs'.length = bk
 let nob : Nat → Ob → Ob := fun i x => { mapOb bk sg x with ver := if i < L.length then verOf (lvs.map (·.2)) i + 1 else x.ver }
 have hnob : ∀ i x, (nob i x).born = x.born ∧ (nob i x).alive = x.alive ∧ (nob i x).may = x.may ∧ (nob i x).row = x.row ∧ (nob i x).k = x.k := fun i x => by
  show (mapOb bk sg x).born = _ ∧ (mapOb bk sg x).alive = _ ∧ (mapOb bk sg x).may = _ ∧ (mapOb bk sg x).row = _ ∧ (mapOb bk sg x).k = _
  exact mapOb_same x
 have hb1 : ∀ i, i < L.length → bk i = L[i]? := fun i hi => by rw [← hbk]; simp only [backN]; rw [if_pos hi]
 have hb2 : ∀ i, L.length ≤ i → i < objs'.length → bk i = some (base + (i - L.length)) := fun i h1 h2 => by rw [← hbk]; simp only [backN]; rw [if_neg (by omega), if_pos h2]
 have hb3 : ∀ i q, bk i = some q → i < objs'.length ∧ ((i < L.length ∧ L[i]? = some q) ∨ (L.length ≤ i ∧ q = base + (i - L.length))) := fun i q h => by
  rw [← hbk] at h
  simp only [backN] at h
  split at h
  · rename_i hi; exact ⟨by omega, .inl ⟨hi, h⟩⟩
  ·
   rename_i hi
   split at h
   · rename_i hi2; exact ⟨hi2, .inr ⟨by omega, (Option.some.inj h).symm⟩⟩
   · cases h
 have hLborn : ∀ (j o : Nat), L[j]? = some o → (look o).alive = true ∧ (look o).born = true := fun j o hj => by
  rw [← hLdef] at hj
  simp only [List.getElem?_map, Option.map_eq_some_iff] at hj
  obtain ⟨p, hp, rfl⟩ := hj
  have := (hlal p (List.mem_of_getElem? hp)).1
  exact ⟨this, alive_born R this⟩
 have hbkinj : ∀ i j q, bk i = some q → bk j = some q → i = j := fun i j q h1 h2 => by
  obtain ⟨a1, a2⟩ := hb3 i q h1
  obtain ⟨b1, b2⟩ := hb3 j q h2
  rcases a2 with ⟨a3, a4⟩ | ⟨a3, a4⟩
  ·
   rcases b2 with ⟨b3, b4⟩ | ⟨b3, b4⟩
   · exact nodup_at hnd a4 b4
   ·
    have := (hLborn i q a4).2
    rw [hfresh q (by omega) (by unfold room at *; omega)] at this
    cases this
  ·
   rcases b2 with ⟨b3, b4⟩ | ⟨b3, b4⟩
   ·
    have := (hLborn j q b4).2
    rw [hfresh q (by omega) (by unfold room at *; omega)] at this
    cases this
   · omega
 have hbksome : ∀ i, i < objs'.length → ∃ q, bk i = some q := fun i hi => by
  rcases Nat.lt_or_ge i L.length with h | h
  · exact ⟨L[i], by rw [hb1 i h]; simp [h]⟩
  · exact ⟨_, hb2 i h hi⟩
 generalize hwr : (objs'.zipIdx.map fun p => ((bk p.2).getD 0, nob p.2 p.1)) = wr
 have hwrn : (wr.map (·.1)).Nodup := by
  rw [← hwr, List.map_map]
  refine List.pairwise_iff_getElem.2 fun i j hi hj hij => ?_
  simp only [List.length_map, List.length_zipIdx] at hi hj
  simp only [List.getElem_map, List.getElem_zipIdx, Function.comp, Nat.zero_add]
  obtain ⟨q, hq⟩ := hbksome i hi
  obtain ⟨q', hq'⟩ := hbksome j hj
  rw [hq, hq']
  simp only [Option.getD_some]
  intro e
  subst e
  exact absurd (hbkinj i j q hq hq') (by omega)
 have hwrm : ∀ i x q, objs'[i]? = some x → bk i = some q → (q, nob i x) ∈ wr := fun i x q hx hq => by
  rw [← hwr]
  refine List.mem_map.2 ⟨(x, i), ?_, by simp [hq]⟩
  rw [List.mem_zipIdx_iff_getElem?]
  exact hx
 generalize hl1 : updL look wr = look₁
 have hin : ∀ i x q, objs'[i]? = some x → bk i = some q → look₁ q = nob i x := fun i x q hx hq => by
  rw [← hl1]; exact updL_at wr look q _ hwrn (hwrm i x q hx hq)
 have hout : ∀ q, (∀ i, bk i ≠ some q) → look₁ q = look q := fun q hq => by
  rw [← hl1]
  refine updL_out wr look fun hm => ?_
  rw [← hwr, List.map_map] at hm
  obtain ⟨⟨x, i⟩, hxi, he⟩ := List.mem_map.1 hm
  rw [List.mem_zipIdx_iff_getElem?] at hxi
  have hi : i < objs'.length := (List.getElem?_eq_some_iff.1 hxi).1
  obtain ⟨q', hq'⟩ := hbksome i hi
  simp only [Function.comp, hq', Option.getD_some] at he
  exact hq i (by rw [hq', he])
 let g₁ : Nat → Option Nat := fun q => if base ≤ q ∧ q < base + room then g' (L.length + (q - base)) else g q
 have hg1out : ∀ q, (look q).born = true → g₁ q = g q := fun q hq => by
  show (if base ≤ q ∧ q < base + room then g' (L.length + (q - base)) else g q) = g q
  split
  · rename_i h; rw [hfresh q h.1 h.2] at hq; cases hq
  · rfl
 have hlent := X.lent
 have hg1in : ∀ i x q, objs'[i]? = some x → bk i = some q → x.alive = true → g₁ q = g' i := fun i x q hx hq ha => by
  obtain ⟨h1, h2⟩ := hb3 i q hq
  rcases h2 with ⟨h3, h4⟩ | ⟨h3, h4⟩
  ·
   rw [hg1out q (hLborn i q h4).2]
   have := (hlent i (by omega)).2 (by rw [lookOf, hx]; exact ha)
   rw [this.2.2.1]
   simp [h4]
  ·
   show (if base ≤ q ∧ q < base + room then g' (L.length + (q - base)) else g q) = g' i
   rw [if_pos (by unfold room at *; omega)]
   congr 1
   omega
 have cls : ∀ q, (∃ i x, objs'[i]? = some x ∧ bk i = some q ∧ look₁ q = nob i x) ∨ ((∀ i, bk i ≠ some q) ∧ look₁ q = look q) := fun q => by
  by_cases h : ∃ i, bk i = some q
  ·
   obtain ⟨i, hi⟩ := h
   have h1 := (hb3 i q hi).1
   exact .inl ⟨i, objs'[i], List.getElem?_eq_getElem h1, hi, hin i _ q (List.getElem?_eq_getElem h1) hi⟩
  ·
   have h' : ∀ i, bk i ≠ some q := fun i hi => h ⟨i, hi⟩
   exact .inr ⟨h', hout q h'⟩
 have hlk : ∀ i x, objs'[i]? = some x → lookOf objs' i = x := fun i x hx => by simp [lookOf, hx]
 have hLb : ∀ b, (∃ o, Own (lookOf objs) o ∧ (fun j => (L[j]?).bind g) o = some b) → ∃ o, o ∈ L ∧ Own look o ∧ g o = some b := fun b ⟨j, hj, hgj⟩ => by
  cases hk : L[j]? with
  | none => simp only [hk, Option.bind_none] at hgj; cases hgj
  | some o =>
   simp only [hk, Option.bind_some] at hgj
   obtain ⟨_, h2, h3, _⟩ := hob j o hk
   exact ⟨o, List.mem_of_getElem? hk, ⟨h2.symm.trans hj.1, h3.symm.trans hj.2⟩, hgj⟩
 have hnotS : ∀ p ∈ S, p.1 ∉ L := fun p hp hm => by
  have := List.all_eq_true.1 hSL p hp
  simp [hm] at this
 have hSout : ∀ p ∈ S, (∀ i, bk i ≠ some p.1) := fun p hp i hi => by
  obtain ⟨_, h2⟩ := hb3 i p.1 hi
  rcases h2 with ⟨_, h4⟩ | ⟨h3, h4⟩
  · exact hnotS p hp (List.mem_of_getElem? h4)
  ·
   have := (hS.2 p hp).1
   rw [hfresh p.1 (by omega) (by have := (hb3 i p.1 hi).1; unfold room at *; omega)] at this
   cases this
 have hver : ∀ j o, L[j]? = some o → verOf (lvs.map (·.2)) j = (look o).ver := fun j o hj => by
  rw [← hLdef] at hj
  simp only [List.getElem?_map, Option.map_eq_some_iff] at hj
  obtain ⟨p, hp, rfl⟩ := hj
  rw [← (hlal p (List.mem_of_getElem? hp)).2]
  simp [verOf, hp]
 have hkeep : ∀ q b, (look q).alive = true → q ∉ L → g q = some b → w'.heap[b]? = w.heap[b]? := fun q b hq hnl hgq => by
  obtain ⟨h1, h2⟩ := R.blk q b hq hgq
  refine X.keep b h1 fun hx => ?_
  obtain ⟨o, h3, h4, h5⟩ := hLb b hx
  by_cases hm : (look q).may = true
  · exact hnl (R.inj q o b ⟨hq, hm⟩ h4 hgq h5 ▸ h3)
  ·
   rw [if_neg hm] at h2
   exact h2.2.2 o h4 h5
 have hnL : ∀ q, (∀ i, bk i ≠ some q) → q ∉ L := fun q hq hm => by
  obtain ⟨j, hj, rfl⟩ := List.getElem_of_mem hm
  exact hq j (by rw [hb1 j hj]; simp [hj])
 have C : Chg w g look w' g₁ look₁ := by
  refine ⟨X.hsz, fun b hlt hno => X.keep b hlt fun hx => ?_, X.os, X.tape, X.output, fun q hq => ?_, fun q b hq hgq => ?_⟩
  ·
   obtain ⟨o, _, h4, h5⟩ := hLb b hx
   exact hno o h4 h5
  ·
   rcases cls q with ⟨i, x, hx, hi, he⟩ | ⟨hno, he⟩
   ·
    obtain ⟨h1, h2⟩ := hb3 i q hi
    have hiL : i < L.length ∧ L[i]? = some q := by
     rcases h2 with h2 | ⟨h3, h4⟩
     · exact h2
     · rw [hfresh q (by omega) (by unfold room at *; omega)] at hq; cases hq
    obtain ⟨c1, c2⟩ := hlent i (by omega)
    rw [hlk i x hx] at c1 c2
    obtain ⟨n1, n2, n3, n4, n5⟩ := hnob i x
    have hv : (nob i x).ver = (look q).ver + 1 := by
     show (if i < L.length then verOf (lvs.map (·.2)) i + 1 else x.ver) = _
     rw [if_pos hiL.1, hver i q hiL.2]
    obtain ⟨e1, e2, e3, e4⟩ := hob i q hiL.2
    rw [he]
    refine ⟨n1.trans c1, by omega, fun ha => ?_⟩
    have ha' : x.alive = true := n2.symm.trans ha
    obtain ⟨d1, d2, d3, d4⟩ := c2 ha'
    refine ⟨e2.symm.trans d1, n5.trans (d2.trans e4), by rw [hg1out q hq], fun b hb => ⟨d4 b (by simp [hiL.2, hb]), fun hh => by omega⟩⟩
   ·
    rw [he, hg1out q hq]
    refine ⟨hq, Nat.le_refl _, fun ha => ⟨ha, rfl, rfl, fun b hb => ?_⟩⟩
    have := hkeep q b ha (hnL q hno) hb
    exact ⟨by simp [csz, this], fun _ => this⟩
  ·
   rcases cls q with ⟨i, x, hx, hi, he⟩ | ⟨hno, he⟩
   ·
    obtain ⟨n1, n2, n3, n4, n5⟩ := hnob i x
    unfold Own at hq
    rw [he, n2, n3] at hq
    rw [hg1in i x q hx hi hq.1] at hgq
    have := (X.blk i b (by rw [hlk i x hx]; exact hq.1) hgq).2
    rw [hlk i x hx, if_pos hq.2] at this
    rcases this with h | h
    · exact .inr h
    ·
     obtain ⟨o, _, h4, h5⟩ := hLb b h
     exact .inl ⟨o, h4, h5⟩
   ·
    unfold Own at hq
    rw [he] at hq
    rw [hg1out q (alive_born R hq.1)] at hgq
    exact .inl ⟨q, hq, hgq⟩
 have E := R.ext C
 have hown1 : ∀ q b, Own look₁ q → g₁ q = some b → (∃ i x, objs'[i]? = some x ∧ bk i = some q ∧ Own (lookOf objs') i ∧ g' i = some b) ∨ ((∀ i, bk i ≠ some q) ∧ Own look q ∧ g q = some b) := fun q b hq hgq => by
  rcases cls q with ⟨i, x, hx, hi, he⟩ | ⟨hno, he⟩
  ·
   obtain ⟨n1, n2, n3, n4, n5⟩ := hnob i x
   unfold Own at hq
   rw [he, n2, n3] at hq
   rw [hg1in i x q hx hi hq.1] at hgq
   exact .inl ⟨i, x, hx, hi, by unfold Own; rw [hlk i x hx]; exact hq, hgq⟩
  ·
   unfold Own at hq
   rw [he] at hq
   rw [hg1out q (alive_born R hq.1)] at hgq
   exact .inr ⟨hno, hq, hgq⟩
 have hN2 : ∀ b, NN (cxOf w (fun j => (L[j]?).bind g) (Nx (NN cx w g look) g S) objs) w' g' (lookOf objs') b → NN cx w' g₁ look₁ b ∨ ∃ p ∈ S, g p.1 = some b := fun b hb => by
  by_cases hs : ∃ p ∈ S, g p.1 = some b
  · exact .inr hs
  ·
   left
   obtain ⟨h1, h2, h3⟩ := hb
   have h2' : NN cx w g look b ∨ w.heap.size ≤ b ∨ ∃ o, o ∈ L ∧ Own look o ∧ g o = some b := by
    rcases h2 with (h2 | h2) | h2 | h2
    · exact .inl h2
    · exact absurd h2 hs
    · exact .inr (.inl h2)
    · exact .inr (.inr (hLb b h2))
   refine ⟨h1, ?_, fun q hq hgq => ?_⟩
   ·
    rcases h2' with h2 | h2 | ⟨o, _, h4, h5⟩
    · exact h2.2.1
    · exact .inr (.inl (Nat.le_trans R.hsz h2))
    ·
     have := (R.blk o b h4.1 h5).2
     rw [if_pos h4.2] at this
     exact .inr this
   ·
    rcases hown1 q b hq hgq with ⟨i, x, hx, hi, ho, hgi⟩ | ⟨hno, ho, hgo⟩
    · exact h3 i ho hgi
    ·
     rcases h2' with h2 | h2 | ⟨o, hoL, h4, h5⟩
     · exact h2.2.2 q ho hgo
     ·
      have := (R.blk q b ho.1 hgo).1
      omega
     · exact hnL q hno (R.inj q o b ho h4 hgo h5 ▸ hoL)
 have hRen : Ren w' g' (lookOf objs') (NN (cxOf w (fun j => (L[j]?).bind g) (Nx (NN cx w g look) g S) objs) w' g' (lookOf objs')) w' g₁ look₁ (NN cx w' g₁ look₁) bk sg := by
  refine ⟨fun i q hi hb => ?_, fun l l' hl hok => ?_⟩
  ·
   obtain ⟨h1, _⟩ := hb3 i q hi
   have hx : objs'[i]? = some objs'[i] := List.getElem?_eq_getElem h1
   obtain ⟨n1, n2, n3, n4, n5⟩ := hnob i objs'[i]
   rw [hin i _ q hx hi]
   rw [hlk i _ hx] at hb ⊢
   refine ⟨n1.trans hb, fun ha => ?_⟩
   have ha' := n2.symm.trans ha
   exact ⟨ha', n5, hg1in i _ q hx hi ha', fun _ _ => rfl⟩
  ·
   rw [← hsg] at hl
   unfold backS at hl
   simp only [Option.map_eq_some_iff] at hl
   obtain ⟨ms, hms, rfl⟩ := hl
   rw [hbk] at hms
   have key : ∀ (l : List (Nat × Nat)) (ms : List (Nat × Nat)), (l.mapM fun p => if verOf objs' p.1 = p.2 then (bk p.1).map fun o => (o, if p.1 < L.length then verOf (lvs.map (·.2)) p.1 + 1 else p.2) else none) = some ms →
    (∀ p ∈ l, verOf objs' p.1 = p.2 ∧ ∃ o, bk p.1 = some o ∧ (o, if p.1 < L.length then verOf (lvs.map (·.2)) p.1 + 1 else p.2) ∈ ms) ∧ ∀ m ∈ ms, ∃ p ∈ l, verOf objs' p.1 = p.2 ∧ bk p.1 = some m.1 ∧ m.2 = if p.1 < L.length then verOf (lvs.map (·.2)) p.1 + 1 else p.2 := by
    intro l
    induction l with
    | nil => intro ms h; simp at h; subst h; exact ⟨fun p hp => by simp at hp, fun m hm => by simp at hm⟩
    | cons p r ih =>
     intro ms h
     rw [List.mapM_cons] at h
     simp only [Option.bind_eq_bind, Option.bind_eq_some_iff, Option.pure_def, Option.some.injEq] at h
     obtain ⟨m, hm, ms', hms', rfl⟩ := h
     obtain ⟨h1, h2⟩ := ih ms' hms'
     split at hm
     ·
      rename_i hv
      simp only [Option.map_eq_some_iff] at hm
      obtain ⟨o, ho, rfl⟩ := hm
      refine ⟨fun q hq => ?_, fun m hm => ?_⟩
      ·
       rcases List.mem_cons.1 hq with rfl | hq
       · exact ⟨hv, o, ho, by simp⟩
       ·
        obtain ⟨b1, o', b2, b3⟩ := h1 q hq
        exact ⟨b1, o', b2, List.mem_cons_of_mem _ b3⟩
      ·
       rcases List.mem_cons.1 hm with rfl | hm
       · exact ⟨p, by simp, hv, ho, rfl⟩
       ·
        obtain ⟨q, hq, b⟩ := h2 m hm
        exact ⟨q, List.mem_cons_of_mem _ hq, b⟩
     · cases hm
   obtain ⟨k1, k2⟩ := key l ms hms
   refine ⟨fun m hm => ?_, fun hvl => ⟨fun p hp => ?_, fun b hb => ⟨?_, rfl⟩⟩⟩
   ·
    rcases List.mem_append.1 hm with hm | hm
    ·
     obtain ⟨p, hp, hv, hbp, hm2⟩ := k2 m hm
     obtain ⟨h1, _⟩ := hb3 p.1 m.1 hbp
     have hx : objs'[p.1]? = some objs'[p.1] := List.getElem?_eq_getElem h1
     rw [hin p.1 _ m.1 hx hbp, hm2]
     have hbn := (hok p hp).1
     rw [hlk p.1 _ hx] at hbn
     refine ⟨(hnob p.1 _).1.trans hbn, ?_⟩
     show _ ≤ if p.1 < L.length then verOf (lvs.map (·.2)) p.1 + 1 else objs'[p.1].ver
     split
     · exact Nat.le_refl _
     · rw [← hv, verOf_eq, hlk p.1 _ hx]; exact Nat.le_refl _
    ·
     rw [hout m.1 (hSout m hm)]
     exact hS.2 m hm
   ·
    obtain ⟨hv, o, hbo, hmem⟩ := k1 p hp
    obtain ⟨h1, _⟩ := hb3 p.1 o hbo
    have hx : objs'[p.1]? = some objs'[p.1] := List.getElem?_eq_getElem h1
    have := (hvl _ (List.mem_append_left _ hmem)).1
    rw [hin p.1 _ o hx hbo, (hnob p.1 _).2.1] at this
    rw [verOf_eq] at hv
    exact ⟨by rw [hlk p.1 _ hx]; exact this, hv⟩
   ·
    rcases hb with hb | ⟨p, hp, hgb⟩
    ·
     rcases hN2 b hb with h | ⟨p, hp, hgp⟩
     · exact .inl h
     · exact .inr ⟨p, List.mem_append_right _ hp, (hg1out p.1 (hS.2 p hp).1).trans hgp⟩
    ·
     obtain ⟨hv, o, hbo, hmem⟩ := k1 p hp
     obtain ⟨h1, _⟩ := hb3 p.1 o hbo
     have hx : objs'[p.1]? = some objs'[p.1] := List.getElem?_eq_getElem h1
     have hal := (hvl _ (List.mem_append_left _ hmem)).1
     rw [hin p.1 _ o hx hbo, (hnob p.1 _).2.1] at hal
     exact .inr ⟨_, List.mem_append_left _ hmem, (hg1in p.1 _ o hx hbo hal).trans hgb⟩
 refine ⟨g₁, ?_⟩
 refine R.step C dst (FrV.ren hRen X.val) (fun q ha => ?_) (fun q q' b h1 h2 h3 h4 => ?_) (fun q b ha hgq => ?_)
 ·
  rcases cls q with ⟨i, x, hx, hi, he⟩ | ⟨hno, he⟩
  ·
   have hxa : x.alive = true := by rw [he, (hnob i x).2.1] at ha; exact ha
   refine RootV.ren hRen (X.rt i) (nob i x) ?_ he (hg1in i x q hx hi hxa) (fun _ _ => rfl) (fun hr i' y hy j t ht v hv => ?_)
   ·
    rw [hlk i x hx]
    show nob i x = mapOb bk sg { x with ver := (nob i x).ver }
    show ({ mapOb bk sg x with ver := (nob i x).ver } : Ob) = mapOb bk sg { x with ver := (nob i x).ver }
    generalize (nob i x).ver = vv
    unfold mapOb
    by_cases hrr : x.row = true
    · simp [hrr]
    · simp [hrr]
   ·
    rcases hflat with rfl | hflat
    · exact hv.mono fun b hb => ⟨(hN2 b hb).resolve_right fun ⟨p, hp, _⟩ => by simp at hp, rfl⟩
    ·
     rw [hlk i x hx] at hr hy
     obtain ⟨u, rfl⟩ := flat_sh (hflat x (List.mem_of_getElem? hx) hr) hy ht
     obtain ⟨e1, e2⟩ := hv.sc_inv
     rw [e1]
     exact .sc e2
  ·
   rw [he] at ha
   exact RootV.mono E (R.rt q) he (hg1out q (alive_born R ha)) (fun b hb => hkeep q b ha (hnL q hno) hb)
 ·
  rcases hown1 q b h1 h3 with ⟨i, x, hx, hi, ho, hgi⟩ | ⟨hno, ho, hgo⟩
  ·
   rcases hown1 q' b h2 h4 with ⟨i', x', hx', hi', ho', hgi'⟩ | ⟨hno', ho', hgo'⟩
   ·
    have := X.inj i i' b ho ho' hgi hgi'
    subst this
    exact Option.some.inj (hi.symm.trans hi')
   ·
    exfalso
    have := (X.blk i b ho.1 hgi).2
    rw [if_pos ho.2] at this
    rcases this with h | h
    ·
     have := (R.blk q' b ho'.1 hgo').1
     omega
    ·
     obtain ⟨o, hoL, h4, h5⟩ := hLb b h
     exact hnL q' hno' (R.inj q' o b ho' h4 hgo' h5 ▸ hoL)
  ·
   rcases hown1 q' b h2 h4 with ⟨i', x', hx', hi', ho', hgi'⟩ | ⟨hno', ho', hgo'⟩
   ·
    exfalso
    have := (X.blk i' b ho'.1 hgi').2
    rw [if_pos ho'.2] at this
    rcases this with h | h
    ·
     have := (R.blk q b ho.1 hgo).1
     omega
    ·
     obtain ⟨o, hoL, h4, h5⟩ := hLb b h
     exact hnL q hno (R.inj q o b ho h4 hgo h5 ▸ hoL)
   · exact R.inj q q' b ho ho' hgo hgo'
 ·
  rcases cls q with ⟨i, x, hx, hi, he⟩ | ⟨hno, he⟩
  ·
   obtain ⟨n1, n2, n3, n4, n5⟩ := hnob i x
   have hxa : x.alive = true := by rw [he, n2] at ha; exact ha
   rw [hg1in i x q hx hi hxa] at hgq
   obtain ⟨h1, h2⟩ := X.blk i b (by rw [hlk i x hx]; exact hxa) hgq
   rw [hlk i x hx] at h2
   rw [he, n3]
   refine ⟨h1, fun hm => ?_, fun hm => ?_⟩
   ·
    rw [if_pos hm] at h2
    rcases h2 with h | h
    · exact .inl (Nat.le_trans R.hsz h)
    ·
     obtain ⟨o, _, h4, h5⟩ := hLb b h
     have := (R.blk o b h4.1 h5).2
     rw [if_pos h4.2] at this
     exact this
   ·
    rw [hmay x (List.mem_of_getElem? hx) hxa] at hm
    cases hm
  ·
   rw [he] at ha
   rw [hg1out q (alive_born R ha)] at hgq
   rw [he]
   obtain ⟨h1, h2⟩ := R.blk q b ha hgq
   refine ⟨Nat.lt_of_lt_of_le h1 X.hsz, fun hm => by rw [if_pos hm] at h2; exact h2, fun hm => ?_⟩
   rw [hm] at h2
   exact (E.n b h2).1
end
end Go.Proofs.YtbfgmnjhikaagaaGreatDoor.PM
namespace Go.Proofs.YtbfgmnjhikaagaaGreatDoor.PM
open Go
section
variable {P : Program} {E : Env} {cx : Cx} {w w' : World} {g g' : Nat → Option Nat} {look : Nat → Ob} {tmps : List T} {a : Act}
theorem callFunc_run {f : FuncId} (h : FnOk P f) (args : Array Value) (w : World) : (callFunc f args).run P w = .ok (.enter f args) w := by
 obtain ⟨fn, h1, h2, h3⟩ := h
 simp only [callFunc, Sem.run_bind, run_program, Result.andThen_ok, h1, h2, h3, Bool.false_eq_true, if_false, Sem.run_pure]
theorem env_ok (hC : CallsOk P E) (hG : GlobCx P cx) : EnvOk P E cx := by
 intro g tmps look a w R base o e l hb hcall h K Q hK
 obtain ⟨dst, op, type, pos, after, gd⟩ := o
 cases op <;> simp [isCall] at hcall
 rename_i c
 obtain ⟨callee, args, ats⟩ := c
 cases callee <;> simp at hcall
 rename_i f
 simp only [opR] at h
 split at h
 ·
  rename_i gf caps hf
  have hfv := eval_ok R f
  rw [hf] at hfv
  obtain ⟨vs, hfe, hvsz, hvc⟩ := hfv
  have hargs : (args.map a.eval ++ vs).size = (args.toList.map (evalT tmps) ++ caps).length := by simp [hvsz]
  have hav : ∀ (i : Nat) t, (args.toList.map (evalT tmps) ++ caps)[i]? = some t → ∃ v, (args.map a.eval ++ vs)[i]? = some v ∧ FrV w g look (NN cx w g look) v t := fun i t ht => by
   by_cases hi : i < args.size
   ·
    rw [List.getElem?_append_left (by simpa using hi)] at ht
    simp only [List.getElem?_map, Option.map_eq_some_iff] at ht
    obtain ⟨x, hx, rfl⟩ := ht
    refine ⟨a.eval x, ?_, eval_ok R x⟩
    rw [Array.getElem?_append_left (by simpa using hi)]
    simp at hx
    simp [hx]
   ·
    rw [List.getElem?_append_right (by simpa using hi)] at ht
    simp only [List.length_map, Array.length_toList] at ht
    obtain ⟨u, o', i', j', h1, rfl, h3⟩ := hvc _ t ht
    refine ⟨u, ?_, h3⟩
    rw [Array.getElem?_append_right (by simpa using hi)]
    simpa using h1
  simp only [callR, bind_some, opt_some, guard_some, pure_some] at h
  obtain ⟨aas, _, _, h1, ⟨lv, _, _, h2, ⟨_, _, _, ⟨h3, _⟩, ⟨ro, _, _, ⟨h4, _⟩, ⟨_, _, _, ⟨h5, _⟩, ⟨rfl, _⟩, _⟩, _⟩, _⟩, _⟩, _⟩ := h
  obtain ⟨hRe, hSv, hEnt⟩ := call_ent R hargs hav h1 h2 h3
  obtain ⟨hfn, hok⟩ := hC _ _ _ _ _ h4
  have hcalls := hok w _ _ _ hEnt fun b hb => let ⟨x1, x2⟩ := hG.now R b hb; ⟨.inl x1, x2⟩
  simp only [Bool.and_eq_true, decide_eq_true_eq, Bool.or_eq_true] at h5
  obtain ⟨⟨⟨hm1, hm2⟩, hflat⟩, hmay⟩ := h5
  unfold Oper.wp
  have hrun : (execOp a.eval { dst := dst, op := .call { callee := .value f, args := args, argTypes := ats }, type := type, pos := pos, after := after, guard := gd }).run P w = .ok (.enter gf (args.map a.eval ++ vs)) w := by
   simp only [execOp, resolve, hfe, Deferred.ofValue, invoke, Sem.run_bind, Sem.run_pure, Result.andThen_ok]
   rw [callFunc_run hfn]
   simp
  rw [hrun, Oper.upon_enter]
  refine hcalls.mono fun en w' ⟨v, g', he, X⟩ => ?_
  subst he
  have hLl : (lv.1.map (·.1)).length = lv.1.length := by simp
  have hob : ∀ (j o : Nat), (lv.1.map (·.1))[j]? = some o → (lookOf (lv.1.map fun p => mapOb (posIn (lv.1.map (·.1))) noSrc { p.2 with ver := 0 }) j).born = (look o).born ∧ (lookOf (lv.1.map fun p => mapOb (posIn (lv.1.map (·.1))) noSrc { p.2 with ver := 0 }) j).alive = (look o).alive ∧
   (lookOf (lv.1.map fun p => mapOb (posIn (lv.1.map (·.1))) noSrc { p.2 with ver := 0 }) j).may = (look o).may ∧ (lookOf (lv.1.map fun p => mapOb (posIn (lv.1.map (·.1))) noSrc { p.2 with ver := 0 }) j).k = (look o).k := fun j o hj => by
   simp only [List.getElem?_map, Option.map_eq_some_iff] at hj
   obtain ⟨p, hp, rfl⟩ := hj
   obtain ⟨_, S, l, b2, _⟩ := hRe.each p (List.mem_of_getElem? hp)
   obtain ⟨c1, c2, c3, c4, c5, c6, _⟩ := passOb_same b2
   obtain ⟨n1, n2, n3, n4, n5⟩ := mapOb_same (f := posIn (lv.1.map (·.1))) (sg := noSrc) { p.2 with ver := 0 }
   have : lookOf (lv.1.map fun p => mapOb (posIn (lv.1.map (·.1))) noSrc { p.2 with ver := 0 }) j = mapOb (posIn (lv.1.map (·.1))) noSrc { p.2 with ver := 0 } := by simp [lookOf, hp]
   rw [this, n1, n2, n3, n5]
   exact ⟨c1, c2, c3, c5⟩
  obtain ⟨g₁, R₁⟩ := call_exi R (lvs := lv.1) (S := aas.flatMap (·.2) ++ lv.2) (base := base) hRe.nd (fun p hp => by
   obtain ⟨b1, S, l, b2, _⟩ := hRe.each p hp
   exact ⟨b1, (passOb_same b2).2.2.2.2.2.1⟩) hSv h3 hob (by simp) hb (by rw [← hLl]; exact hm1) (by rw [← hLl]; exact hm2)
   (by
    rcases hflat with h | h
    · exact .inl (by simpa using h)
    ·
     refine .inr fun x hx hr => ?_
     have := List.all_eq_true.1 h x hx
     simpa [hr] using this)
   (fun x hx ha => by
    have := List.all_eq_true.1 hmay x hx
    simpa [ha] using this) X dst
  exact hK _ _ _ R₁
 · simp only [fail_some] at h
end
end Go.Proofs.YtbfgmnjhikaagaaGreatDoor.PM
namespace Go.Proofs.YtbfgmnjhikaagaaGreatDoor.PM
open Go
section
variable {P : Program} {cx : Cx} {w w' : World} {g g' : Nat → Option Nat} {look : Nat → Ob} {tmps : List T} {a : Act}
theorem phantoms : ∀ (news : List (Nat × Ob)) (g : Nat → Option Nat) (look : Nat → Ob), Rel cx g tmps look a w → (∀ p ∈ news, (look p.1).born = false ∧ ∃ k, p.2 = Ob.mkRow k []) → (news.map (·.1)).Nodup →
 ∃ g₂, Rel cx g₂ tmps (updL look news) a w ∧ Ext w g look (NN cx w g look) w g₂ (updL look news) (NN cx w g₂ (updL look news)) ∧ (∀ p ∈ news, g₂ p.1 = none ∧ updL look news p.1 = p.2) ∧ ∀ q, q ∉ news.map (·.1) → g₂ q = g q
 | [], g, look, R, _, _ => ⟨g, R, Ext.refl _ _ _ _, fun p hp => by simp at hp, fun _ _ => rfl⟩
 | (n, x) :: r, g, look, R, h, hn => by
  rw [List.map_cons, List.nodup_cons] at hn
  obtain ⟨hb, k, hx⟩ := h (n, x) (by simp)
  simp only at hb hx
  subst hx
  have R1 := phantom_new R hb k none none
  have E1 : Ext w g look (NN cx w g look) w (up g n none) (up look n (Ob.mkRow k [])) (NN cx w (up g n none) (up look n (Ob.mkRow k []))) := phantom_ext hb k
  obtain ⟨g₂, R2, E2, h1, h2⟩ := phantoms r (up g n none) (up look n (Ob.mkRow k [])) R1 (fun p hp => by
   obtain ⟨c1, c2⟩ := h p (List.mem_cons_of_mem _ hp)
   have : p.1 ≠ n := fun e => hn.1 (e ▸ List.mem_map.2 ⟨p, hp, rfl⟩)
   rw [up_ne _ _ this]
   exact ⟨c1, c2⟩) hn.2
  refine ⟨g₂, R2, E1.trans E2, fun p hp => ?_, fun q hq => ?_⟩
  ·
   rcases List.mem_cons.1 hp with rfl | hp
   ·
    refine ⟨(h2 n hn.1).trans (up_same _ _ _), ?_⟩
    show updL (up look n _) r n = _
    rw [updL_out r _ hn.1, up_same]
   · exact h1 p hp
  ·
   simp only [List.map_cons, List.mem_cons, not_or] at hq
   exact (h2 q hq.2).trans (up_ne _ _ hq.1)
def Out (look : Nat → Ob) (add : List (Nat × Ob)) (t t' : T) : Prop :=
 (t = .nil ∧ ∃ n k, (n, Ob.mkRow k []) ∈ add ∧ t' = .win n 0 0) ∨ (∃ l, (view1 t).run look = some (t', l)) ∨ (t' = t ∧ cellT t = true)
structure Outs (look : Nat → Ob) (nx nx' : Nat) (news : List (Nat × Ob)) : Prop where
 le : nx ≤ nx'
 add : ∀ p ∈ news, nx ≤ p.1 ∧ p.1 < nx' ∧ ∃ k, p.2 = Ob.mkRow k []
 nd : (news.map (·.1)).Nodup
theorem Outs.append {nx nx₁ nx₂ : Nat} {add₁ add₂ : List (Nat × Ob)} (h : Outs look nx nx₁ add₁) (k : Outs look nx₁ nx₂ add₂) : Outs look nx nx₂ (add₁ ++ add₂) := by
 refine ⟨Nat.le_trans h.le k.le, fun p hp => ?_, ?_⟩
 ·
  rcases List.mem_append.1 hp with hp | hp
  · obtain ⟨b1, b2, b3⟩ := h.add p hp; have := k.le; exact ⟨b1, by omega, b3⟩
  · obtain ⟨b1, b2, b3⟩ := k.add p hp; have := h.le; exact ⟨by omega, b2, b3⟩
 ·
  rw [List.map_append, List.nodup_append]
  refine ⟨h.nd, k.nd, fun p hp q hq => ?_⟩
  obtain ⟨p', hp', rfl⟩ := List.mem_map.1 hp
  obtain ⟨q', hq', rfl⟩ := List.mem_map.1 hq
  have := (h.add p' hp').2.1
  have := (k.add q' hq').1
  omega
theorem Outs.nil {nx : Nat} : Outs look nx nx [] := ⟨Nat.le_refl _, fun p hp => by simp at hp, by simp⟩
theorem Out.mono {add add' : List (Nat × Ob)} (ha : ∀ p ∈ add, p ∈ add') {t t' : T} (h : Out look add t t') : Out look add' t t' := by
 rcases h with ⟨b1, n, k, b2, b3⟩ | h
 · exact .inl ⟨b1, n, k, ha _ b2, b3⟩
 · exact .inr h
theorem outCell_ok {own : Bool} {m : Nat} {k : Option Nat} {t : T} {nx : Nat} {p : T × Nat × List (Nat × Ob)} (h : outCell own m look k t nx = some p) : Outs look nx p.2.1 p.2.2 ∧ Out look p.2.2 t p.1 ∧ cellT t = true := by
 unfold outCell at h
 split at h
 ·
  split at h
  ·
   obtain rfl := Option.some.inj h
   refine ⟨⟨Nat.le_succ _, fun p hp => ?_, by simp⟩, .inl ⟨rfl, nx, _, List.mem_singleton.2 rfl, rfl⟩, rfl⟩
   simp only [List.mem_singleton] at hp
   subst hp
   exact ⟨Nat.le_refl _, Nat.lt_succ_self _, _, rfl⟩
  ·
   obtain rfl := Option.some.inj h
   exact ⟨Outs.nil, .inr (.inl ⟨[], by simp [view1, Rd.run]⟩), rfl⟩
 ·
  split at h
  ·
   obtain rfl := Option.some.inj h
   exact ⟨Outs.nil, .inr (.inr ⟨rfl, rfl⟩), rfl⟩
  ·
   split at h
   ·
    rename_i o off len _ hc
    obtain rfl := Option.some.inj h
    refine ⟨Outs.nil, .inr (.inl ⟨[o], ?_⟩), rfl⟩
    simp only [view1, obj, Rd.run_bind, Rd.run, guardR, hc, if_true]
    rfl
   · cases h
 ·
  split at h
  ·
   obtain rfl := Option.some.inj h
   exact ⟨Outs.nil, .inr (.inr ⟨rfl, rfl⟩), rfl⟩
  · cases h
 ·
  obtain rfl := Option.some.inj h
  exact ⟨Outs.nil, .inr (.inr ⟨rfl, rfl⟩), rfl⟩
 ·
  obtain rfl := Option.some.inj h
  exact ⟨Outs.nil, .inr (.inr ⟨rfl, rfl⟩), rfl⟩
 ·
  obtain rfl := Option.some.inj h
  exact ⟨Outs.nil, .inr (.inr ⟨rfl, rfl⟩), rfl⟩
 · cases h
theorem outCells_ok {own : Bool} {m : Nat} : ∀ {ks : List (Option Nat)} {ts : List T} {nx : Nat} {p : List T × Nat × List (Nat × Ob)}, outCells own m look ks ts nx = some p →
 Outs look nx p.2.1 p.2.2 ∧ p.1.length = ts.length ∧ ∀ (i : Nat) t', p.1[i]? = some t' → ∃ t, ts[i]? = some t ∧ Out look p.2.2 t t'
 | [], [], nx, p, h => by
  simp only [outCells, Option.some.injEq] at h
  subst h
  exact ⟨Outs.nil, rfl, fun i t ht => by simp at ht⟩
 | [], t :: ts, nx, p, h => by simp [outCells] at h
 | k :: ks, [], nx, p, h => by simp [outCells] at h
 | k :: ks, t :: ts, nx, p, h => by
  simp only [outCells] at h
  split at h
  · cases h
  ·
   rename_i p1 h1
   split at h
   · cases h
   ·
    rename_i p2 h2
    obtain rfl := Option.some.inj h
    obtain ⟨a1, a2, _⟩ := outCell_ok h1
    obtain ⟨b1, b2, b3⟩ := outCells_ok h2
    refine ⟨a1.append b1, by simp [b2], fun i t' ht => ?_⟩
    cases i with
    | zero =>
     simp only [List.getElem?_cons_zero, Option.some.injEq] at ht
     subst ht
     exact ⟨t, rfl, a2.mono fun q hq => List.mem_append_left _ hq⟩
    | succ i =>
     obtain ⟨t0, c1, c2⟩ := b3 i t' (by simpa using ht)
     exact ⟨t0, by simpa using c1, c2.mono fun q hq => List.mem_append_right _ hq⟩
def OutV (look : Nat → Ob) (add : List (Nat × Ob)) (t t' : T) : Prop :=
 (∃ cs cs', t = .agg cs ∧ t' = .agg cs' ∧ cs'.length = cs.length ∧ ∀ (i : Nat) c', cs'[i]? = some c' → ∃ c, cs[i]? = some c ∧ Out look add c c') ∨ (Out look add t t' ∧ cellT t = true)
theorem outOne_ok {own : Bool} {m : Nat} {ty : TypeId} {t : T} {nx : Nat} {p : T × Nat × List (Nat × Ob)} (h : outOne P own m look ty t nx = some p) : Outs look nx p.2.1 p.2.2 ∧ OutV look p.2.2 t p.1 := by
 unfold outOne at h
 split at h
 · cases h
 ·
  split at h
  ·
   simp only [Option.map_eq_some_iff] at h
   obtain ⟨q, hq, rfl⟩ := h
   obtain ⟨a1, a2, a3⟩ := outCells_ok hq
   exact ⟨a1, .inl ⟨_, _, rfl, rfl, a2, a3⟩⟩
  ·
   split at h
   ·
    obtain ⟨a1, a2, a3⟩ := outCell_ok h
    exact ⟨a1, .inr ⟨a2, a3⟩⟩
   · cases h
theorem OutV.mono {add add' : List (Nat × Ob)} (ha : ∀ p ∈ add, p ∈ add') {t t' : T} (h : OutV look add t t') : OutV look add' t t' := by
 rcases h with ⟨cs, cs', h1, h2, h3, h4⟩ | ⟨h, h'⟩
 · exact .inl ⟨cs, cs', h1, h2, h3, fun i c' hc => let ⟨c, b1, b2⟩ := h4 i c' hc; ⟨c, b1, b2.mono ha⟩⟩
 · exact .inr ⟨h.mono ha, h'⟩
theorem outMany_ok {own : Bool} {m : Nat} : ∀ {tys : List TypeId} {ts : List T} {nx : Nat} {p : List T × Nat × List (Nat × Ob)}, outMany P own m look tys ts nx = some p →
 Outs look nx p.2.1 p.2.2 ∧ p.1.length = ts.length ∧ ∀ (i : Nat) t', p.1[i]? = some t' → ∃ t, ts[i]? = some t ∧ OutV look p.2.2 t t'
 | [], [], nx, p, h => by
  simp only [outMany, Option.some.injEq] at h
  subst h
  exact ⟨Outs.nil, rfl, fun i t ht => by simp at ht⟩
 | [], t :: ts, nx, p, h => by simp [outMany] at h
 | k :: ks, [], nx, p, h => by simp [outMany] at h
 | k :: ks, t :: ts, nx, p, h => by
  simp only [outMany] at h
  split at h
  · cases h
  ·
   rename_i p1 h1
   split at h
   · cases h
   ·
    rename_i p2 h2
    obtain rfl := Option.some.inj h
    obtain ⟨a1, a2⟩ := outOne_ok h1
    obtain ⟨b1, b2, b3⟩ := outMany_ok h2
    refine ⟨a1.append b1, by simp [b2], fun i t' ht => ?_⟩
    cases i with
    | zero =>
     simp only [List.getElem?_cons_zero, Option.some.injEq] at ht
     subst ht
     exact ⟨t, rfl, a2.mono fun q hq => List.mem_append_left _ hq⟩
    | succ i =>
     obtain ⟨t0, c1, c2⟩ := b3 i t' (by simpa using ht)
     exact ⟨t0, by simpa using c1, c2.mono fun q hq => List.mem_append_right _ hq⟩
theorem Out.fr (R : Rel cx g tmps look a w) {add : List (Nat × Ob)} {g₂ : Nat → Option Nat} (E : Ext w g look (NN cx w g look) w g₂ (updL look add) (NN cx w g₂ (updL look add))) (hadd : ∀ p ∈ add, updL look add p.1 = p.2) {v : Value} {t t' : T} (hv : FrC w g look (NN cx w g look) v t) (h : Out look add t t') :
 FrC w g₂ (updL look add) (NN cx w g₂ (updL look add)) v t' := by
 rcases h with ⟨rfl, n, k, hn, rfl⟩ | ⟨l, h⟩ | ⟨rfl, _⟩
 ·
  obtain ⟨ad, rfl⟩ := hv
  have := hadd _ hn
  simp only at this
  refine ⟨by rw [this], ⟨_, _, rfl, Nat.le_refl _, .inl rfl⟩, fun _ => ⟨_, _, rfl, Nat.le_refl _, .inl rfl⟩⟩
 · exact FrC.mono E (view1_ok R hv h).1
 · exact FrC.mono E hv
theorem OutV.fr (R : Rel cx g tmps look a w) {add : List (Nat × Ob)} {g₂ : Nat → Option Nat} (E : Ext w g look (NN cx w g look) w g₂ (updL look add) (NN cx w g₂ (updL look add))) (hadd : ∀ p ∈ add, updL look add p.1 = p.2) {v : Value} {t t' : T} (hv : FrA w g look (NN cx w g look) v t) (h : OutV look add t t') :
 FrA w g₂ (updL look add) (NN cx w g₂ (updL look add)) v t' := by
 rcases h with ⟨cs, cs', rfl, rfl, h1, h2⟩ | ⟨h, hc⟩
 ·
  obtain ⟨vs, rfl, h3, h4⟩ := hv
  refine ⟨vs, rfl, by omega, fun i c' hc => ?_⟩
  obtain ⟨c, h5, h6⟩ := h2 i c' hc
  obtain ⟨u, h7, h8⟩ := h4 i c h5
  exact ⟨u, h7, h6.fr R E hadd h8⟩
 ·
  have hf : FrC w g look (NN cx w g look) v t := by rw [frA_eq (by rintro cs rfl; cases hc)] at hv; exact hv
  have := h.fr R E hadd hf
  rw [frA_eq (by rintro cs rfl; exact this)]
  exact this
end
end Go.Proofs.YtbfgmnjhikaagaaGreatDoor.PM
namespace Go.Proofs.YtbfgmnjhikaagaaGreatDoor.PM
open Go
section
variable {P : Program} {cx : Cx} {w w' : World} {g g' : Nat → Option Nat} {look : Nat → Ob} {tmps : List T} {a : Act}
theorem names_ok (R : Rel cx g tmps look a w) {K : List Nat} (hnd : K.Nodup) {sg : List (Nat × Nat) → Option (List (Nat × Nat))} (hsg : srcN K look (fun _ => 0) = sg) {look' : Nat → Ob} {g' : Nat → Option Nat}
 (hat : ∀ (j o : Nat), K[j]? = some o → look' j = { mapOb (posIn K) sg (look o) with ver := 0 } ∧ g' j = g o) (hout : ∀ j, K[j]? = none → look' j = .gone) :
 Ren w g look (NN cx w g look) w g' look' (NN cx w g' look') (posIn K) sg ∧ (∀ j, RootV w g' look' (NN cx w g' look') j) ∧ (∀ o o' b, Own look' o → Own look' o' → g' o = some b → g' o' = some b → o = o') ∧
 ∀ o b, (look' o).alive = true → g' o = some b → b < w.heap.size ∧ if (look' o).may then cx.w0.heap.size ≤ b ∨ cx.Lb b else NN cx w g' look' b := by
 have hmo : ∀ o, (mapOb (posIn K) sg (look o)).alive = (look o).alive ∧ (mapOb (posIn K) sg (look o)).born = (look o).born ∧ (mapOb (posIn K) sg (look o)).may = (look o).may ∧ (mapOb (posIn K) sg (look o)).k = (look o).k ∧ (mapOb (posIn K) sg (look o)).ver = (look o).ver := fun o => by
  unfold mapOb; split <;> exact ⟨rfl, rfl, rfl, rfl, rfl⟩
 have halive : ∀ j, (look' j).alive = true → ∃ o, K[j]? = some o ∧ (look o).alive = true := fun j hj => by
  cases hk : K[j]? with
  | none => rw [hout j hk] at hj; cases hj
  | some o => rw [(hat j o hk).1] at hj; exact ⟨o, rfl, (hmo o).1.symm.trans hj⟩
 have hown : ∀ j, Own look' j → ∃ o, K[j]? = some o ∧ Own look o ∧ g' j = g o := fun j hj => by
  obtain ⟨o, h1, h2⟩ := halive j hj.1
  refine ⟨o, h1, ⟨h2, ?_⟩, (hat j o h1).2⟩
  have := hj.2
  rw [(hat j o h1).1] at this
  exact (hmo o).2.2.1.symm.trans this
 have hNN : ∀ b, NN cx w g look b → NN cx w g' look' b := fun b ⟨h1, h2, h3⟩ => ⟨h1, h2, fun j hj hg => by
  obtain ⟨o, _, h5, h6⟩ := hown j hj
  exact h3 o h5 (h6.symm.trans hg)⟩
 have E : Ren w g look (NN cx w g look) w g' look' (NN cx w g' look') (posIn K) sg := by
  refine ⟨fun o j hj hb => ?_, fun l l' hl hok => ?_⟩
  ·
   obtain ⟨h1, h2⟩ := hat j o (posIn_some hj)
   rw [h1, h2]
   refine ⟨(hmo o).2.1.trans hb, fun ha => ⟨(hmo o).1.symm.trans ha, (hmo o).2.2.2.1, rfl, fun _ _ => rfl⟩⟩
  ·
   rw [← hsg] at hl
   unfold srcN at hl
   split at hl
   ·
    rename_i hvb
    obtain rfl := Option.some.inj hl
    have hval : valid look l := fun p hp => by
     have := List.all_eq_true.1 hvb p hp
     simpa using this
    refine ⟨fun p hp => ?_, fun _ => ⟨hval, fun b hb => ⟨?_, rfl⟩⟩⟩
    ·
     obtain ⟨q, hq, hqp⟩ := List.mem_filterMap.1 hp
     simp only [Option.map_eq_some_iff] at hqp
     obtain ⟨j, hj, rfl⟩ := hqp
     rw [(hat j q.1 (posIn_some hj)).1]
     exact ⟨(hmo q.1).2.1.trans (hok q hq).1, Nat.zero_le _⟩
    ·
     rcases hb with hb | ⟨p, hp, hgb⟩
     · exact .inl (hNN b hb)
     ·
      cases hpos : posIn K p.1 with
      | some j => exact .inr ⟨(j, 0), List.mem_filterMap.2 ⟨p, hp, by simp [hpos]⟩, (hat j p.1 (posIn_some hpos)).2.trans hgb⟩
      | none =>
       left
       obtain ⟨h1, h2⟩ := R.blk p.1 b (hval p hp).1 hgb
       by_cases hm : (look p.1).may = true
       ·
        rw [if_pos hm] at h2
        refine ⟨h1, .inr h2, fun j hj hgj => ?_⟩
        obtain ⟨o, h5, h6, h7⟩ := hown j hj
        have := R.inj o p.1 b h6 ⟨(hval p hp).1, hm⟩ (h7.symm.trans hgj) hgb
        subst this
        exact posIn_none hpos (List.mem_of_getElem? h5)
       ·
        rw [if_neg hm] at h2
        exact hNN b h2
   · cases hl
 refine ⟨E, fun j => ?_, fun j j' b h1 h2 h3 h4 => ?_, fun j b ha hgb => ?_⟩
 ·
  cases hk : K[j]? with
  | none => intro ha; rw [hout j hk] at ha; cases ha
  | some o =>
   obtain ⟨h1, h2⟩ := hat j o hk
   refine RootV.ren E (R.rt o) { mapOb (posIn K) sg (look o) with ver := 0 } ?_ h1 h2 (fun _ _ => rfl) (fun _ _ _ _ _ _ _ v h => h.mono fun b hb => ⟨hNN b hb, rfl⟩)
   unfold mapOb
   cases (look o).row <;> rfl
 ·
  obtain ⟨o, a1, a2, a3⟩ := hown j h1
  obtain ⟨o', b1, b2, b3⟩ := hown j' h2
  have := R.inj o o' b a2 b2 (a3.symm.trans h3) (b3.symm.trans h4)
  subst this
  exact nodup_at hnd a1 b1
 ·
  obtain ⟨o, h1, h2⟩ := halive j ha
  obtain ⟨h3, h4⟩ := hat j o h1
  obtain ⟨h5, h6⟩ := R.blk o b h2 (h4.symm.trans hgb)
  refine ⟨h5, ?_⟩
  have hmay : (look' j).may = (look o).may := by rw [h3]; exact (hmo o).2.2.1
  rw [hmay]
  split
  · rename_i hm; rw [if_pos hm] at h6; exact h6
  · rename_i hm; rw [if_neg hm] at h6; exact hNN b h6
theorem results_run (R : Rel cx g tmps look a w) {s : St} (hs : s.tmps = tmps) : ∀ {rs : List ResultVar} {ts : List T} {l : List Nat}, (mapR (fun r => match r with
 | .tmp t => Rd.ret ((s.tmps[t]?).getD .dead)
 | .cell a t => loadR P t ((s.tmps[a]?).getD .dead)) rs).run look = some (ts, l) →
 ∃ vs : List Value, (rs.mapM fun
  | .tmp t => pure (a.tmps.getD t undef)
  | .cell c t => do loadVar t (← asAddr (a.tmps.getD c undef)) : Sem (List Value)).run P w = .ok vs w ∧ vs.length = ts.length ∧ ∀ (i : Nat) t, ts[i]? = some t → ∃ v, vs[i]? = some v ∧ FrV w g look (NN cx w g look) v t
 | [], ts, l, h => by
  simp only [mapR, ret_some] at h
  obtain ⟨rfl, _⟩ := h
  exact ⟨[], rfl, rfl, fun i t ht => by simp at ht⟩
 | r :: rs, ts, l, h => by
  simp only [mapR, bind_some, pure_some] at h
  obtain ⟨t, _, _, h1, ⟨ts', _, _, h2, ⟨rfl, _⟩, _⟩, _⟩ := h
  obtain ⟨vs, h3, h4, h5⟩ := results_run R hs h2
  have htmp : ∀ x, FrV w g look (NN cx w g look) (a.tmps.getD x undef) ((s.tmps[x]?).getD .dead) := fun x => by
   have := eval_ok R (.tmp x)
   simp only [evalT, Act.eval] at this
   rw [hs]
   exact this
  have hone : ∃ v, ((match r with
   | .tmp t => pure (a.tmps.getD t undef)
   | .cell c t => do loadVar t (← asAddr (a.tmps.getD c undef)) : Sem Value).run P w) = .ok v w ∧ FrV w g look (NN cx w g look) v t := by
   cases r with
   | tmp x =>
    simp only [ret_some] at h1
    obtain ⟨rfl, _⟩ := h1
    exact ⟨_, rfl, htmp x⟩
   | cell c ty =>
    simp only at h1
    obtain ⟨v, h6, h7⟩ := load_ok (P := P) R (htmp c) h1
    refine ⟨v, ?_, h7⟩
    have hp : ∃ ad, a.tmps.getD c undef = .pointer (some ad) := by
     have := htmp c
     cases hx : (s.tmps[c]?).getD .dead with
     | ptr o i j => rw [hx] at this; obtain ⟨_, ⟨b, off, hh⟩, _⟩ := this; exact ⟨_, hh⟩
     | rp x j src => rw [hx] at this; obtain ⟨⟨b, off, hh⟩, _⟩ := this; exact ⟨_, hh⟩
     | _ => rw [hx] at h1; simp only [loadR, fail_some] at h1
    obtain ⟨ad, hh⟩ := hp
    show ((do loadVar ty (← asAddr (a.tmps.getD c undef)) : Sem Value).run P w) = .ok v w
    rw [hh] at h6 ⊢
    simp only [Instr.loadAt, Instr.sureAddr, Sem.run_bind, Sem.run_pure, Result.andThen_ok] at h6
    simp only [asAddr, Sem.run_bind, Sem.run_pure, Result.andThen_ok]
    exact h6
  obtain ⟨v, h6, h7⟩ := hone
  refine ⟨v :: vs, ?_, by simp [h4], fun i t' ht => ?_⟩
  ·
   rw [List.mapM_cons, Sem.run_bind, h6, Result.andThen_ok, Sem.run_bind, h3, Result.andThen_ok]
   rfl
  ·
   cases i with
   | zero => simp only [List.getElem?_cons_zero, Option.some.injEq] at ht; subst ht; exact ⟨v, rfl, h7⟩
   | succ i => simpa using h5 i t' (by simpa using ht)
theorem results_ok (R : Rel cx g tmps look a w) {s : St} (hs : s.tmps = tmps) {fn : Func} {r : T} {l : List Nat} (h : (resR P fn s).run look = some (r, l)) :
 ∃ v, (results fn a.tmps).run P w = .ok v w ∧ ((FrV w g look (NN cx w g look) v r) ∨ ∃ (vs : Array Value) (ts : List T), v = .tuple vs ∧ r = .tup ts ∧ vs.size = ts.length ∧ ∀ (i : Nat) t, ts[i]? = some t → ∃ u, vs[i]? = some u ∧ FrV w g look (NN cx w g look) u t) := by
 simp only [resR, bind_some] at h
 obtain ⟨ts, _, _, h1, h2, _⟩ := h
 obtain ⟨vs, h3, h4, h5⟩ := results_run R hs h1
 have hrun : (results fn a.tmps).run P w = .ok (if h : vs.toArray.size = 1 then vs.toArray[0] else .tuple vs.toArray) w := by
  unfold results
  rw [Sem.run_bind, Array.mapM_eq_mapM_toList, Sem.run_map]
  exact (congrArg (fun r : Result (List Value) => Result.andThen (Result.andThen r fun a w' => Result.ok a.toArray w') fun a w' => Sem.run P (pure (if h : a.size = 1 then a[0] else Value.tuple a)) w') h3).trans rfl
 refine ⟨_, hrun, ?_⟩
 split at h2
 ·
  rename_i t
  simp only [pure_some] at h2
  obtain ⟨rfl, _⟩ := h2
  obtain ⟨v, h6, h7⟩ := h5 0 r rfl
  left
  have h1 : vs.toArray.size = 1 := by simpa using h4
  rw [dif_pos h1]
  have : vs.toArray[0] = v := by
   have : vs = [v] := by
    match vs, h4, h6 with
    | [x], _, h6 => simp at h6; rw [h6]
   subst this
   rfl
  rw [this]
  exact h7
 ·
  rename_i hne
  simp only [pure_some] at h2
  obtain ⟨rfl, _⟩ := h2
  right
  have h1 : ¬ vs.toArray.size = 1 := fun hh => by
   have : ts.length = 1 := by rw [← h4]; simpa using hh
   match ts, this with
   | [t], _ => exact hne t rfl
  rw [dif_neg h1]
  refine ⟨_, _, rfl, rfl, by simpa using h4, fun i t ht => ?_⟩
  obtain ⟨v, h6, h7⟩ := h5 i t ht
  exact ⟨v, by simpa using h6, h7⟩
end
end Go.Proofs.YtbfgmnjhikaagaaGreatDoor.PM
namespace Go.Proofs.YtbfgmnjhikaagaaGreatDoor.PM
open Go
section
variable {P : Program} {cx : Cx} {w w' : World} {g g' : Nat → Option Nat} {look : Nat → Ob} {tmps : List T} {a : Act}
theorem OutV.notup {add : List (Nat × Ob)} {t t' : T} (h : OutV look add t t') : (∀ ts, t ≠ .tup ts) ∧ ∀ ts, t' ≠ .tup ts := by
 rcases h with ⟨cs, cs', rfl, rfl, _⟩ | ⟨h, hc⟩
 · exact ⟨fun _ h => (by cases h), fun _ h => (by cases h)⟩
 ·
  refine ⟨fun ts e => by subst e; (cases hc), fun ts e => ?_⟩
  subst e
  rcases h with ⟨_, n, k, _, h⟩ | ⟨l, h⟩ | ⟨h, _⟩
  · cases h
  ·
   cases t <;> simp only [view1, bind_some, ret_some, pure_some, fail_some] at h
   · cases h.1
   · cases h.1
   · obtain ⟨_, _, _, _, ⟨h, _⟩, _⟩ := h; cases h
   · obtain ⟨_, _, _, _, ⟨_, _, _, _, ⟨h, _⟩, _⟩, _⟩ := h; cases h
  · subst h; cases hc
theorem give_ok {s : St} {w0 : World} {g0 : Nat → Option Nat} {N : Nat → Prop} {objs objs' : List Ob} (hcx : cx = cxOf w0 g0 N objs) (R : RelS cx g s a w) (hm : s.m = objs.length) {fn : Func} {own : Bool} {r : T} (h : giveR P fn own objs.length s = some (r, objs')) :
 ∃ v, (results fn a.tmps).run P w = .ok v w ∧ ∃ g', Exi w0 g0 N objs w g' objs' v r := by
 subst hcx
 obtain ⟨R, hws, _⟩ := R
 unfold giveR at h
 split at h
 · cases h
 ·
  rename_i p hres
  split at h
  · cases h
  ·
   rename_i q hq
   simp only [Option.some.injEq, Prod.mk.injEq] at h
   obtain ⟨h1, h2⟩ := h
   obtain ⟨v, hv1, hv2⟩ := results_ok (P := P) R rfl (l := p.2) hres
   refine ⟨v, hv1, ?_⟩
   have hout : Outs (lookIn s.store) s.nx q.2.1 q.2.2 ∧ ((OutV (lookIn s.store) q.2.2 p.1 q.1) ∨ ∃ rs rs', p.1 = .tup rs ∧ q.1 = .tup rs' ∧ rs'.length = rs.length ∧ ∀ (i : Nat) t', rs'[i]? = some t' → ∃ t, rs[i]? = some t ∧ OutV (lookIn s.store) q.2.2 t t') := by
    unfold outAll at hq
    split at hq
    ·
     obtain ⟨b1, b2⟩ := outOne_ok hq
     exact ⟨b1, .inl b2⟩
    ·
     split at hq
     ·
      rename_i rs hp
      simp only [Option.map_eq_some_iff] at hq
      obtain ⟨q', hq', rfl⟩ := hq
      obtain ⟨b1, b2, b3⟩ := outMany_ok hq'
      exact ⟨b1, .inr ⟨rs, q'.1, hp, rfl, b2, b3⟩⟩
     · cases hq
   obtain ⟨hO, hO2⟩ := hout
   obtain ⟨g₂, R₂, E, hadd, hg2⟩ := phantoms q.2.2 g (lookIn s.store) R (fun x hx => ⟨hws x.1 (hO.add x hx).1, (hO.add x hx).2.2⟩) hO.nd
   have hval : FrV w g₂ (updL (lookIn s.store) q.2.2) (NN (cxOf w0 g0 N objs) w g₂ (updL (lookIn s.store) q.2.2)) v q.1 := by
    have haddv : ∀ x ∈ q.2.2, updL (lookIn s.store) q.2.2 x.1 = x.2 := fun x hx => (hadd x hx).2
    rcases hO2 with hO2 | ⟨rs, rs', e1, e2, e3, e4⟩
    ·
     obtain ⟨n1, n2⟩ := hO2.notup
     rcases hv2 with hv2 | ⟨vs, ts, _, h4, _⟩
     ·
      rw [frV_eq n1] at hv2
      rw [frV_eq n2]
      exact hO2.fr R E haddv hv2
     · exact absurd h4 (n1 ts)
    ·
     have hcomp : ∃ vs : Array Value, v = .tuple vs ∧ vs.size = rs.length ∧ ∀ (i : Nat) t, rs[i]? = some t → (∀ ts, t ≠ .tup ts) → ∃ u, vs[i]? = some u ∧ FrA w g (lookIn s.store) (NN (cxOf w0 g0 N objs) w g (lookIn s.store)) u t := by
      rcases hv2 with hv2 | ⟨vs, ts, h3, h4, h5, h6⟩
      ·
       rw [e1] at hv2
       obtain ⟨vs, h3, h4, h5⟩ := hv2
       exact ⟨vs, h3, h4, fun i t ht _ => h5 i t ht⟩
      ·
       rw [e1] at h4
       obtain rfl := T.tup.inj h4
       refine ⟨vs, h3, h5, fun i t ht hn => ?_⟩
       obtain ⟨u, h7, h8⟩ := h6 i t ht
       rw [frV_eq hn] at h8
       exact ⟨u, h7, h8⟩
     obtain ⟨vs, h3, h4, h5⟩ := hcomp
     rw [e2]
     refine ⟨vs, h3, by omega, fun i t' ht' => ?_⟩
     obtain ⟨t, h6, h7⟩ := e4 i t' ht'
     obtain ⟨u, h8, h9⟩ := h5 i t h6 h7.notup.1
     exact ⟨u, h8, h7.fr R E haddv h9⟩
   have hlk : lookIn (putAll s.store q.2.2) = updL (lookIn s.store) q.2.2 := lookIn_putAll _ _
   rw [hlk] at h1 h2
   generalize updL (lookIn s.store) q.2.2 = look₂ at *
   generalize hK : List.range objs.length ++ (reachN look₂ 64 (List.range objs.length ++ refs q.1) []).filter (fun o => !decide (o < objs.length)) = K at h1 h2
   have hnd : K.Nodup := by
    rw [← hK, List.nodup_append]
    refine ⟨List.nodup_range, (reachN_nodup _ _ _ _ (by simp)).filter _, fun a ha b hb => ?_⟩
    have h1 : a < objs.length := by simpa using ha
    have h2 := (List.mem_filter.1 hb).2
    intro e
    subst e
    simp [h1] at h2
   have hKm : ∀ j, j < objs.length → K[j]? = some j := fun j hj => by
    rw [← hK, List.getElem?_append_left (by simpa using hj)]
    simp [hj]
   generalize hsg : srcN K look₂ (fun _ => 0) = sg at h1 h2
   have hat : ∀ (j o : Nat), K[j]? = some o → lookOf objs' j = { mapOb (posIn K) sg (look₂ o) with ver := 0 } ∧ (fun j => (K[j]?).bind g₂) j = g₂ o := fun j o hj => by
    rw [← h2]
    simp [lookOf, hj]
   have hgone : ∀ j, K[j]? = none → lookOf objs' j = .gone := fun j hj => by
    rw [← h2]
    simp [lookOf, hj]
   obtain ⟨hRen, hrt, hinj, hblk⟩ := names_ok R₂ hnd hsg (look' := lookOf objs') (g' := fun j => (K[j]?).bind g₂) hat hgone
   refine ⟨fun j => (K[j]?).bind g₂, ?_, hrt, hinj, hblk, R₂.keep, R₂.hsz, R₂.os, R₂.tape, R₂.output, fun j hj => ?_⟩
   ·
    rw [← h1]
    exact hval.ren hRen
   ·
    obtain ⟨b1, b2⟩ := hat j j (hKm j hj)
    obtain ⟨c1, c2⟩ := R₂.lent j hj
    obtain ⟨n1, n2, n3, n4, n5⟩ := mapOb_same (f := posIn K) (sg := sg) (look₂ j)
    rw [b1]
    refine ⟨n1.trans c1, fun ha => ?_⟩
    obtain ⟨d1, d2, d3, d4⟩ := c2 (n2.symm.trans ha)
    exact ⟨d1, n5.trans d2, b2.trans d3, d4⟩
theorem start_ok {w : World} {g : Nat → Option Nat} {N : Nat → Prop} {objs : List Ob} {args : List T} {vs : Array Value} (H : Ent w g N objs args vs) (n : Nat) :
 RelS (cxOf w g N objs) g ⟨args ++ List.replicate (n - args.length) undT, objs.zipIdx.map fun p => (p.2, p.1), objs.length, objs.length⟩ { tmps := vs ++ Array.replicate (n - vs.size) undef, defers := [] } w := by
 have hlk : lookIn (objs.zipIdx.map fun p => (p.2, p.1)) = lookOf objs := by
  funext j
  have := lookIn_zip0 (fun x : Ob => x) objs j
  simpa [lookOf] using this
 have hNN : ∀ b, N b → NN (cxOf w g N objs) w g (lookOf objs) b := fun b hb => ⟨H.n b hb, .inl hb, fun o ho hg => by
  have := (H.blk o b ho.1 hg).2
  rw [if_pos ho.2] at this
  exact this hb⟩
 have E : Ext w g (lookOf objs) N w g (lookOf objs) (NN (cxOf w g N objs) w g (lookOf objs)) :=
  ⟨fun b hb => ⟨hNN b hb, rfl⟩, fun o hb => ⟨hb, Nat.le_refl _, fun ha => ⟨ha, rfl, rfl, fun _ _ => ⟨rfl, fun _ => rfl⟩⟩⟩⟩
 refine ⟨?_, fun q hq => ?_, rfl⟩
 ·
  show Rel (cxOf w g N objs) g (args ++ List.replicate (n - args.length) undT) (lookIn (objs.zipIdx.map fun p => (p.2, p.1))) _ w
  rw [hlk]
  refine ⟨by simp [H.size], rfl, fun t x hx => ?_, fun o => RootV.mono E (H.rt o) rfl rfl (fun _ _ => rfl), H.inj, fun o b ha hg => ?_, fun _ _ _ => rfl, Nat.le_refl _, rfl, rfl, rfl, H.n, fun b hb => ?_, fun j hj => ⟨H.born j hj, fun ha => ⟨ha, rfl, rfl, fun _ _ => rfl⟩⟩⟩
  ·
   by_cases ht : t < args.length
   ·
    rw [List.getElem?_append_left ht] at hx
    obtain ⟨v, h1, h2⟩ := H.args t x hx
    have : (vs ++ Array.replicate (n - vs.size) undef).getD t undef = v := by
     simp only [Array.getD_eq_getD_getElem?]
     rw [Array.getElem?_append_left (by rw [H.size]; exact ht), h1]
     rfl
    simp only
    rw [this]
    exact h2.mono E
   ·
    rw [List.getElem?_append_right (by omega)] at hx
    simp only [List.getElem?_replicate] at hx
    split at hx
    ·
     obtain rfl := Option.some.inj hx
     rename_i hlt
     have : (vs ++ Array.replicate (n - vs.size) undef).getD t undef = undef := by
      simp only [Array.getD_eq_getD_getElem?]
      rw [Array.getElem?_append_right (by rw [H.size]; omega)]
      simp only [Array.getElem?_replicate]
      split <;> rfl
     simp only
     rw [this]
     exact ⟨#[], rfl, rfl, fun i c hc => by simp at hc⟩
    · cases hx
  ·
   obtain ⟨h1, h2⟩ := H.blk o b ha hg
   refine ⟨h1, ?_⟩
   split
   ·
    rename_i hm
    exact .inr ⟨o, ⟨ha, hm⟩, hg⟩
   ·
    rename_i hm
    rw [if_neg hm] at h2
    exact hNN b h2
  ·
   obtain ⟨o, ho, hg⟩ := hb
   exact (H.blk o b ho.1 hg).1
 ·
  show (lookIn (objs.zipIdx.map fun p => (p.2, p.1)) q).born = false
  rw [hlk]
  have : objs[q]? = none := List.getElem?_eq_none hq
  simp [lookOf, this, Ob.gone]
end
def PrimOk (P : Program) (prim : FuncId → Option (List T → List Ob → Option (T × List Ob))) : Prop :=
 ∀ f D, prim f = some D → ∀ args objs r objs', D args objs = some (r, objs') → FnOk P f ∧ CallOk P f args objs r objs'
theorem callF_ok {P : Program} {C : Cert} {prim : FuncId → Option (List T → List Ob → Option (T × List Ob))} (hm : P.follows .mixedOrders = true) (hn : P.funcs.all (fun fn => fn.name != "runtime.NumGoroutine") = true) (hp : PrimOk P prim) :
 ∀ n, CallsOk P ⟨callF P C prim n, fun f => (C f).lent⟩ := by
 intro n
 induction n with
 | zero => intro f args objs r objs' h; simp only [callF] at h; cases h
 | succ n ih =>
  intro f args objs r objs' h
  simp only [callF] at h
  split at h
  ·
   rename_i d hd
   exact hp f d hd args objs r objs' h
  ·
   split at h
   · cases h
   ·
    rename_i fn hf
    split at h
    · cases h
    ·
     rename_i c hc
     split at h
     case isFalse => cases h
     rename_i hoc
     have hname : (fn.name == "runtime.NumGoroutine") = false := by
      have := Array.all_eq_true_iff_forall_mem.1 hn fn (Array.mem_of_getElem? hf)
      simpa using this
     refine ⟨⟨fn, hf, hname, by simp [hc]⟩, fun w g N vs H G => ?_⟩
     refine calls_of_wp hf hc ?_
     have S := start_ok H fn.ntmps
     have hdoes := exec_does (P := P) (E := ⟨callF P C prim n, fun f => (C f).lent⟩) (cx := cxOf w g N objs) (cert := C f) (n := n) (env_ok ih ⟨G, fun b hb => fun ⟨o, ho, hg⟩ => by
      have := (H.blk o b ho.1 hg).2
      rw [if_pos ho.2] at this
      exact this hb⟩) hm c hoc
     have fin : ∀ (ex : Ex) (s : St), (ex = .normal ∨ ex = .ret) → exec P ⟨callF P C prim n, fun f => (C f).lent⟩ (C f) n c ⟨args ++ List.replicate (fn.ntmps - args.length) undT, objs.zipIdx.map fun p => (p.2, p.1), objs.length, objs.length⟩ = some (ex, s) → giveR P fn (C f).own objs.length s = some (r, objs') →
      c.wp P (bodyPost P fn fun e w' => ∃ v g', e = .returned v ∧ Exi w g N objs w' g' objs' v r) { tmps := vs ++ Array.replicate (fn.ntmps - vs.size) undef, defers := [] } w := by
      intro ex s hex h1 h2
      refine hdoes _ s ex g _ w S h1 _ (fun g' a' w' R' => ?_)
      have hR' := R'
      obtain ⟨v, h3, g'', h4⟩ := give_ok rfl R' R'.2.2.symm h2
      have : bodyPost P fn (fun e w' => ∃ v g', e = .returned v ∧ Exi w g N objs w' g' objs' v r) .ret a' w' := ⟨hR'.1.dfr, v, h3, v, g'', rfl, h4⟩
      rcases hex with rfl | rfl
      · exact this
      · exact this
     split at h
     ·
      rename_i s hs
      exact fin .normal s (.inl rfl) hs h
     ·
      rename_i s hs
      exact fin .ret s (.inr rfl) hs h
     · cases h
end Go.Proofs.YtbfgmnjhikaagaaGreatDoor.PM
namespace Go.Proofs.YtbfgmnjhikaagaaGreatDoor.PM
open Go
def Env.le (E E' : Env) : Prop := E.lent = E'.lent ∧ ∀ f args objs r, E.call f args objs = some r → E'.call f args objs = some r
section
variable {P : Program} {E E' : Env} {α β : Type} {look : Nat → Ob}
theorem callR_mono (h : E.le E') {f : FuncId} {args : List T} {base : Nat} {e : Eff} {l : List Nat} (hr : (callR E f args base).run look = some (e, l)) : (callR E' f args base).run look = some (e, l) := by
 obtain ⟨h1, h2⟩ := h
 simp only [callR, bind_some, opt_some] at hr ⊢
 rw [← h1]
 obtain ⟨aas, a1, a2, a3, ⟨lv, b1, b2, b3, ⟨u, c1, c2, c3, ⟨ro, d1, d2, ⟨d3, d4⟩, d5, d6⟩, c4⟩, b4⟩, a4⟩ := hr
 exact ⟨aas, a1, a2, a3, ⟨lv, b1, b2, b3, ⟨u, c1, c2, c3, ⟨ro, d1, d2, ⟨h2 _ _ _ _ d3, d4⟩, d5, d6⟩, c4⟩, b4⟩, a4⟩
theorem opR_mono (h : E.le E') {tmps : List T} {base : Nat} {o : Oper} {e : Eff} {l : List Nat} (hr : (opR P E tmps base o).run look = some (e, l)) : (opR P E' tmps base o).run look = some (e, l) := by
 obtain ⟨dst, op, type, pos, after, gd⟩ := o
 cases op with
 | call c =>
  obtain ⟨callee, args, ats⟩ := c
  cases callee with
  | value f =>
   simp only [opR] at hr ⊢
   split at hr
   ·
    rename_i g caps hf
    exact callR_mono h hr
   · simp only [fail_some] at hr
  | builtin b => cases b <;> exact hr
  | invoke r m => exact hr
 | makeFunc fn first caps => cases fn <;> exact hr
 | _ => exact hr
theorem stepR_mono (h : E.le E') {ops : Array Oper} {nx i : Nat} {o : Oper} {s : St} {r : St × Log} (hr : stepR P E ops nx i o s = some r) : stepR P E' ops nx i o s = some r := by
 unfold stepR at hr ⊢
 split at hr
 · cases hr
 · exact hr
 ·
  split at hr
  · cases hr
  ·
   rename_i e l he
   rw [opR_mono h he]
   exact hr
theorem runOps_mono (h : E.le E') {ops : Array Oper} {nx : Nat} : ∀ {l : List Oper} {i : Nat} {s : St} {r : St × List Log}, runOps P E ops nx i l s = some r → runOps P E' ops nx i l s = some r
 | [], i, s, r, hr => hr
 | o :: l, i, s, r, hr => by
  simp only [runOps] at hr ⊢
  split at hr
  · cases hr
  ·
   rename_i s1 l1 h1
   rw [stepR_mono h h1]
   simp only
   split at hr
   · cases hr
   ·
    rename_i s2 l2 h2
    rw [runOps_mono h h2]
    exact hr
theorem regionR_mono (h : E.le E') {ps : List (List Nat)} {ops : Array Oper} {draw : Bool} {s s' : St} (hr : regionR P E ps ops draw s = some s') : regionR P E' ps ops draw s = some s' := by
 unfold regionR at hr ⊢
 split at hr
 · cases hr
 ·
  rename_i s1 l1 h1
  rw [runOps_mono h h1]
  exact hr
theorem iter_mono {b b' : St → Option (Ex × St)} (hb : ∀ s r, b s = some r → b' s = some r) : ∀ {n n' : Nat} {s : St} {r : Ex × St}, n ≤ n' → iter b n s = some r → iter b' n' s = some r
 | 0, _, s, r, _, h => by simp only [iter] at h; cases h
 | n + 1, 0, s, r, hn, h => by omega
 | n + 1, n' + 1, s, r, hn, h => by
  simp only [iter] at h ⊢
  cases hbs : b s with
  | none => rw [hbs] at h; cases h
  | some p =>
   rw [hb s p hbs]
   rw [hbs] at h
   obtain ⟨ex, s1⟩ := p
   cases ex with
   | normal => exact iter_mono hb (by omega) h
   | exit id => exact h
   | ret => exact h
theorem exec_mono (h : E.le E') {cert : FCert} {n n' : Nat} (hn : n ≤ n') : ∀ {c : Code} {s : St} {r : Ex × St}, exec P E cert n c s = some r → exec P E' cert n' c s = some r := by
 intro c
 induction c with
 | skip => intro s r hr; exact hr
 | region id ops draw =>
  intro s r hr
  simp only [exec, Option.map_eq_some_iff] at hr ⊢
  obtain ⟨s', h1, h2⟩ := hr
  exact ⟨s', regionR_mono h h1, h2⟩
 | seq x y ihx ihy =>
  intro s r hr
  simp only [exec] at hr ⊢
  cases hx : exec P E cert n x s with
  | none => rw [hx] at hr; cases hr
  | some p =>
   rw [ihx hx]
   rw [hx] at hr
   obtain ⟨ex, s1⟩ := p
   cases ex with
   | normal => exact ihy hr
   | exit id => exact hr
   | ret => exact hr
 | cond c x y ihx ihy =>
  intro s r hr
  simp only [exec] at hr ⊢
  split at hr
  ·
   rename_i t ht
   cases t with
   | true => simp only [if_true] at hr ⊢; exact ihx hr
   | false => simp only [Bool.false_eq_true, if_false] at hr ⊢; exact ihy hr
  · cases hr
 | block id b ih =>
  intro s r hr
  simp only [exec] at hr ⊢
  cases hb : exec P E cert n b s with
  | none => rw [hb] at hr; cases hr
  | some p =>
   rw [ih hb]
   rw [hb] at hr
   exact hr
 | loop b ih =>
  intro s r hr
  simp only [exec] at hr ⊢
  exact iter_mono (fun s r => ih) hn hr
 | exit id => intro s r hr; exact hr
 | ret => intro s r hr; exact hr
 | _ => intro s r hr; simp only [exec] at hr; cases hr
end
section
variable {P : Program} {C : Cert} {prim : FuncId → Option (List T → List Ob → Option (T × List Ob))}
theorem callF_mono : ∀ {n n' : Nat}, n ≤ n' → (⟨callF P C prim n, fun f => (C f).lent⟩ : Env).le ⟨callF P C prim n', fun f => (C f).lent⟩
 | 0, _, _ => ⟨rfl, fun f args objs r h => by simp only [callF] at h; cases h⟩
 | n + 1, 0, h => by omega
 | n + 1, n' + 1, hn => by
  have ih := callF_mono (n := n) (n' := n') (by omega)
  refine ⟨rfl, fun f args objs r h => ?_⟩
  simp only [callF] at h ⊢
  split at h
  · exact h
  ·
   split at h
   · cases h
   ·
    split at h
    · cases h
    ·
     rename_i c hc
     split at h
     case isFalse => cases h
     rename_i hoc
     rw [if_pos hoc]
     split at h
     · rename_i s hs; rw [exec_mono ih (by omega) hs]; exact h
     · rename_i s hs; rw [exec_mono ih (by omega) hs]; exact h
     · cases h
open Classical in
noncomputable def callT (P : Program) (C : Cert) (prim : FuncId → Option (List T → List Ob → Option (T × List Ob))) (f : FuncId) (args : List T) (objs : List Ob) : Option (T × List Ob) :=
 if h : ∃ r n, callF P C prim n f args objs = some r then some (Classical.choose h) else none
theorem callT_some {f : FuncId} {args : List T} {objs : List Ob} {r : T × List Ob} : callT P C prim f args objs = some r ↔ ∃ n, callF P C prim n f args objs = some r := by
 unfold callT
 constructor
 ·
  intro h
  split at h
  ·
   rename_i hx
   obtain ⟨n, hn⟩ := Classical.choose_spec hx
   exact ⟨n, by rw [hn]; exact h⟩
  · cases h
 ·
  rintro ⟨n, hn⟩
  have hx : ∃ r n, callF P C prim n f args objs = some r := ⟨r, n, hn⟩
  rw [dif_pos hx]
  obtain ⟨n', hn'⟩ := Classical.choose_spec hx
  rcases Nat.le_total n n' with h | h
  ·
   have := (callF_mono (P := P) (C := C) (prim := prim) h).2 _ _ _ _ hn
   simp only at this
   rw [hn'] at this
   exact this
  ·
   have := (callF_mono (P := P) (C := C) (prim := prim) h).2 _ _ _ _ hn'
   simp only at this
   rw [hn] at this
   rw [this]
noncomputable abbrev envT (P : Program) (C : Cert) (prim : FuncId → Option (List T → List Ob → Option (T × List Ob))) : Env := ⟨callT P C prim, fun f => (C f).lent⟩
theorem env_le (n : Nat) : (⟨callF P C prim n, fun f => (C f).lent⟩ : Env).le (envT P C prim) := ⟨rfl, fun _ _ _ r h => callT_some.2 ⟨n, h⟩⟩
theorem up_to {n n' : Nat} (h : n ≤ n') : (⟨callF P C prim n, fun f => (C f).lent⟩ : Env).le ⟨callF P C prim n', fun f => (C f).lent⟩ := callF_mono h
theorem opR_fin {look : Nat → Ob} {tmps : List T} {base : Nat} {o : Oper} {e : Eff} {l : List Nat} (hr : (opR P (envT P C prim) tmps base o).run look = some (e, l)) : ∃ n, (opR P ⟨callF P C prim n, fun f => (C f).lent⟩ tmps base o).run look = some (e, l) := by
 obtain ⟨dst, op, type, pos, after, gd⟩ := o
 cases op with
 | call c =>
  obtain ⟨callee, args, ats⟩ := c
  cases callee with
  | value f =>
   simp only [opR] at hr ⊢
   split at hr
   ·
    rename_i g caps hf
    simp only [callR, bind_some, opt_some] at hr
    obtain ⟨aas, a1, a2, a3, ⟨lv, b1, b2, b3, ⟨u, c1, c2, c3, ⟨ro, d1, d2, ⟨d3, d4⟩, d5, d6⟩, c4⟩, b4⟩, a4⟩ := hr
    obtain ⟨n, hn⟩ := callT_some.1 d3
    refine ⟨n, ?_⟩
    simp only [callR, bind_some, opt_some]
    exact ⟨aas, a1, a2, a3, ⟨lv, b1, b2, b3, ⟨u, c1, c2, c3, ⟨ro, d1, d2, ⟨hn, d4⟩, d5, d6⟩, c4⟩, b4⟩, a4⟩
   · simp only [fail_some] at hr
  | builtin b => exact ⟨0, by cases b <;> exact hr⟩
  | invoke r m => exact ⟨0, hr⟩
 | makeFunc fn first caps => exact ⟨0, by cases fn <;> exact hr⟩
 | _ => exact ⟨0, hr⟩
theorem runOps_fin {ops : Array Oper} {nx : Nat} : ∀ {l : List Oper} {i : Nat} {s : St} {r : St × List Log}, runOps P (envT P C prim) ops nx i l s = some r → ∃ n, runOps P ⟨callF P C prim n, fun f => (C f).lent⟩ ops nx i l s = some r
 | [], i, s, r, hr => ⟨0, hr⟩
 | o :: l, i, s, r, hr => by
  simp only [runOps] at hr
  split at hr
  · cases hr
  ·
   rename_i s1 l1 h1
   have hstep : ∃ n, stepR P ⟨callF P C prim n, fun f => (C f).lent⟩ ops nx i o s = some (s1, l1) := by
    unfold stepR at h1 ⊢
    split at h1
    · cases h1
    · exact ⟨0, h1⟩
    ·
     split at h1
     · cases h1
     ·
      rename_i e l2 he
      obtain ⟨n, hn⟩ := opR_fin he
      exact ⟨n, by rw [hn]; exact h1⟩
   obtain ⟨n, hn⟩ := hstep
   split at hr
   · cases hr
   ·
    rename_i s2 l2 h2
    obtain ⟨n', hn'⟩ := runOps_fin h2
    refine ⟨max n n', ?_⟩
    simp only [runOps]
    rw [stepR_mono (up_to (Nat.le_max_left n n')) hn]
    simp only
    rw [runOps_mono (up_to (Nat.le_max_right n n')) hn']
    exact hr
open Classical in
noncomputable def execT (P : Program) (C : Cert) (prim : FuncId → Option (List T → List Ob → Option (T × List Ob))) (cert : FCert) (c : Code) (s : St) : Option (Ex × St) :=
 if h : ∃ r n, exec P ⟨callF P C prim n, fun f => (C f).lent⟩ cert n c s = some r then some (Classical.choose h) else none
variable {cert : FCert}
theorem execT_some {c : Code} {s : St} {r : Ex × St} : execT P C prim cert c s = some r ↔ ∃ n, exec P ⟨callF P C prim n, fun f => (C f).lent⟩ cert n c s = some r := by
 unfold execT
 constructor
 ·
  intro h
  split at h
  ·
   rename_i hx
   obtain ⟨n, hn⟩ := Classical.choose_spec hx
   exact ⟨n, by rw [hn]; exact h⟩
  · cases h
 ·
  rintro ⟨n, hn⟩
  have hx : ∃ r n, exec P ⟨callF P C prim n, fun f => (C f).lent⟩ cert n c s = some r := ⟨r, n, hn⟩
  rw [dif_pos hx]
  obtain ⟨n', hn'⟩ := Classical.choose_spec hx
  rcases Nat.le_total n n' with h | h
  ·
   have := exec_mono (up_to h) h hn
   rw [hn'] at this
   exact this
  ·
   have := exec_mono (up_to h) h hn'
   rw [hn] at this
   rw [this]
theorem option_ext {α : Type} {x y : Option α} (h : ∀ r, x = some r ↔ y = some r) : x = y := by
 cases y with
 | none =>
  cases x with
  | none => rfl
  | some a => exact absurd ((h a).1 rfl) (by simp)
 | some b => exact (h b).2 rfl
def thenT (r : Option (Ex × St)) (f : St → Option (Ex × St)) : Option (Ex × St) := match r with
 | some (.normal, s) => f s
 | r => r
def blockT (id : Nat) (r : Option (Ex × St)) : Option (Ex × St) := match r with
 | some (.exit j, s) => some (if j = id then .normal else .exit j, s)
 | r => r
theorem execT_skip {s : St} : execT P C prim cert .skip s = some (.normal, s) := execT_some.2 ⟨0, rfl⟩
theorem execT_exit {id : Nat} {s : St} : execT P C prim cert (.exit id) s = some (.exit id, s) := execT_some.2 ⟨0, rfl⟩
theorem execT_ret {s : St} : execT P C prim cert .ret s = some (.ret, s) := execT_some.2 ⟨0, rfl⟩
theorem execT_region {id : Nat} {ops : Array Oper} {draw : Bool} {s : St} :
 execT P C prim cert (.region id ops draw) s = (regionR P (envT P C prim) (cert.predsOf id) ops draw (match findK cert.keep id with | some k => normR k s | none => s)).map fun s' => (.normal, s') := by
 refine option_ext fun r => ?_
 rw [execT_some]
 simp only [exec, Option.map_eq_some_iff]
 constructor
 ·
  rintro ⟨n, s', h1, h2⟩
  exact ⟨s', regionR_mono (env_le n) h1, h2⟩
 ·
  rintro ⟨s', h1, h2⟩
  have : ∃ n, regionR P ⟨callF P C prim n, fun f => (C f).lent⟩ (cert.predsOf id) ops draw (match findK cert.keep id with | some k => normR k s | none => s) = some s' := by
   unfold regionR at h1 ⊢
   split at h1
   · cases h1
   ·
    rename_i s1 l1 hr
    obtain ⟨n, hn⟩ := runOps_fin hr
    exact ⟨n, by rw [hn]; exact h1⟩
  obtain ⟨n, hn⟩ := this
  exact ⟨n, s', hn, h2⟩
theorem execT_seq {x y : Code} {s : St} : execT P C prim cert (.seq x y) s = thenT (execT P C prim cert x s) (execT P C prim cert y) := by
 refine option_ext fun r => ?_
 rw [execT_some]
 constructor
 ·
  rintro ⟨n, h⟩
  simp only [exec] at h
  cases hx : exec P ⟨callF P C prim n, fun f => (C f).lent⟩ cert n x s with
  | none => rw [hx] at h; cases h
  | some p =>
   rw [hx] at h
   rw [execT_some.2 ⟨n, hx⟩]
   obtain ⟨ex, s1⟩ := p
   cases ex with
   | normal => exact execT_some.2 ⟨n, h⟩
   | exit id => exact h
   | ret => exact h
 ·
  intro h
  cases hx : execT P C prim cert x s with
  | none => rw [hx] at h; cases h
  | some p =>
   rw [hx] at h
   obtain ⟨n, hn⟩ := execT_some.1 hx
   obtain ⟨ex, s1⟩ := p
   cases ex with
   | normal =>
    obtain ⟨n', hn'⟩ := execT_some.1 h
    refine ⟨max n n', ?_⟩
    simp only [exec]
    rw [exec_mono (up_to (Nat.le_max_left n n')) (Nat.le_max_left n n') hn]
    exact exec_mono (up_to (Nat.le_max_right n n')) (Nat.le_max_right n n') hn'
   | exit id => exact ⟨n, by simp only [exec]; rw [hn]; exact h⟩
   | ret => exact ⟨n, by simp only [exec]; rw [hn]; exact h⟩
theorem execT_cond {c : Operand} {x y : Code} {s : St} {t : Bool} (h : evalT s.tmps c = .sc (.bool t)) : execT P C prim cert (.cond c x y) s = if t then execT P C prim cert x s else execT P C prim cert y s := by
 refine option_ext fun r => ?_
 rw [execT_some]
 simp only [exec, h]
 cases t
 · simp only [Bool.false_eq_true, if_false]; exact execT_some.symm
 · simp only [if_true]; exact execT_some.symm
theorem execT_block {id : Nat} {b : Code} {s : St} : execT P C prim cert (.block id b) s = blockT id (execT P C prim cert b s) := by
 refine option_ext fun r => ?_
 rw [execT_some]
 constructor
 ·
  rintro ⟨n, h⟩
  simp only [exec] at h
  cases hx : exec P ⟨callF P C prim n, fun f => (C f).lent⟩ cert n b s with
  | none => rw [hx] at h; cases h
  | some p => rw [hx] at h; rw [execT_some.2 ⟨n, hx⟩]; exact h
 ·
  intro h
  cases hx : execT P C prim cert b s with
  | none => rw [hx] at h; cases h
  | some p =>
   rw [hx] at h
   obtain ⟨n, hn⟩ := execT_some.1 hx
   exact ⟨n, by simp only [exec]; rw [hn]; exact h⟩
theorem execT_loop {b : Code} {s : St} : execT P C prim cert (.loop b) s = thenT (execT P C prim cert b s) (execT P C prim cert (.loop b)) := by
 refine option_ext fun r => ?_
 rw [execT_some]
 constructor
 ·
  rintro ⟨n, h⟩
  simp only [exec] at h
  cases n with
  | zero => simp only [iter] at h; cases h
  | succ n =>
   simp only [iter] at h
   cases hx : exec P ⟨callF P C prim (n + 1), fun f => (C f).lent⟩ cert (n + 1) b s with
   | none => rw [hx] at h; cases h
   | some p =>
    rw [hx] at h
    rw [execT_some.2 ⟨n + 1, hx⟩]
    obtain ⟨ex, s1⟩ := p
    cases ex with
    | normal => exact execT_some.2 ⟨n + 1, iter_mono (fun _ _ h => h) (Nat.le_succ n) h⟩
    | exit id => exact h
    | ret => exact h
 ·
  intro h
  cases hx : execT P C prim cert b s with
  | none => rw [hx] at h; cases h
  | some p =>
   rw [hx] at h
   obtain ⟨n, hn⟩ := execT_some.1 hx
   obtain ⟨ex, s1⟩ := p
   cases ex with
   | normal =>
    obtain ⟨n', hn'⟩ := execT_some.1 h
    simp only [exec] at hn'
    refine ⟨max n n' + 1, ?_⟩
    simp only [exec, iter]
    rw [exec_mono (up_to (n := n) (n' := max n n' + 1) (by omega)) (by omega) hn]
    exact iter_mono (fun _ _ h => exec_mono (up_to (n := n') (n' := max n n' + 1) (by omega)) (by omega) h) (by omega) hn'
   | exit id => exact ⟨n + 1, by simp only [exec, iter]; rw [exec_mono (up_to (Nat.le_succ n)) (Nat.le_succ n) hn]; exact h⟩
   | ret => exact ⟨n + 1, by simp only [exec, iter]; rw [exec_mono (up_to (Nat.le_succ n)) (Nat.le_succ n) hn]; exact h⟩
def giveT (P : Program) (fn : Func) (own : Bool) (m : Nat) (r : Option (Ex × St)) : Option (T × List Ob) := match r with
 | some (.normal, s) => giveR P fn own m s
 | some (.ret, s) => giveR P fn own m s
 | _ => none
theorem callT_eq {f : FuncId} {fn : Func} {c : Code} {args : List T} {objs : List Ob} (hp : prim f = none) (hf : P.funcs[f]? = some fn) (hc : fn.body = some c) (ho : okCode (C f) c = true) :
 callT P C prim f args objs = giveT P fn (C f).own objs.length (execT P C prim (C f) c ⟨args ++ List.replicate (fn.ntmps - args.length) undT, objs.zipIdx.map fun p => (p.2, p.1), objs.length, objs.length⟩) := by
 refine option_ext fun r => ?_
 rw [callT_some]
 constructor
 ·
  rintro ⟨n, h⟩
  cases n with
  | zero => simp only [callF] at h; cases h
  | succ n =>
   simp only [callF, hp, hf, hc, ho, if_true] at h
   split at h
   · rename_i s hs; rw [execT_some.2 ⟨n, hs⟩]; exact h
   · rename_i s hs; rw [execT_some.2 ⟨n, hs⟩]; exact h
   · cases h
 ·
  intro h
  cases hx : execT P C prim (C f) c ⟨args ++ List.replicate (fn.ntmps - args.length) undT, objs.zipIdx.map fun p => (p.2, p.1), objs.length, objs.length⟩ with
  | none => rw [hx] at h; cases h
  | some p =>
   rw [hx] at h
   obtain ⟨n, hn⟩ := execT_some.1 hx
   refine ⟨n + 1, ?_⟩
   simp only [callF, hp, hf, hc, ho, if_true]
   obtain ⟨ex, s1⟩ := p
   cases ex with
   | normal => rw [hn]; exact h
   | exit id => cases h
   | ret => rw [hn]; exact h
end
end Go.Proofs.YtbfgmnjhikaagaaGreatDoor.PM
namespace Go.Proofs.YtbfgmnjhikaagaaGreatDoor.PM
open Go
variable {P : Program} {C : Cert} {prim : FuncId → Option (List T → List Ob → Option (T × List Ob))} {cert : FCert}
def condT (t : T) (a b : Option (Ex × St)) : Option (Ex × St) := match t with
  | .sc (.bool v) => if v then a else b
  | _ => none
@[congr] theorem condT_congr {t t' : T} {a b : Option (Ex × St)} (h : t = t') : condT t a b = condT t' a b := by rw [h]
@[congr] theorem thenT_congr {r r' : Option (Ex × St)} {f : St → Option (Ex × St)} (h : r = r') : thenT r f = thenT r' f := by rw [h]
theorem execT_cond' {c : Operand} {x y : Code} {s : St} : execT P C prim cert (.cond c x y) s = condT (evalT s.tmps c) (execT P C prim cert x s) (execT P C prim cert y s) := by
  cases he : evalT s.tmps c with
  | sc v =>
    cases v with
    | bool t => rw [execT_cond he]; rfl
    | _ => exact option_ext fun r => by rw [execT_some]; simp [exec, he, condT]
  | _ => exact option_ext fun r => by rw [execT_some]; simp [exec, he, condT]
end Go.Proofs.YtbfgmnjhikaagaaGreatDoor.PM
namespace Go.Proofs.YtbfgmnjhikaagaaGreatDoor.PM
open Go
section
variable {t : TypeId} {k : IntKind} {a b : Int} {x y : ByteArray} {p q : Bool}
abbrev opB (op : BinOp) (t : TypeId) (v w : Value) : Option T := (pureOf (binOp op t v w)).bind scP
abbrev opU (op : UnOp) (v : Value) : Option T := (pureOf (Op.unary op v)).bind scP
theorem ev_add : opB .add t (.int k a) (.int k b) = some (.sc (.int k (k.wrap (a + b)))) := by simp [opB, binOp, Op.intArith, pureOf, scP, plainB]; rfl
theorem ev_sub : opB .sub t (.int k a) (.int k b) = some (.sc (.int k (k.wrap (a - b)))) := by simp [opB, binOp, Op.intArith, pureOf, scP, plainB]; rfl
theorem ev_mul : opB .mul t (.int k a) (.int k b) = some (.sc (.int k (k.wrap (a * b)))) := by simp [opB, binOp, Op.intArith, pureOf, scP, plainB]; rfl
theorem ev_quo (h : b ≠ 0) : opB .quo t (.int k a) (.int k b) = some (.sc (.int k (k.wrap (a.tdiv b)))) := by simp [opB, binOp, Op.intDiv, pureOf, scP, plainB, h]; rfl
theorem ev_rem (h : b ≠ 0) : opB .rem t (.int k a) (.int k b) = some (.sc (.int k (a.tmod b))) := by simp [opB, binOp, Op.intDiv, pureOf, scP, plainB, h]; rfl
theorem ev_eql : opB .eql t (.int k a) (.int k b) = some (.sc (.bool (decide (a = b)))) := by
 have : (a == b) = decide (a = b) := rfl
 simp [opB, binOp, Op.intCmp, pureOf, scP, plainB, this]; rfl
theorem ev_neq : opB .neq t (.int k a) (.int k b) = some (.sc (.bool (!decide (a = b)))) := by
 have : (a != b) = !decide (a = b) := rfl
 simp [opB, binOp, Op.intCmp, pureOf, scP, plainB, this]; rfl
theorem ev_lss : opB .lss t (.int k a) (.int k b) = some (.sc (.bool (decide (a < b)))) := by simp [opB, binOp, Op.intCmp, pureOf, scP, plainB]; rfl
theorem ev_leq : opB .leq t (.int k a) (.int k b) = some (.sc (.bool (decide (a ≤ b)))) := by simp [opB, binOp, Op.intCmp, pureOf, scP, plainB]; rfl
theorem ev_gtr : opB .gtr t (.int k a) (.int k b) = some (.sc (.bool (decide (b < a)))) := by simp [opB, binOp, Op.intCmp, pureOf, scP, plainB]; rfl
theorem ev_geq : opB .geq t (.int k a) (.int k b) = some (.sc (.bool (decide (b ≤ a)))) := by simp [opB, binOp, Op.intCmp, pureOf, scP, plainB]; rfl
def strLt (x y : ByteArray) : Bool := Op.bytesLess x.toList y.toList
theorem ev_sadd (h : x.size + y.size ≤ 9223372036854775807) : opB .add t (.string x) (.string y) = some (.sc (.string (x ++ y))) := by
 have h' : ¬ ((9223372036854775807 : Int) < (x.size : Int) + (y.size : Int)) := by omega
 simp [opB, binOp, Op.stringOp, pureOf, scP, plainB, h']; rfl
theorem ev_seql : opB .eql t (.string x) (.string y) = some (.sc (.bool (strEq x y))) := by simp [opB, binOp, Op.stringOp, pureOf, scP, plainB]; rfl
theorem ev_sneq : opB .neq t (.string x) (.string y) = some (.sc (.bool (!strEq x y))) := by simp [opB, binOp, Op.stringOp, pureOf, scP, plainB]; rfl
theorem ev_slss : opB .lss t (.string x) (.string y) = some (.sc (.bool (strLt x y))) := by simp [opB, binOp, Op.stringOp, pureOf, scP, plainB]; rfl
theorem ev_sleq : opB .leq t (.string x) (.string y) = some (.sc (.bool (strLt x y || strEq x y))) := by simp [opB, binOp, Op.stringOp, pureOf, scP, plainB]; rfl
theorem ev_sgtr : opB .gtr t (.string x) (.string y) = some (.sc (.bool (!(strLt x y || strEq x y)))) := by simp [opB, binOp, Op.stringOp, pureOf, scP, plainB]; rfl
theorem ev_sgeq : opB .geq t (.string x) (.string y) = some (.sc (.bool (!strLt x y))) := by simp [opB, binOp, Op.stringOp, pureOf, scP, plainB]; rfl
theorem ev_not : opU .not (.bool p) = some (.sc (.bool (!p))) := by simp [opU, Op.unary, pureOf, scP, plainB]; rfl
theorem ev_neg : opU .neg (.int k a) = some (.sc (.int k (k.wrap (0 - a)))) := by simp [opU, Op.unary, Op.intArith, pureOf, scP, plainB]; rfl
end
theorem wrap_i64 {n : Int} (h1 : -9223372036854775808 ≤ n) (h2 : n ≤ 9223372036854775807) : IntKind.i64.wrap n = n := IntWalk.i64_in n ⟨h1, h2⟩
end Go.Proofs.YtbfgmnjhikaagaaGreatDoor.PM
namespace Go.Proofs.YtbfgmnjhikaagaaGreatDoor.PM
open Go
variable {P : Program} {C : Cert} {prim : FuncId → Option (List T → List Ob → Option (T × List Ob))} {cert : FCert} {α β : Type}
abbrev RS := Option (Ex × St)
noncomputable def execK (P : Program) (C : Cert) (prim : FuncId → Option (List T → List Ob → Option (T × List Ob))) (cert : FCert) (c : Code) (s : St) (k : RS → β) : β := k (execT P C prim cert c s)
noncomputable def seqK (P : Program) (C : Cert) (prim : FuncId → Option (List T → List Ob → Option (T × List Ob))) (cert : FCert) (c : Code) (k : RS → β) : RS → β
 | some (.normal, s) => execK P C prim cert c s k
 | r => k r
def blockK (i : Nat) (k : RS → β) (r : RS) : β := k (blockT i r)
def giveK (P : Program) (fn : Func) (own : Bool) (m : Nat) (r : RS) : Option (T × List Ob) := giveT P fn own m r
def regionK (P : Program) (E : Env) (ps : List (List Nat)) (ops : Array Oper) (draw : Bool) (s : St) (k : RS → β) : β := k ((regionR P E ps ops draw s).map fun s' => (.normal, s'))
def clearK (keep : Option (List (Nat × Nat))) (s : St) : St := match keep with | some k => normR k s | none => s
theorem clearK_none {s : St} : clearK none s = s := rfl
theorem clearK_some {l : List (Nat × Nat)} {s : St} : clearK (some l) s = normR l s := rfl
variable {k : RS → β} {s : St}
theorem execK_skip : execK P C prim cert .skip s k = k (some (.normal, s)) := by rw [execK, execT_skip]
theorem execK_exit {i : Nat} : execK P C prim cert (.exit i) s k = k (some (.exit i, s)) := by rw [execK, execT_exit]
theorem execK_ret : execK P C prim cert .ret s k = k (some (.ret, s)) := by rw [execK, execT_ret]
theorem execK_region {id : Nat} {ops : Array Oper} {draw : Bool} :
 execK P C prim cert (.region id ops draw) s k = regionK P (envT P C prim) (cert.predsOf id) ops draw (clearK (findK cert.keep id) s) k := by
 rw [execK, execT_region]; rfl
theorem execK_seq {x y : Code} : execK P C prim cert (.seq x y) s k = execK P C prim cert x s (seqK P C prim cert y k) := by
 rw [execK, execT_seq, execK]
 cases execT P C prim cert x s with
 | none => rfl
 | some p => obtain ⟨ex, s1⟩ := p; cases ex <;> rfl
theorem execK_block {i : Nat} {b : Code} : execK P C prim cert (.block i b) s k = execK P C prim cert b s (blockK i k) := by rw [execK, execT_block]; rfl
def condK (t : T) (a b z : β) : β := match t with
 | .sc (.bool v) => if v then a else b
 | _ => z
theorem condK_bool {v : Bool} {a b z : β} : condK (.sc (.bool v)) a b z = if v then a else b := rfl
@[congr] theorem condK_congr {t t' : T} {a b z : β} (h : t = t') : condK t a b z = condK t' a b z := by rw [h]
theorem execK_cond {c : Operand} {x y : Code} : execK P C prim cert (.cond c x y) s k = condK (evalT s.tmps c) (execK P C prim cert x s k) (execK P C prim cert y s k) (k none) := by
 rw [execK, execT_cond']
 generalize evalT s.tmps c = t
 cases t with
 | sc v => cases v with
  | bool w => cases w <;> rfl
  | _ => rfl
 | _ => rfl
theorem seqK_normal {c : Code} : seqK P C prim cert c k (some (.normal, s)) = execK P C prim cert c s k := rfl
theorem seqK_ret {c : Code} : seqK P C prim cert c k (some (.ret, s)) = k (some (.ret, s)) := rfl
theorem seqK_exit {c : Code} {i : Nat} : seqK P C prim cert c k (some (.exit i, s)) = k (some (.exit i, s)) := rfl
theorem blockK_normal {i : Nat} : blockK i k (some (.normal, s)) = k (some (.normal, s)) := rfl
theorem blockK_ret {i : Nat} : blockK i k (some (.ret, s)) = k (some (.ret, s)) := rfl
theorem blockK_exit {i j : Nat} : blockK i k (some (.exit j, s)) = k (some (if j = i then .normal else .exit j, s)) := rfl
theorem giveK_normal {fn : Func} {own : Bool} {m : Nat} : giveK P fn own m (some (.normal, s)) = giveR P fn own m s := rfl
theorem giveK_ret {fn : Func} {own : Bool} {m : Nat} : giveK P fn own m (some (.ret, s)) = giveR P fn own m s := rfl
theorem regionK_eq {E : Env} {ps : List (List Nat)} {ops : Array Oper} {draw : Bool} {s' : St} (h : regionR P E ps ops draw s = some s') : regionK P E ps ops draw s k = k (some (.normal, s')) := by rw [regionK, h]; rfl
theorem callK_eq {f : FuncId} {fn : Func} {c : Code} {args : List T} {objs : List Ob} (hp : prim f = none) (hf : P.funcs[f]? = some fn) (hc : fn.body = some c) (ho : okCode (C f) c = true) :
 callT P C prim f args objs = execK P C prim (C f) c ⟨args ++ List.replicate (fn.ntmps - args.length) undT, objs.zipIdx.map fun p => (p.2, p.1), objs.length, objs.length⟩ (giveK P fn (C f).own objs.length) := callT_eq hp hf hc ho
end Go.Proofs.YtbfgmnjhikaagaaGreatDoor.PM
namespace Go.Proofs.YtbfgmnjhikaagaaGreatDoor.PM
open Go
theorem ite_some {α : Type} {c : Prop} [Decidable c] {a b : Option α} {r : α} (h : (if c then a else b) = some r) : (c ∧ a = some r) ∨ (¬ c ∧ b = some r) := by
 by_cases hc : c
 · rw [if_pos hc] at h; exact .inl ⟨hc, h⟩
 · rw [if_neg hc] at h; exact .inr ⟨hc, h⟩
theorem ite_l {α : Type} {c : Prop} [Decidable c] {a : Option α} {r : α} (h : (if c then a else none) = some r) : c ∧ a = some r := by
 rcases ite_some h with h | ⟨_, h⟩
 · exact h
 · cases h
noncomputable def nextK {β : Type} (P : Program) (C : Cert) (prim : FuncId → Option (List T → List Ob → Option (T × List Ob))) (cert : FCert) (b : Code) (k : RS → β) : RS → β
 | some (.normal, s) => execK P C prim cert (.loop b) s k
 | r => k r
variable {P : Program} {C : Cert} {prim : FuncId → Option (List T → List Ob → Option (T × List Ob))} {cert : FCert} {α β ρ : Type} {k : RS → β}
theorem nextK_normal {b : Code} {s : St} : nextK P C prim cert b k (some (.normal, s)) = execK P C prim cert (.loop b) s k := rfl
theorem nextK_ret {b : Code} {s : St} : nextK P C prim cert b k (some (.ret, s)) = k (some (.ret, s)) := rfl
theorem nextK_exit {b : Code} {s : St} {i : Nat} : nextK P C prim cert b k (some (.exit i, s)) = k (some (.exit i, s)) := rfl
theorem execK_next {b : Code} {s : St} : execK P C prim cert (.loop b) s k = execK P C prim cert b s (nextK P C prim cert b k) := by
 rw [execK, execT_loop, execK]
 cases execT P C prim cert b s with
 | none => rfl
 | some p => obtain ⟨ex, s1⟩ := p; cases ex <;> rfl
def at' {α : Type} [Inhabited α] (l : List α) (i : Int) : α := l.getD i.toNat default
def andI (k : IntKind) (x y : Int) : Int := k.wrap (BitVec.ofInt k.bits x &&& BitVec.ofInt k.bits y).toNat
def orI (k : IntKind) (x y : Int) : Int := k.wrap (BitVec.ofInt k.bits x ||| BitVec.ofInt k.bits y).toNat
def xorI (k : IntKind) (x y : Int) : Int := k.wrap (BitVec.ofInt k.bits x ^^^ BitVec.ofInt k.bits y).toNat
def andNotI (k : IntKind) (x y : Int) : Int := k.wrap (BitVec.ofInt k.bits x &&& ~~~ BitVec.ofInt k.bits y).toNat
def shlI (k : IntKind) (x y : Int) : Int := k.wrap (x * 2 ^ (min y.toNat k.bits))
def shrI (k : IntKind) (x y : Int) : Int := x.fdiv (2 ^ (min y.toNat k.bits))
section
variable {t : TypeId} {k k' : IntKind} {a b : Int}
theorem ev_and : opB .and t (.int k a) (.int k b) = some (.sc (.int k (andI k a b))) := by simp [opB, binOp, Op.intBits, pureOf, scP, plainB, andI]; rfl
theorem ev_or : opB .or t (.int k a) (.int k b) = some (.sc (.int k (orI k a b))) := by simp [opB, binOp, Op.intBits, pureOf, scP, plainB, orI]; rfl
theorem ev_xor : opB .xor t (.int k a) (.int k b) = some (.sc (.int k (xorI k a b))) := by simp [opB, binOp, Op.intBits, pureOf, scP, plainB, xorI]; rfl
theorem ev_andNot : opB .andNot t (.int k a) (.int k b) = some (.sc (.int k (andNotI k a b))) := by simp [opB, binOp, Op.intBits, pureOf, scP, plainB, andNotI]; rfl
theorem ev_shl (h : 0 ≤ b) : opB .shl t (.int k a) (.int k' b) = some (.sc (.int k (shlI k a b))) := by
 have : ¬ b < 0 := by omega
 simp [opB, binOp, Op.shift, pureOf, scP, plainB, shlI, this]; rfl
theorem ev_shr (h : 0 ≤ b) : opB .shr t (.int k a) (.int k' b) = some (.sc (.int k (shrI k a b))) := by
 have : ¬ b < 0 := by omega
 simp [opB, binOp, Op.shift, pureOf, scP, plainB, shrI, this]; rfl
end
def bytesL (s : ByteArray) : List Int := s.data.toList.map fun b => (b.toNat : Int)
def byteAt (s : ByteArray) (i : Int) : Int := ((s[i.toNat]?).map fun b => (b.toNat : Int)).getD 0
theorem byteAt_eq (s : ByteArray) (i : Int) (h0 : 0 ≤ i) (h1 : i < (s.size : Int)) : (s[i.toNat]?).map (fun b => T.sc (.int .u8 (b.toNat : Int))) = some (.sc (.int .u8 (byteAt s i))) := by
 unfold byteAt
 have : i.toNat < s.size := by omega
 rw [getElem?_pos s i.toNat this]; rfl
theorem get_nat {α : Type} [Inhabited α] (l : List α) (i : Nat) (h : i < l.length) : l[i] = at' l (i : Int) := by
 unfold at'
 rw [Int.toNat_natCast, List.getD_eq_getElem?_getD, List.getElem?_eq_getElem h]; rfl
theorem ev_conv (k : IntKind) (n : Int) : Option.map T.sc (pureOf (Conv.intToInt k n)) = some (.sc (.int k (k.wrap n))) := rfl
def minI (a b : Int) : Int := if b < a then b else a
theorem ev_min {ts : Array TypeId} {ty : TypeId} {k k' : IntKind} {a b : Int} : (pureOf (Builtin.min_ ts ty #[.int k a, .int k' b])).bind scP = some (.sc (.int k (minI a b))) := by
 have : Builtin.min_ ts ty #[.int k a, .int k' b] = pure (.int k (if b < a then b else a)) := by simp [Builtin.min_, Builtin.min2]
 rw [this]; rfl
def maxI (a b : Int) : Int := if a < b then b else a
def notI (k : IntKind) : Int := if k.signed then -1 else k.max
theorem ev_unxor {k : IntKind} {a : Int} : opU .xor (.int k a) = some (.sc (.int k (xorI k (notI k) a))) := by simp [opU, Op.unary, Op.intBits, pureOf, scP, plainB, xorI, notI]; rfl
theorem bsize_mk (a : Array UInt8) : (⟨a⟩ : ByteArray).size = a.size := rfl
def strOf (l : List Int) : ByteArray := ⟨(l.map fun b => UInt8.ofNat b.toNat).toArray⟩
def eStr (x : ByteArray) : T := .sc (.string x)
def e_i64 (x : Int) : T := .sc (.int .i64 x)
def e_u8 (x : Int) : T := .sc (.int .u8 x)
theorem bytesOf_map (l : List Int) : bytesOf (l.map e_u8) = some (l.map fun b => UInt8.ofNat b.toNat) := by
 induction l with
 | nil => rfl
 | cons a r ih => simp [bytesOf, e_u8, ih]
end Go.Proofs.YtbfgmnjhikaagaaGreatDoor.PM
namespace Go.Proofs.YtbfgmnjhikaagaaGreatDoor.PM
open Go Go.RowKit
abbrev lowA (W : World) (b : Nat) : Prop := b < W.heap.size
def TellsL (W : World) (cs : List Value) (us : List T) : Prop := cs.length = us.length ∧ ∀ (j : Nat) u, us[j]? = some u → ∃ v, cs[j]? = some v ∧ ShV W (lowA W) v u
def Opens {α : Type} (P : Program) (t : TypeId) (e : α → T) (ok : α → Prop) : Prop :=
 ∀ (H : Type) (enc : TypeId × Value → H) (W : World) (base : Nat) (spare : Nat → Bool) (held : Bool) (fuel : Nat) (cs : List Value) (y : DataW H × List MemPlace),
  DataW.trod enc P W base spare held fuel t cs = some y → ∃ x, TellsL W cs (e x).cells ∧ ok x
def okI (k : IntKind) (x : Int) : Prop := (Lit.int k x).wf = true
def okB (_ : Bool) : Prop := True
def okS (s : ByteArray) : Prop := s.size ≤ maxLen
def okL {α : Type} (ok : α → Prop) (l : List α) : Prop := l.length ≤ maxLen ∧ ∀ x ∈ l, ok x
theorem TellsL.one {W : World} {v : Value} {u : T} (h : ShV W (lowA W) v u) : TellsL W [v] [u] := ⟨rfl, fun j t ht => by
 cases j with
 | zero => simp at ht; subst ht; exact ⟨v, rfl, h⟩
 | succ j => simp at ht⟩
theorem TellsL.step {W : World} {cs : List Value} {us vs : List T} {o k : Nat} (hk : us.length = k) (h1 : TellsL W ((cs.drop o).take k) us) (h2 : TellsL W (cs.drop (o + k)) vs) : TellsL W (cs.drop o) (us ++ vs) := by
 have hc : cs.drop o = (cs.drop o).take k ++ cs.drop (o + k) := by rw [← List.drop_drop, List.take_append_drop]
 have hl : ((cs.drop o).take k).length = k := by rw [h1.1, hk]
 rw [hc]
 refine ⟨by simp only [List.length_append, h1.1, h2.1], fun j u hu => ?_⟩
 by_cases hj : j < k
 ·
  rw [List.getElem?_append_left (by omega)] at hu
  rw [List.getElem?_append_left (by omega)]
  exact h1.2 j u hu
 ·
  rw [List.getElem?_append_right (by omega)] at hu
  rw [List.getElem?_append_right (by omega), hl]
  rw [hk] at hu
  exact h2.2 _ u hu
theorem TellsL.fin {W : World} {cs : List Value} {n : Nat} (h : cs.length = n) : TellsL W (cs.drop n) [] := ⟨by simp [h], fun j u hu => by simp at hu⟩
theorem TellsL.cast {W : World} {cs : List Value} {us vs : List T} {o k o' k' : Nat} (h : TellsL W ((cs.drop o).take k) us) (ho : o = o') (hk : k = k') (hu : us = vs) : TellsL W ((cs.drop o').take k') vs := by
 subst ho; subst hk; subst hu; exact h
theorem TellsL.top {W : World} {cs : List Value} {us vs : List T} (hu : us = vs) (h : TellsL W (cs.drop 0) us) : TellsL W cs vs := by
 subst hu; exact h
theorem Opens.int {P : Program} {t : TypeId} {k : IntKind} {e : Int → T} (ht : P.underlying t = some (.int k)) (he : ∀ x, e x = .sc (.int k x)) : Opens P t e (okI k) := by
 intro H enc W base spare held fuel cs y h
 obtain ⟨n, rfl, _, hw⟩ := DataW.trod_int ht h
 exact ⟨n, by rw [he]; exact .one (.sc rfl), hw⟩
theorem Opens.bool {P : Program} {t : TypeId} {e : Bool → T} (ht : P.underlying t = some .bool) (he : ∀ x, e x = .sc (.bool x)) : Opens P t e okB := by
 intro H enc W base spare held fuel cs y h
 obtain ⟨n, rfl, _⟩ := DataW.trod_bool ht h
 exact ⟨n, by rw [he]; exact .one (.sc rfl), trivial⟩
theorem Opens.string {P : Program} {t : TypeId} {e : ByteArray → T} (ht : P.underlying t = some .string) (he : ∀ x, e x = .sc (.string x)) : Opens P t e okS := by
 intro H enc W base spare held fuel cs y h
 obtain ⟨n, rfl, _, hw⟩ := DataW.trod_string ht h
 exact ⟨n, by rw [he]; exact .one (.sc rfl), hw⟩
theorem list_of_index {α : Type} {p : Nat → α → Prop} (n : Nat) (h : ∀ i, i < n → ∃ x, p i x) : ∃ xs : List α, xs.length = n ∧ ∀ i x, xs[i]? = some x → p i x := by
 induction n with
 | zero => exact ⟨[], rfl, fun i x hx => by simp at hx⟩
 | succ n ih =>
  obtain ⟨xs, hl, hx⟩ := ih (fun i hi => h i (by omega))
  obtain ⟨y, hy⟩ := h n (by omega)
  refine ⟨xs ++ [y], by simp [hl], fun i x he => ?_⟩
  by_cases hi : i < xs.length
  ·
   rw [List.getElem?_append_left hi] at he
   exact hx i x he
  ·
   rw [List.getElem?_append_right (by omega)] at he
   by_cases e : i = xs.length
   ·
    subst e
    simp at he
    subst he
    rw [hl]
    exact hy
   ·
    rw [List.getElem?_eq_none (by simp; omega)] at he
    cases he
theorem cell_lt {W : World} {a : Addr} {v : Value} (h : W.cell? a = some v) : a.block < W.heap.size := by
 unfold World.cell? at h
 split at h
 ·
  rename_i hb
  exact (Array.getElem?_eq_some_iff.1 hb).1
 · cases h
theorem Opens.slice {α : Type} {P : Program} {t el : TypeId} {e : α → T} {ok : α → Prop} {k : Nat} (ht : P.underlying t = some (.slice el)) (hd : Opens P el e ok) (hs : P.cellsOf el = k) (hk : 0 < k) (hw : ∀ x, (e x).width = k) :
 Opens P t (fun l => .sl (l.map e) []) (okL ok) := by
 intro H enc W base spare held fuel cs y h
 rcases Deep.open_slice ht h with ⟨rfl, _⟩ | ⟨a, len, cap, m, n, D, Pl, rfl, hb, hl, hm, hme, _, hel⟩
 · exact ⟨[], .one .empty, Nat.zero_le _, fun x hx => by simp at hx⟩
 ·
  have hlm : len ≤ m := by rw [hme]; split <;> omega
  have hx : ∀ i, i < len → ∃ x, ok x ∧ ∃ cs', W.cells? base (a.add (i * k)) k = some cs' ∧ TellsL W cs' (e x).cells := by
   intro i hi
   obtain ⟨cs', h1, h2⟩ := hel i (by omega)
   obtain ⟨x, hk, ho⟩ := hd H enc W base spare held n cs' _ h2
   rw [hs] at h1
   exact ⟨x, ho, cs', h1, hk⟩
  obtain ⟨xs, rfl, hxs⟩ := list_of_index len hx
  have hcell : ∀ (i : Nat) x, xs[i]? = some x → ∀ (j : Nat) u, (e x).cells[j]? = some u → ∃ v, W.cell? (a.add (i * k + j)) = some v ∧ ShV W (lowA W) v u := by
   intro i x hi j u hu
   obtain ⟨_, cs', h1, h2⟩ := hxs i x hi
   obtain ⟨v, h3, h4⟩ := h2.2 j u hu
   refine ⟨v, ?_, h4⟩
   unfold World.cells? at h1
   split at h1
   ·
    have hj : j < k := by
     have := (List.getElem?_eq_some_iff.1 hu).1
     have hw' := hw x
     unfold T.width at hw'
     omega
    have := mapM_some_get h1 j j (by rw [List.getElem?_range hj])
    rw [Addr.add_add] at this
    rw [this]
    exact h3
   · cases h1
  refine ⟨xs, ?_, Nat.le_trans hl hm, fun x hx' => ?_⟩
  ·
   refine .one ?_
   cases xs with
   | nil => exact .empty
   | cons x0 xr =>
    have h00 : ∃ u0, (e x0).cells[0]? = some u0 := by
     have := hw x0
     unfold T.width at this
     exact ⟨_, List.getElem?_eq_getElem (by omega)⟩
    obtain ⟨u0, hu0⟩ := h00
    obtain ⟨v0, hv0, _⟩ := hcell 0 x0 rfl 0 u0 hu0
    have hsp : a.spot = none := by simpa [Addr.add] using World.cell?_spot hv0
    have hlt : a.block < W.heap.size := by simpa [Addr.add] using cell_lt hv0
    obtain ⟨b, off, spot⟩ := a
    simp only at hsp hlt
    subst hsp
    generalize hxe : x0 :: xr = xs at hcell hl ⊢
    have hlen : xs.length = (xs.map e).length := by simp
    rw [hlen]
    refine .sl (k := k) (cs := fun i j => (W.cell? ⟨b, off + i * k + j, none⟩).getD .nilIface) hlt (by simpa using hl) (fun i x hi => ?_) (fun i x hi j u hu => ?_) (fun i x hi j u hu => ?_)
    ·
     simp only [List.getElem?_map, Option.map_eq_some_iff] at hi
     obtain ⟨x', _, rfl⟩ := hi
     exact hw x'
    ·
     simp only [List.getElem?_map, Option.map_eq_some_iff] at hi
     obtain ⟨x', hi, rfl⟩ := hi
     obtain ⟨v, h1, _⟩ := hcell i x' hi j u hu
     have : (Addr.mk b off none).add (i * k + j) = ⟨b, off + i * k + j, none⟩ := by simp [Addr.add, Nat.add_assoc]
     rw [this] at h1
     rw [h1]; rfl
    ·
     simp only [List.getElem?_map, Option.map_eq_some_iff] at hi
     obtain ⟨x', hi, rfl⟩ := hi
     obtain ⟨v, h1, h2⟩ := hcell i x' hi j u hu
     have : (Addr.mk b off none).add (i * k + j) = ⟨b, off + i * k + j, none⟩ := by simp [Addr.add, Nat.add_assoc]
     rw [this] at h1
     rw [h1]; exact h2
  ·
   obtain ⟨i, hi, rfl⟩ := List.getElem_of_mem hx'
   exact (hxs i _ (List.getElem?_eq_getElem hi)).1
theorem trod_fields {H : Type} {enc : TypeId × Value → H} {P : Program} {W : World} {base : Nat} {spare : Nat → Bool} {held : Bool} {fuel : Nat} {t : TypeId} {cs : List Value} {y : DataW H × List MemPlace} {fs : Array Field}
 (ht : P.underlying t = some (.struct fs)) (h : DataW.trod enc P W base spare held fuel t cs = some y) :
 cs.length = P.cellsOf t ∧ ∃ n, ∀ (i : Nat) (f : Field), fs[i]? = some f → ∃ z, DataW.trod enc P W base spare held n f.type ((cs.drop f.offset).take (P.cellsOf f.type)) = some z := by
 obtain ⟨xs, n, _, _, hl, hsz, hf⟩ := DataW.trod_struct ht h
 refine ⟨hl, n, fun i f hi => ?_⟩
 have h1 := hf i f hi
 have h2 : i < xs.length := by
  rw [hsz]
  exact (Array.getElem?_eq_some_iff.1 hi).1
 rw [List.getElem?_eq_getElem h2] at h1
 exact ⟨_, h1⟩
section
variable {w : World} {g : Nat → Option Nat} {look : Nat → Ob} {N : Nat → Prop}
theorem frC_of_sh {v : Value} {u : T} (h : ShV w N v u) : FrC w g look N v u := by
 cases h with
 | sc h => exact ⟨rfl, h⟩
 | empty => exact ⟨⟨_, _, rfl, Nat.zero_le _, .inl rfl⟩, fun p hp => by simp at hp, fun _ => .empty⟩
 | @sl b off cap k xs cs hA hl hw hc hv => exact ⟨⟨_, _, rfl, hl, .inr ⟨b, off, rfl⟩⟩, fun p hp => by simp at hp, fun _ => (ShV.sl hA hl hw hc hv).mono fun b hb => ⟨.inl hb, rfl⟩⟩
theorem frV_agg {cs : Array Value} {us : List T} (h : TellsL w cs.toList us) (hN : N = lowA w) : FrV w g look N (.agg cs) (.agg us) := by
 subst hN
 refine ⟨cs, rfl, by rw [← h.1]; simp, fun i c hc => ?_⟩
 obtain ⟨v, h1, h2⟩ := h.2 i c hc
 exact ⟨v, by simpa using h1, frC_of_sh h2⟩
end
def Args (W : World) (vs : Array Value) (ts : List T) : Prop := vs.size = ts.length ∧ ∀ (i : Nat) t, ts[i]? = some t → ∃ v, vs[i]? = some v ∧ FrV W (fun _ => none) (lookOf []) (lowA W) v t
theorem Args.nil {W : World} : Args W #[] [] := ⟨rfl, fun i t h => by simp at h⟩
theorem Args.cons {W : World} {v : Value} {vs : List Value} {t : T} {ts : List T} (h1 : FrV W (fun _ => none) (lookOf []) (lowA W) v t) (ih : Args W vs.toArray ts) : Args W (v :: vs).toArray (t :: ts) := by
 refine ⟨by simpa using ih.1, fun i t ht => ?_⟩
 cases i with
 | zero => simp at ht; subst ht; exact ⟨_, by simp, h1⟩
 | succ i =>
  obtain ⟨v, h2, h3⟩ := ih.2 i t (by simpa using ht)
  exact ⟨v, by simpa using h2, h3⟩
theorem isGlob_mem {P : Program} {b : Nat} (h : isGlob P b = true) : ∃ x, P.globals[b]? = some x ∧ (x.name == "strconv.ErrSyntax" || x.name == "strconv.ErrRange") = true := by
 unfold isGlob at h
 split at h
 · rename_i x hx; exact ⟨x, hx, h⟩
 · cases h
theorem law_calls {P : Program} {C : Cert} {prim : FuncId → Option (List T → List Ob → Option (T × List Ob))} (hm : P.follows .mixedOrders = true) (hn : P.funcs.all (fun fn => fn.name != "runtime.NumGoroutine") = true) (hp : PrimOk P prim)
 {f : FuncId} {ts : List T} {W : World} {vs : Array Value} (hv : Args W vs ts) (hg : GlobOk P W (lowA W)) (h : callT P C prim f ts [] = some (.sc (.bool true), [])) :
 Calls P f vs W fun e W' => e = .returned (.bool true) ∧ Below W.heap.size W W' := by
 obtain ⟨n, hn'⟩ := callT_some.1 h
 have hc := (callF_ok hm hn hp n f ts [] _ _ hn').2
 have hE : Ent W (fun _ => none) (lowA W) [] ts vs := ⟨hv.1, hv.2, fun j hj => by simp at hj, fun o => fun ha => by simp [lookOf, Ob.gone] at ha, fun o o' b h => by have := h.1; simp [lookOf, Ob.gone] at this, fun o b ha => by simp [lookOf, Ob.gone] at ha, fun b hb => hb⟩
 refine (hc W _ _ vs hE hg).mono ?_
 rintro e W' ⟨v, g', rfl, X⟩
 obtain ⟨rfl, _⟩ := frV_sc X.val
 exact ⟨rfl, X.os, X.tape, X.output, X.hsz, fun b hb => X.keep b hb fun ⟨o, ho, _⟩ => by have := ho.1; simp [lookOf, Ob.gone] at this⟩
end Go.Proofs.YtbfgmnjhikaagaaGreatDoor.PM
namespace Go.Proofs.YtbfgmnjhikaagaaGreatDoor.PM
open Go
theorem laid_mem {P : Program} {W : World} {n : String} {d : DataW Unit} : ∀ {l : List (String × DataW Unit)} {ps : List MemPlace}, DataW.LaidVars P W l ps → (n, d) ∈ l →
 ∃ g t cs fuel p, P.globalNamed n = some g ∧ (P.globals[g]?).map (·.type) = some t ∧ W.var? P n = some cs ∧ DataW.trod (fun _ => ()) P W 0 (fun _ => true) false fuel t cs.toList = some (d, p)
 | (m, c) :: r, _, ⟨g, t, cs, fuel, p, q, h1, h2, h3, h4, h5, _⟩, hx => by
  rcases List.mem_cons.1 hx with e | hx
  · cases e; exact ⟨g, t, cs, fuel, p, h1, h2, h3, h4⟩
  · exact laid_mem h5 hx
def laidGlob (P : Program) (l : List (String × DataW Unit)) (b : Nat) : Bool := l.any fun x => (match x.2 with | .iface _ _ => true | _ => false) && (decide (P.globalNamed x.1 = some b) &&
 (match (P.globals[b]?).map (·.type) with | some t => (match P.underlying t with | some (.interface _) => true | _ => false) | none => false))
theorem glob_laid {P : Program} {W : World} {l : List (String × DataW Unit)} (h : laidMetH P l W) (hp : (l.all fun x => x.2.handleName?.isNone) = true)
 (hb : (List.range P.globals.size).all (fun b => !isGlob P b || laidGlob P l b) = true) : GlobOk P W (lowA W) := fun b hg => by
 have h0 : laidMet P l W := by
  unfold laidMetH at h
  rw [List.filter_eq_nil_iff.2 fun x hx => by
   have := List.all_eq_true.1 hp x hx
   simpa using this] at h
  exact h
 obtain ⟨ps, hv, _, _⟩ := h0
 obtain ⟨x, hx, _⟩ := isGlob_mem hg
 have hlt : b < P.globals.size := (Array.getElem?_eq_some_iff.1 hx).1
 have h1 := List.all_eq_true.1 hb b (List.mem_range.2 hlt)
 rw [hg, Bool.not_true, Bool.false_or] at h1
 unfold laidGlob at h1
 obtain ⟨⟨n, d⟩, hm, h2⟩ := List.any_eq_true.1 h1
 simp only [Bool.and_eq_true, decide_eq_true_eq] at h2
 obtain ⟨h3, h4, h5⟩ := h2
 cases d <;> simp at h3
 rename_i nm d
 obtain ⟨g, t, cs, fuel, p, e1, e2, e3, e4⟩ := laid_mem hv hm
 obtain rfl : b = g := Option.some.inj (h4.symm.trans e1)
 rw [e2] at h5
 simp only at h5
 split at h5
 ·
  rename_i ms hms
  obtain ⟨_, u, v, hcs, _, _⟩ := iface_of_trod hms e4
  have hc : W.cell? ⟨b, 0, none⟩ = some (.iface u v) := by
   rw [World.var?_cell e1 e3 0, ← Array.getElem?_toList, hcs]
   rfl
  refine ⟨?_, u, v, hc⟩
  rcases Nat.lt_or_ge b W.heap.size with h' | h'
  · exact h'
  · simp [World.cell?, Array.getElem?_eq_none h'] at hc
 · cases h5
end Go.Proofs.YtbfgmnjhikaagaaGreatDoor.PM
namespace Go.Proofs.YtbfgmnjhikaagaaGreatDoor.PM
open Go
def Ev {α : Type} (g : Nat → Option α) (r : α) : Prop := ∃ K, ∀ k, K ≤ k → g k = some r
theorem Ev.ret {α : Type} (r : α) : Ev (fun _ => some r) r := ⟨0, fun _ _ => rfl⟩
theorem Ev.ret' {α : Type} {r r' : α} (h : r' = r) : Ev (fun _ => some r') r := by rw [h]; exact Ev.ret r
theorem Ev.pos {α : Type} {c : Prop} [Decidable c] {g f : Nat → Option α} {r : α} (h : c) (e : Ev g r) : Ev (fun k => if c then g k else f k) r := by
 obtain ⟨K, e⟩ := e
 exact ⟨K, fun k hk => by simp only [if_pos h]; exact e k hk⟩
theorem Ev.neg {α : Type} {c : Prop} [Decidable c] {g f : Nat → Option α} {r : α} (h : ¬ c) (e : Ev f r) : Ev (fun k => if c then g k else f k) r := by
 obtain ⟨K, e⟩ := e
 exact ⟨K, fun k hk => by simp only [if_neg h]; exact e k hk⟩
theorem Ev.ite {α : Type} {c : Prop} [Decidable c] {g f : Nat → Option α} {r : α} (h1 : c → Ev g r) (h2 : ¬ c → Ev f r) : Ev (fun k => if c then g k else f k) r := by
 by_cases h : c
 · exact Ev.pos h (h1 h)
 · exact Ev.neg h (h2 h)
theorem Ev.bind {α β : Type} {x : Nat → Option α} {f : Nat → α → Option β} {a : α} {r : β} (h : Ev x a) (k : Ev (fun n => f n a) r) : Ev (fun n => (x n).bind (f n)) r := by
 obtain ⟨K, h⟩ := h
 obtain ⟨L, k⟩ := k
 exact ⟨max K L, fun n hn => by show (x n).bind (f n) = _; rw [h n (by omega)]; exact k n (by omega)⟩
theorem Ev.step {α : Type} {g f : Nat → Option α} {r : α} (h : ∀ k, g (k + 1) = f k) (e : Ev f r) : Ev g r := by
 obtain ⟨K, e⟩ := e
 refine ⟨K + 1, fun k hk => ?_⟩
 obtain ⟨k, rfl⟩ : ∃ q, k = q + 1 := ⟨k - 1, by omega⟩
 rw [h]; exact e k (by omega)
theorem Ev.eq {α : Type} {g : Nat → Option α} {r r' : α} (e : Ev g r') (h : r' = r) : Ev g r := by rw [← h]; exact e
theorem Ev.val {α : Type} {g : Nat → Option α} {r : α} (e : Ev g r) : ∃ k, g k = some r := ⟨_, e.choose_spec _ (Nat.le_refl _)⟩
theorem Ev.plus {α : Type} {g : Nat → Option α} {r : α} (m : Nat) (h : ∀ k, g (k + m) = some r) : Ev g r := ⟨m, fun k hk => by have := h (k - m); rwa [show k - m + m = k by omega] at this⟩
def allFrom (p : Nat → Bool) (i n : Nat) : Bool := (List.range' i (n - i)).all p
theorem allFrom_end (p : Nat → Bool) {i n : Nat} (h : n ≤ i) : allFrom p i n = true := by
 unfold allFrom
 rw [Nat.sub_eq_zero_of_le h]
 rfl
theorem allFrom_step (p : Nat → Bool) {i n : Nat} (h : i < n) : allFrom p i n = (p i && allFrom p (i + 1) n) := by
 unfold allFrom
 obtain ⟨d, hd⟩ : ∃ d, n - i = d + 1 := ⟨n - i - 1, by omega⟩
 rw [hd, show n - (i + 1) = d from by omega, List.range'_succ, List.all_cons]
theorem allFrom_iff (p : Nat → Bool) (i n : Nat) : allFrom p i n = true ↔ ∀ j, i ≤ j → j < n → p j = true := by
 unfold allFrom
 rw [List.all_eq_true]
 constructor
 ·
  intro h j h1 h2
  exact h j (List.mem_range'_1.2 ⟨h1, by omega⟩)
 ·
  intro h j hj
  have := List.mem_range'_1.1 hj
  exact h j (by omega) (by omega)
theorem at_nat {α : Type} [Inhabited α] (xs : List α) (i : Nat) (h : i < xs.length) : at' xs (i : Int) = xs[i] := (get_nat xs i h).symm
def anyFrom {α : Type} (p : α → Bool) (l : List α) (i : Nat) : Bool := (l.drop i).any p
theorem anyFrom_end {α : Type} (p : α → Bool) {l : List α} {i : Nat} (h : l.length ≤ i) : anyFrom p l i = false := by
 unfold anyFrom
 rw [List.drop_eq_nil_of_le h]
 rfl
theorem anyFrom_step {α : Type} (p : α → Bool) {l : List α} {i : Nat} (h : i < l.length) : anyFrom p l i = (p l[i] || anyFrom p l (i + 1)) := by
 unfold anyFrom
 rw [List.drop_eq_getElem_cons h, List.any_cons]
theorem fillL_step {α : Type} (z : α) (l : List α) (i : Nat) (h : i < l.length) : (l.take i ++ List.replicate (l.length - i) z).set i l[i] = l.take (i + 1) ++ List.replicate (l.length - (i + 1)) z := by
 have e : l.length - i = (l.length - (i + 1)) + 1 := by omega
 rw [e, List.replicate_succ, List.set_append_right _ _ (by rw [List.length_take]; omega), List.length_take, Nat.min_eq_left (by omega), Nat.sub_self, List.set_cons_zero, List.take_succ_eq_append_getElem h, List.append_assoc]
 rfl
theorem fill_length {α : Type} (z : α) (l : List α) (i : Nat) (h : i ≤ l.length) : (l.take i ++ List.replicate (l.length - i) z).length = l.length := by
 rw [List.length_append, List.length_take, List.length_replicate]
 omega
theorem fill_end {α : Type} (z : α) (l : List α) (i : Nat) (h : l.length ≤ i) : l.take i ++ List.replicate (l.length - i) z = l := by
 rw [List.take_of_length_le h, Nat.sub_eq_zero_of_le h, List.replicate_zero, List.append_nil]
theorem strEq_iff (a b : ByteArray) : strEq a b = true ↔ a = b := by
 unfold strEq
 rw [beq_iff_eq, ByteArray.toList_eq, ByteArray.toList_eq]
 exact ⟨fun h => ByteArray.ext (Array.toList_inj.1 h), fun h => by rw [h]⟩
theorem strEq_self (a : ByteArray) : strEq a a = true := (strEq_iff a a).2 rfl
end Go.Proofs.YtbfgmnjhikaagaaGreatDoor.PM
namespace Go.Proofs.YtbfgmnjhikaagaaGreatDoor.PM
open Go
def RowC (w : World) (k b : Nat) (c : Array Value) : Prop := ∃ E fr, w.heap[b]? = some (.cells c E fr) ∧ ∀ i, (i < c.size ∨ 2 ≤ k) → w.frozen? ⟨b, i, none⟩ = false
theorem RowC.cell {w : World} {k b : Nat} {c : Array Value} (h : RowC w k b c) (q : Nat) : w.cell? ⟨b, q, none⟩ = c[q]? := by
 obtain ⟨E, fr, h, _⟩ := h
 simp [World.cell?, h]
theorem RowC.lt {w : World} {k b : Nat} {c : Array Value} (h : RowC w k b c) : b < w.heap.size := by
 obtain ⟨E, fr, h, _⟩ := h
 exact (Array.getElem?_eq_some_iff.1 h).1
theorem RowC.set {w : World} {k b : Nat} {c : Array Value} (h : RowC w k b c) (o : Nat) (vs : List Value) :
 ∃ c', RowC (w.setCells b o vs) k b c' ∧ c'.size = c.size ∧ (∀ q, q < o ∨ o + vs.length ≤ q → c'[q]? = c[q]?) ∧ ∀ q, q < vs.length → o + q < c.size → c'[o + q]? = vs[q]? := by
 obtain ⟨E, fr, h1, h2⟩ := h
 obtain ⟨c', h3, h4, h5, h6⟩ := heap_setCells_at b vs o w c h1
 exact ⟨c', ⟨E, fr, h3, fun i hi => by rw [World.frozen?_setCells]; exact h2 i (by omega)⟩, h4, h5, h6⟩
theorem RowC.drew {w : World} {k b : Nat} {c : Array Value} (h : RowC w k b c) : RowC w.drew k b c := h
theorem callT_prim {P : Program} {C : Cert} {prim : FuncId → Option (List T → List Ob → Option (T × List Ob))} {f : FuncId} {d : List T → List Ob → Option (T × List Ob)} {args : List T} {objs : List Ob} {r : T × List Ob} (hp : prim f = some d) (h : d args objs = some r) : callT P C prim f args objs = some r :=
 callT_some.2 ⟨1, by simp only [callF, hp]; exact h⟩
def Ob.dead (x : Ob) : Ob := ⟨true, false, true, true, 0, x.k, x.xs⟩
theorem row_open {w : World} {g : Nat → Option Nat} {N : Nat → Prop} {objs : List Ob} {args : List T} {vs : Array Value} (H : Ent w g N objs args vs) {o n : Nat} {x : Ob} (hx : lookOf objs o = x) (ha : x.alive = true) (hr : x.row = true) (hn : n = x.xs.length) {v : Value} (hv : FrV w g (lookOf objs) N v (.win o 0 n)) (h0 : 0 < n) :
 ∃ b cap C, g o = some b ∧ v = .slice (some ⟨b, 0, none⟩) n cap ∧ n ≤ cap ∧ RowC w x.k b C ∧ cap * x.k ≤ C.size ∧ ∀ (i : Nat) y, x.xs[i]? = some y → y.width = x.k ∧ ∀ (j : Nat) t, y.cells[j]? = some t → ∃ v, C[i * x.k + j]? = some v ∧ ShV w N v t := by
 obtain ⟨_, _, hal⟩ := hv
 rw [hx] at hal
 obtain ⟨a, cap, rfl, hle, hor⟩ := hal ha
 rcases hor with rfl | ⟨b, hgb, rfl, hsz⟩
 · omega
 ·
  have hrt := H.rt o
  unfold RootV at hrt
  rw [hx] at hrt
  obtain ⟨_, h2⟩ := hrt ha
  rw [hgb] at h2
  obtain ⟨C, E, fr, hh, hfr, hxs⟩ := h2
  have hcz : csz w b = C.size := by simp [csz, hh]
  rw [Nat.zero_add, hcz] at hsz
  refine ⟨b, cap, C, hgb, by rw [Nat.zero_mul], hle, ⟨E, fr, hh, hfr⟩, hsz, fun i y hy => ⟨(hxs i y hy).1, fun j t ht => ?_⟩⟩
  obtain ⟨v, h3, h4⟩ := (hxs i y hy).2 j t ht
  rw [CellV, hr, if_pos rfl] at h4
  exact ⟨v, h3, h4⟩
end Go.Proofs.YtbfgmnjhikaagaaGreatDoor.PM
namespace Go.Proofs.YtbfgmnjhikaagaaGreatDoor.PN
open Go Go.Proofs.YtbfgmnjhikaagaaGreatDoor.PM
inductive N where
  | l (n : Nat)
  | d (nm n : Nat)
def N.v : N → Nat
  | .l n => n
  | .d _ n => n
def N.add : N → N → N
  | .l x, .l y => .l (x + y)
  | .l x, .d m y => if x = 0 then .d m y else .d 0 (x + y)
  | .d m x, .l y => if y = 0 then .d m x else .d 0 (x + y)
  | .d _ x, .d _ y => .d 0 (x + y)
def N.sub : N → N → N
  | .l x, .l y => .l (x - y)
  | .l x, .d _ y => .d 0 (x - y)
  | .d m x, .l y => if y = 0 then .d m x else .d 0 (x - y)
  | .d _ x, .d _ y => .d 0 (x - y)
def N.same : N → N → Bool
  | .l x, .l y => x == y
  | .d m _, .d m' _ => m != 0 && m == m'
  | _, _ => false
def N.is0 : N → Bool
  | .l n => n == 0
  | .d _ _ => false
abbrev Src := List (Nat × Nat)
inductive V (El : Nat → Type) where
  | bl (b : Bool)
  | bp (neg : Bool) (c : Prop) (d : Decidable c)
  | bb (neg : Bool) (x : Bool)
  | il (k : IntKind) (n : Int)
  | id (k : IntKind) (nm : Nat) (x : Int)
  | s (x : ByteArray)
  | nil
  | s0 (src : Src)
  | sl (t : Nat) (xs : List (El t)) (src : Src)
  | agg (cs : List (V El))
  | win (o : Nat) (full : Bool) (off len : N)
  | ptr (o : Nat) (i : N) (j : Nat)
  | rp (t : Nat) (x : El t) (j : Nat) (src : Src)
  | fn (f : FuncId) (caps : List (V El))
  | tup (ts : List (V El))
  | ifl (b : Bool)
  | ifd (x : Bool)
  | dead
inductive O (El : Nat → Type) where
  | row (alive may keep : Bool) (ver t : Nat) (xs : List (El t)) (last : Option (N × El t))
  | box (alive may : Bool) (ver k : Nat) (agg : Bool) (cs : List (V El))
  | gone
inductive Kd where
  | slice (e c : Nat)
  | array (n e : Nat)
  | struct (fs : List (Nat × Nat))
  | string
  | bool
  | int (k : IntKind)
  | iface
  | other
structure TI (El : Nat → Type) where
  k : Nat
  agg : Bool
  bytes : Nat
  kd : Kd
  zero : Option (V El)
  cs : Option (List (Option Nat))
  eq : Option (List (Nat × Nat))
structure Sg where
  El : Nat → Type
  w : Nat → Nat
  aggE : Nat → Bool
  flat : Nat → Bool
  inh : (t : Nat) → El t
  cells : (t : Nat) → El t → List (V El)
  mkE : (t : Nat) → List (V El) → Option (El t)
  ofStr : (t : Nat) → ByteArray → Option (List (El t))
  toStr : (t : Nat) → List (El t) → Option ByteArray
  ti : Nat → Option (TI El)
  enc : (t : Nat) → El t → T
variable {G : Sg} {El : Nat → Type}
inductive Q (El : Nat → Type) (α : Type) : Type 1 where
  | ret (a : α)
  | fail
  | get (o : Nat) (k : O El → Q El α)
  | need (c : Prop) (d : Decidable c) (k : Q El α)
  | call (ρ : Type) (x : Option ρ) (k : ρ → Q El α)
  | either (β γ : Type) (x : β ⊕ γ) (l : β → Q El α) (r : γ → Q El α)
namespace Q
def bind {α β : Type} : Q El α → (α → Q El β) → Q El β
  | .ret a, f => f a
  | .fail, _ => .fail
  | .get o k, f => .get o fun x => (k x).bind f
  | .need c d k, f => .need c d (k.bind f)
  | .call ρ x k, f => .call ρ x fun r => (k r).bind f
  | .either β γ x l r, f => .either β γ x (fun a => (l a).bind f) (fun b => (r b).bind f)
instance : Monad (Q El) where
  pure := Q.ret
  bind := Q.bind
end Q
def getQ (o : Nat) : Q El (O El) := .get o .ret
def grd (b : Bool) : Q El Unit := match b with
  | true => .ret ()
  | false => .fail
def nd (c : Prop) [d : Decidable c] : Q El Unit := .need c d (.ret ())
def opt {α : Type} : Option α → Q El α
  | some a => .ret a
  | none => .fail
def ndLe : N → N → Q El Unit
  | .l x, .l y => grd (decide (x ≤ y))
  | a, b => nd (a.v ≤ b.v)
def ndEq : N → Nat → Q El Unit
  | a, n => nd (a.v = n)
def isCell : V El → Bool
  | .bl _ | .bp .. | .bb .. | .il .. | .id .. | .s _ | .nil | .s0 _ | .sl .. | .win .. | .ptr .. | .fn .. => true
  | _ => false
def isAgg : V El → Bool
  | .agg _ => true
  | _ => false
def cell1 : V El → V El
  | .agg _ | .tup _ | .rp .. => .dead
  | v => v
def cellsV : V El → List (V El)
  | .agg cs => cs
  | v => [v]
def okA : V El → Bool
  | .tup _ | .rp .. => false
  | _ => true
def boolOf : V El → Option Bool
  | .bl b => some b
  | .bp neg c d => some (match neg with | true => !(@decide c d) | false => @decide c d)
  | .bb neg x => some (match neg with | true => !x | false => x)
  | _ => none
def notV : V El → Option (V El)
  | .bl b => some (.bl !b)
  | .bp neg c d => some (.bp (!neg) c d)
  | .bb neg x => some (.bb (!neg) x)
  | _ => none
def rowsOf {t : Nat} (xs : List (El t)) : Option (N × El t) → List (El t)
  | none => xs
  | some (i, y) => xs.set i.v y
def O.alive : O El → Bool
  | .row a .. => a
  | .box a .. => a
  | .gone => false
def O.ver : O El → Nat
  | .row _ _ _ v .. => v
  | .box _ _ v .. => v
  | .gone => 0
def O.may : O El → Bool
  | .row _ m .. => m
  | .box _ m .. => m
  | .gone => false
def O.born : O El → Bool
  | .gone => false
  | _ => true
def O.isRow : O El → Bool
  | .row .. => true
  | _ => false
def O.setVer (n : Nat) : O El → O El
  | .row a m k _ t xs l => .row a m k n t xs l
  | .box a m _ k g cs => .box a m n k g cs
  | .gone => .gone
def O.kill : O El → O El
  | .row _ m k v t xs l => .row false m k (v + 1) t xs l
  | .box _ m v k g cs => .box false m (v + 1) k g cs
  | .gone => .gone
def mapQ {α β : Type} (f : α → Q El β) : List α → Q El (List β)
  | [] => .ret []
  | a :: r => do
    let b ← f a
    let s ← mapQ f r
    pure (b :: s)
def chkQ : Src → Q El Unit
  | [] => .ret ()
  | (o, v) :: r => do
    let x ← getQ o
    grd (x.alive && x.ver == v)
    chkQ r
def winQ {t : Nat} (full : Bool) (off len : N) (xs : List (El t)) (last : Option (N × El t)) : Q El (List (El t)) :=
  match full && off.is0 with
  | true => do ndEq len xs.length; pure (rowsOf xs last)
  | false => match off.is0 with
    | true => do nd (len.v ≤ xs.length); pure ((rowsOf xs last).take len.v)
    | false => do nd (off.v + len.v ≤ xs.length); pure (((rowsOf xs last).drop off.v).take len.v)
def viewQ : V El → Q El (V El)
  | .bl b => .ret (.bl b)
  | .bp a b c => .ret (.bp a b c)
  | .bb a b => .ret (.bb a b)
  | .il a b => .ret (.il a b)
  | .id a b c => .ret (.id a b c)
  | .s x => .ret (.s x)
  | .nil => .ret (.s0 [])
  | .s0 src => do chkQ src; pure (.s0 src)
  | .sl t xs src => do chkQ src; pure (.sl t xs src)
  | .win o full off len => do
    match ← getQ o with
    | .row al mw kp ver t xs last => do
      grd al
      let ys ← winQ (full && kp) off len xs last
      pure (.sl t ys (match mw with | true => [(o, ver)] | false => []))
    | _ => .fail
  | _ => .fail
def closeQ1 (v : V El) : Q El (V El) := do
  match ← viewQ v with
  | .s0 [] => pure (.s0 [])
  | .s0 _ => .fail
  | .sl t xs [] => pure (.sl t xs [])
  | .sl _ _ _ => .fail
  | v => pure v
def closeQ : V El → Q El (V El)
  | .agg cs => do pure (.agg (← mapQ closeQ1 cs))
  | v => closeQ1 v
def takeQ (inf : TI El) (cs : List (V El)) (j : Nat) : Q El (V El) := do
  grd (decide (j + inf.k ≤ cs.length))
  match inf.agg with
  | true => pure (.agg ((cs.drop j).take inf.k))
  | false => opt (cs[j]?.map cell1)
def spliceV (cs : List (V El)) (j : Nat) (vs : List (V El)) : List (V El) := cs.take j ++ vs ++ cs.drop (j + vs.length)
def oneOr (agg : Bool) (cs : List (V El)) : Bool := agg || cs.length == 1
def lookV (l : List (Nat × V El)) (d : V El) (t : Nat) : V El := match findK l t with
  | some v => v
  | none => d
def lift1V : Value → V El
  | .slice none 0 0 => .nil
  | .nilIface => .ifl false
  | .bool b => .bl b
  | .int k n => .il k n
  | .string s => .s s
  | _ => .dead
def liftV : Value → V El
  | .agg cs => .agg (cs.toList.map lift1V)
  | v => lift1V v
structure S (El : Nat → Type) where
  n : Nat
  df : V El
  tm : List (Nat × V El)
  st : List (Nat × O El)
  nx : Nat
  m : Nat
def S.get (s : S El) (t : Nat) : V El := match decide (t < s.n) with
  | true => lookV s.tm s.df t
  | false => .dead
def evalV (s : S El) : Operand → V El
  | .tmp t => s.get t
  | .const v => liftV v
  | .func f => .fn f []
  | .global _ => .dead
def lookO : List (Nat × O El) → Nat → O El
  | [], _ => .gone
  | (k, x) :: r, o => if k = o then x else lookO r o
def putO : List (Nat × O El) → Nat → O El → List (Nat × O El)
  | [], o, x => [(o, x)]
  | (k, y) :: r, o, x => if k = o then (k, x) :: r else (k, y) :: putO r o x
def putOs : List (Nat × O El) → List (Nat × O El) → List (Nat × O El)
  | s, [] => s
  | s, (o, x) :: r => putOs (putO s o x) r
structure Ef (El : Nat → Type) where
  val : V El
  wr : List (Nat × O El)
def refs1V : V El → List Nat
  | .win o _ _ _ => [o]
  | .ptr o _ _ => [o]
  | .fn _ caps => caps.flatMap fun c => match c with | .ptr o _ _ => [o] | _ => []
  | _ => []
def refsV : V El → List Nat
  | .agg cs => cs.flatMap refs1V
  | .tup ts => ts.flatMap fun t => match t with | .agg cs => cs.flatMap refs1V | t => refs1V t
  | t => refs1V t
def isPtr : V El → Bool
  | .ptr .. => true
  | _ => false
def passR : V El → V El × Src
  | .sl t xs src => (.sl t xs [], src)
  | .s0 src => (.s0 [], src)
  | v => (v, [])
def passQ1 (lent : Bool) (v : V El) : Q El (V El × Src) :=
  match v with
  | .ptr o i j => .ret (.ptr o i j, [])
  | .fn f caps => do grd (caps.all isPtr); pure (.fn f caps, [])
  | v => match lent, v with
    | true, .win o f off len => .ret (.win o f off len, [])
    | true, .nil => .ret (.nil, [])
    | true, .dead => .ret (.dead, [])
    | _, v => do
      let u ← viewQ v
      pure (passR u)
def passQ (lent : Bool) : V El → Q El (V El × Src)
  | .agg cs => do
    let l ← mapQ (passQ1 lent) cs
    pure (.agg (l.map (·.1)), l.flatMap (·.2))
  | v => passQ1 lent v
def passAllQ : List Bool → List (V El) → Q El (List (V El × Src))
  | _, [] => .ret []
  | ls, t :: r => do
    let a ← passQ (ls.headD false) t
    let s ← passAllQ ls.tail r
    pure (a :: s)
def passOQ : O El → Q El (O El × Src)
  | .row a m k v t xs l => .ret (.row a m k v t xs l, [])
  | .box a m v k g cs => do
    grd (oneOr g cs)
    let l ← mapQ (passQ1 true) cs
    pure (.box a m v k g (l.map (·.1)), l.flatMap (·.2))
  | .gone => .fail
def cellsO : O El → List (V El)
  | .box _ _ _ _ g cs => match oneOr g cs with
    | true => cs
    | false => []
  | _ => []
def reachQ : Nat → List Nat → List (Nat × O El) → Src → Q El (List (Nat × O El) × Src)
  | _, [], done, vs => .ret (done, vs)
  | 0, _ :: _, _, _ => .fail
  | n + 1, o :: r, done, vs =>
    match done.any (·.1 == o) with
    | true => reachQ n r done vs
    | false => do
      let x ← getQ o
      grd x.alive
      let y ← passOQ x
      reachQ n (r ++ (cellsO y.1).flatMap refs1V) (done ++ [(o, y.1)]) (vs ++ y.2)
def capV (f : Nat → Option Nat) : V El → Option (V El)
  | .ptr o i j => (f o).map fun o' => V.ptr o' i j
  | _ => none
def mapVC (f : Nat → Option Nat) (sg : Src → Option Src) : V El → V El
  | .bl b => .bl b
  | .bp a b c => .bp a b c
  | .bb a b => .bb a b
  | .il a b => .il a b
  | .id a b c => .id a b c
  | .s x => .s x
  | .nil => .nil
  | .ifl b => .ifl b
  | .ifd b => .ifd b
  | .s0 src => match sg src with | some s => .s0 s | none => .dead
  | .sl t xs src => match sg src with | some s => .sl t xs s | none => .dead
  | .win o full off len => match f o with | some o' => .win o' full off len | none => .dead
  | .ptr o i j => match f o with | some o' => .ptr o' i j | none => .dead
  | .rp t x j src => match sg src with | some s => .rp t x j s | none => .dead
  | .fn h caps => match caps.mapM (capV f) with | some cs => .fn h cs | none => .dead
  | _ => .dead
def mapVA (f : Nat → Option Nat) (sg : Src → Option Src) : V El → V El
  | .agg cs => .agg (cs.map fun c => mapVC f sg (cell1 c))
  | v => mapVC f sg v
def mapVV (f : Nat → Option Nat) (sg : Src → Option Src) : V El → V El
  | .tup ts => .tup (ts.map (mapVA f sg))
  | v => mapVA f sg v
def mapVO (f : Nat → Option Nat) (sg : Src → Option Src) : O El → O El
  | .box a m v k g cs => .box a m v k g (cs.map fun c => mapVC f sg (cell1 c))
  | x => x
structure Ev (El : Nat → Type) where
  call : FuncId → List (V El) → List (O El) → Q El (V El × List (O El))
  lent : FuncId → List Bool
def verOfO (xs : List (O El)) (j : Nat) : Nat := ((xs[j]?).map (·.ver)).getD 0
def backSO (L : List Nat) (base : Nat) (lv objs : List (O El)) (S : Src) (src : Src) : Option Src :=
  (src.mapM fun p => if verOfO objs p.1 = p.2 then (backN L base objs.length p.1).map fun o => (o, if p.1 < L.length then verOfO lv p.1 + 1 else p.2) else none).map (· ++ S)
def flatO (G : Sg) : O G.El → Bool
  | .row _ _ _ _ t _ _ => G.flat t
  | _ => true
def keepAs : O El → O El → O El
  | .row _ _ k _ _ _ _, .row a m k' v t xs l => .row a m (k && k') v t xs l
  | _, x => x
def callQ (G : Sg) (E : Ev G.El) (f : FuncId) (args : List (V G.El)) (base : Nat) : Q G.El (Ef G.El) := do
  let aas ← passAllQ (E.lent f) args
  let lv ← reachQ 64 ((aas.map (·.1)).flatMap refsV) [] []
  let L := lv.1.map (·.1)
  let S := aas.flatMap (·.2) ++ lv.2
  grd (S.all fun p => !L.contains p.1)
  let ro ← E.call f (aas.map fun a => mapVV (posIn L) noSrc a.1) (lv.1.map fun p => mapVO (posIn L) noSrc (p.2.setVer 0))
  let m := L.length
  grd (decide (m ≤ ro.2.length ∧ ro.2.length < m + room) && (S.isEmpty || ro.2.all (flatO G)) && ro.2.all (fun x => x.may || !x.alive) && ro.2.all (·.born))
  let sg := backSO L base (lv.1.map (·.2)) ro.2 S
  pure ⟨mapVV (backN L base ro.2.length) sg ro.1, ro.2.zipIdx.map fun p => ((backN L base ro.2.length p.2).getD 0,
    keepAs (((lv.1.map (·.2))[p.2]?).getD .gone) ((mapVO (backN L base ro.2.length) sg p.1).setVer (if p.2 < m then verOfO (lv.1.map (·.2)) p.2 + 1 else p.1.ver)))⟩
def getRow {t : Nat} (d : El t) (xs : List (El t)) (last : Option (N × El t)) (i : N) : Q El (El t) := do
  nd (i.v < xs.length)
  match last with
  | none => pure (xs.getD i.v d)
  | some (i', y) => match i.same i' with
    | true => do nd (i.v = i'.v); pure y
    | false => pure ((xs.set i'.v y).getD i.v d)
def setRow {t : Nat} (xs : List (El t)) (last : Option (N × El t)) (i : N) : List (El t) := match last with
  | none => xs
  | some (i', y) => match i.same i' with
    | true => xs
    | false => xs.set i'.v y
def putSrc (src : Src) : V El → V El
  | .sl t xs _ => .sl t xs src
  | .s0 _ => .s0 src
  | v => v
def loadQ (G : Sg) (t : TypeId) (a : V G.El) : Q G.El (V G.El) := do
  let inf ← opt (G.ti t)
  match a with
  | .ptr o i j => do
    match ← getQ o with
    | .row al _ _ _ t' xs last => do
      grd al
      let x ← getRow (G.inh t') xs last i
      takeQ inf (G.cells t' x) j
    | .box al _ _ _ g cs => do
      grd (al && oneOr g cs && i.is0)
      takeQ inf cs j
    | .gone => .fail
  | .rp t' x j src => do
    chkQ src
    match ← takeQ inf (G.cells t' x) j with
    | .agg cs => pure (.agg (cs.map fun c => putSrc src (cell1 c)))
    | v => pure (putSrc src v)
  | _ => .fail
def storeQ (G : Sg) (t : TypeId) (a v : V G.El) : Q G.El (List (Nat × O G.El)) := do
  let inf ← opt (G.ti t)
  match a with
  | .ptr o i j => do
    match ← getQ o with
    | .row al mw kp ver t' xs last => do
      grd (al && mw)
      let x ← getRow (G.inh t') xs last i
      let w ← closeQ v
      grd ((cellsV w).length == inf.k && (cellsV w).all isCell && decide (j + inf.k ≤ (G.cells t' x).length))
      let y ← opt (G.mkE t' (spliceV (G.cells t' x) j (cellsV w)))
      pure [(o, .row al mw kp (ver + 1) t' (setRow xs last i) (some (i, y)))]
    | .box al mw ver k g cs => do
      grd (al && mw && oneOr g cs && i.is0)
      grd ((cellsV v).length == inf.k && (cellsV v).all isCell && decide (j + inf.k ≤ cs.length))
      pure [(o, .box al mw (ver + 1) k g (spliceV cs j (cellsV v)))]
    | .gone => .fail
  | _ => .fail
def boundQ (v : V El) (n : N) : Q El N := do
  match v, n with
  | .il _ x, n => do
    grd (decide (0 ≤ x))
    ndLe (.l x.toNat) n
    pure (.l x.toNat)
  | .id _ nm x, n => do
    nd (0 ≤ x)
    nd (x ≤ ((n.v : Nat) : Int))
    pure (.d nm x.toNat)
  | _, _ => .fail
def hiQ (hi : Option (V El)) (n : N) : Q El N := match hi with
  | some v => boundQ v n
  | none => .ret n
def loQ (lo : Option (V El)) (n : N) : Q El N := match lo with
  | some v => boundQ v n
  | none => .ret (.l 0)
def sliceE (G : Sg) (t : TypeId) : Q G.El Nat := do
  let inf ← opt (G.ti t)
  match inf.kd with
  | .slice e _ => do
    let ie ← opt (G.ti e)
    pure ie.k
  | _ => .fail
def elemQ (G : Sg) (t : TypeId) : Q G.El (Nat × Nat) := do
  let inf ← opt (G.ti t)
  match inf.kd with
  | .slice e c => do
    let ie ← opt (G.ti e)
    grd (G.w c == ie.k)
    pure (e, c)
  | _ => .fail
def widthQ (G : Sg) (t' k : Nat) : Q G.El Unit := grd (G.w t' == k)
def sliceQ (G : Sg) (t : TypeId) (x : V G.El) (lo hi mx : Option (V G.El)) : Q G.El (V G.El) := do
  grd mx.isNone
  match x with
  | .s s => do
    let inf ← opt (G.ti t)
    grd (match inf.kd with | .string => true | _ => false)
    let h ← hiQ hi (.d 0 s.size)
    let l ← loQ lo h
    pure (.s (s.extract l.v h.v))
  | .nil => do
    let _ ← sliceE G t
    let h ← hiQ hi (.l 0)
    let _ ← loQ lo h
    pure .nil
  | .s0 src => do
    let _ ← sliceE G t
    let h ← hiQ hi (.l 0)
    let _ ← loQ lo h
    pure (.s0 src)
  | .sl t' xs src => do
    let k ← sliceE G t
    widthQ G t' k
    let h ← hiQ hi (.d 0 xs.length)
    let l ← loQ lo h
    pure (.sl t' ((xs.take h.v).drop l.v) src)
  | .win o full off len => do
    let k ← sliceE G t
    match ← getQ o with
    | .row _ _ _ _ t' _ _ => do
      widthQ G t' k
      let h ← hiQ hi len
      let l ← loQ lo h
      pure (.win o (full && hi.isNone && l.is0) (off.add l) (h.sub l))
    | _ => .fail
  | _ => .fail
def idxQ (ix : V El) (len : N) : Q El N := match ix, len with
  | .il _ x, .l n => do
    grd (decide (0 ≤ x) && decide (x.toNat < n))
    pure (.l x.toNat)
  | .il _ x, .d _ n => do
    grd (decide (0 ≤ x))
    nd (x.toNat < n)
    pure (.l x.toNat)
  | .id _ nm x, len => do
    nd (0 ≤ x)
    nd (x < ((len.v : Nat) : Int))
    pure (.d nm x.toNat)
  | _, _ => .fail
def indexAddrQ (G : Sg) (t : TypeId) (x ix : V G.El) : Q G.El (V G.El) := do
  let k ← sliceE G t
  match x with
  | .sl t' xs src => do
    widthQ G t' k
    let i ← idxQ ix (.d 0 xs.length)
    pure (.rp t' (xs.getD i.v (G.inh t')) 0 src)
  | .win o _ off len => do
    match ← getQ o with
    | .row _ _ _ _ t' _ _ => do
      widthQ G t' k
      let i ← idxQ ix len
      pure (.ptr o (off.add i) 0)
    | _ => .fail
  | _ => .fail
def castL {t e : Nat} (xs : List (El t)) : Option (List (El e)) := if h : t = e then some (h ▸ xs) else none
def elemsQ (G : Sg) (e : Nat) : V G.El → Q G.El (List (G.El e) × N)
  | .nil => .ret ([], .l 0)
  | .s0 [] => .ret ([], .l 0)
  | .win o full off len => do
    match ← getQ o with
    | .row al _ kp _ t xs last => do
      grd al
      let ys ← winQ (full && kp) off len xs last
      let zs ← opt (castL (e := e) ys)
      pure (zs, len)
    | _ => .fail
  | .sl t xs src => do
    let zs ← opt (castL (e := e) xs)
    match src with
    | [] => pure (zs, .d 0 zs.length)
    | src => do
      chkQ src
      grd (G.flat t)
      pure (zs, .d 0 zs.length)
  | _ => .fail
def strQ (G : Sg) (e : Nat) (k : Nat) (tx : TypeId) : Q G.El Bool := do
  let inf ← opt (G.ti tx)
  match inf.kd with
  | .slice e' _ => do grd (e' == e); pure false
  | .string => do grd (k == 1); pure true
  | _ => .fail
def newsQ (G : Sg) (e : Nat) (x : V G.El) (str : Bool) : Q G.El (List (G.El e) × N) := match str with
  | true => match x with
    | .s s => do
      let zs ← opt (G.ofStr e s)
      pure (zs, .d 0 s.size)
    | _ => .fail
  | false => elemsQ G e x
def ndMost (n : N) (by_ : Nat) : Q El Unit := match n with
  | .l n => grd (decide (n * by_ ≤ most ∧ n ≤ most))
  | .d _ n => do nd (n * by_ ≤ most); nd (n ≤ most)
def zeroQ (inf : TI El) : Q El (V El) := do
  let z ← opt inf.zero
  grd (okA z && (cellsV z).length == inf.k)
  pure z
def appendQ (G : Sg) (ts : Array TypeId) (a x : V G.El) (base : Nat) : Q G.El (Ef G.El) := do
  let t0 ← opt ts[0]?
  let ec ← elemQ G t0
  let e := ec.2
  let ie ← opt (G.ti ec.1)
  let _ ← zeroQ ie
  let tx ← opt ts[1]?
  let str ← strQ G ec.1 ie.k tx
  let ns ← newsQ G e x str
  match a with
  | .nil => do
    ndMost ns.2 ie.bytes
    pure ⟨.win base true (.l 0) ns.2, [(base, .row true true true 0 e ns.1 none)]⟩
  | .win o full off len => do
    grd off.is0
    match ← getQ o with
    | .row al mw kp ver t xs last => do
      grd (al && mw)
      let ys ← winQ (full && kp) (.l 0) len xs last
      let zs ← opt (castL (e := e) ys)
      ndMost (len.add ns.2) ie.bytes
      pure ⟨.win base true (.l 0) (len.add ns.2), [(o, O.kill (.row al mw kp ver t xs last)), (base, .row true true true 0 e (zs ++ ns.1) none)]⟩
    | _ => .fail
  | _ => .fail
def intN (k : IntKind) (nm : Nat) : N → V El
  | .l n => .il k n
  | .d _ n => .id k (nm + 100000) (n : Nat)
def lenQ (G : Sg) (ts : Array TypeId) (x : V G.El) (base : Nat) : Q G.El (V G.El) := do
  let t ← opt ts[0]?
  let inf ← opt (G.ti t)
  match inf.kd, x with
  | .string, .s s => pure (intN .i64 base (.d 0 s.size))
  | .slice _ _, .nil => pure (.il .i64 0)
  | .slice _ _, .s0 src => do chkQ src; pure (.il .i64 0)
  | .slice _ _, .sl _ xs src => do chkQ src; pure (intN .i64 base (.d 0 xs.length))
  | .slice _ _, .win _ _ _ len => pure (intN .i64 base len)
  | .array n _, _ => pure (.il .i64 (n : Nat))
  | _, _ => .fail
def fieldsK (G : Sg) : List (Nat × Nat) → Option (List (Nat × Nat))
  | [] => some []
  | (o, t) :: r => match G.ti t, fieldsK G r with
    | some i, some l => some ((o, i.k) :: l)
    | _, _ => none
def fillV (fs : List (Nat × Nat)) (cells : List (V El)) : List (Nat × V El) → Option (List (V El))
  | [] => some cells
  | (i, v) :: r => match fs[i]? with
    | some (off, n) => if (cellsV v).length = n ∧ off + n ≤ cells.length then fillV fs (spliceV cells off (cellsV v)) r else none
    | none => none
def buildQ (G : Sg) (t : TypeId) (parts : List (Nat × V G.El)) : Q G.El (V G.El) := do
  let inf ← opt (G.ti t)
  let z ← opt inf.zero
  let fs ← (match inf.kd with
    | .struct fs => opt (fieldsK G fs)
    | .array n e => do
      let ie ← opt (G.ti e)
      pure ((List.range n).map fun i => (i * ie.k, ie.k))
    | _ => .fail)
  grd (okA z && (cellsV z).all isCell && parts.all fun p => okA p.2 && (cellsV p.2).all isCell)
  let cs ← opt (fillV fs (cellsV z) parts)
  pure (.agg cs)
def setAllV {t : Nat} (xs : List (El t)) : List (Nat × El t) → List (El t)
  | [] => xs
  | (i, v) :: r => setAllV (xs.set i v) r
def elQ (G : Sg) (e k : Nat) (v : V G.El) : Q G.El (G.El e) := do
  let w ← closeQ v
  grd ((cellsV w).length == k && (isAgg w == G.aggE e) && okA v)
  opt (G.mkE e (cellsV w))
def buildSliceQ (G : Sg) (t : TypeId) (n : Nat) (parts : List (Nat × V G.El)) (base : Nat) : Q G.El (Ef G.El) := do
  let ec ← elemQ G t
  let e := ec.2
  let ie ← opt (G.ti ec.1)
  let z ← zeroQ ie
  grd (decide (n * ie.k ≤ 4096) && decide (0 < ie.k))
  let ps ← mapQ (fun p => do let v ← elQ G e ie.k p.2; pure (p.1, v)) parts
  let zc ← elQ G e ie.k z
  grd (ps.all (fun p => decide (p.1 < n)))
  pure ⟨.win base true (.l 0) (.l n), [(base, .row true true true 0 e (setAllV (List.replicate n zc) ps) none)]⟩
def makeSliceQ (G : Sg) (t : TypeId) (l c : V G.El) (base : Nat) : Q G.El (Ef G.El) := do
  let ec ← elemQ G t
  let e := ec.2
  let ie ← opt (G.ti ec.1)
  let z ← zeroQ ie
  grd (decide (0 < ie.k))
  match l, c with
  | .il _ n, .il _ m => do
    grd (decide (0 ≤ n ∧ n ≤ m ∧ m * ie.bytes ≤ most ∧ m ≤ most))
    let zc ← elQ G e ie.k z
    pure ⟨.win base true (.l 0) (.l n.toNat), [(base, .row true true true 0 e (List.replicate n.toNat zc) none)]⟩
  | .il _ n, .id _ _ m => do
    grd (decide (0 ≤ n))
    nd (n ≤ m)
    nd (m * ie.bytes ≤ most)
    nd (m ≤ most)
    let zc ← elQ G e ie.k z
    pure ⟨.win base true (.l 0) (.l n.toNat), [(base, .row true true true 0 e (List.replicate n.toNat zc) none)]⟩
  | .id _ nm n, .il _ m => do
    nd (0 ≤ n)
    nd (n ≤ m)
    grd (decide (m * ie.bytes ≤ most ∧ m ≤ most))
    let zc ← elQ G e ie.k z
    pure ⟨.win base true (.l 0) (.d nm n.toNat), [(base, .row true true true 0 e (List.replicate n.toNat zc) none)]⟩
  | .id _ nm n, .id _ _ m => do
    nd (0 ≤ n)
    nd (n ≤ m)
    nd (m * ie.bytes ≤ most)
    nd (m ≤ most)
    let zc ← elQ G e ie.k z
    pure ⟨.win base true (.l 0) (.d nm n.toNat), [(base, .row true true true 0 e (List.replicate n.toNat zc) none)]⟩
  | _, _ => .fail
def copyQ (G : Sg) (ts : Array TypeId) (d x : V G.El) (base : Nat) : Q G.El (Ef G.El) := do
  let t0 ← opt ts[0]?
  let ec ← elemQ G t0
  let e := ec.2
  let ie ← opt (G.ti ec.1)
  let tx ← opt ts[1]?
  let _ ← elemQ G tx
  let ns ← elemsQ G e x
  match d with
  | .win o _ off len => do
    match ← getQ o with
    | .row al mw kp ver t xs last => do
      grd (al && mw)
      widthQ G t ie.k
      nd (off.v + len.v ≤ xs.length)
      let zs ← opt (castL (e := t) ns.1)
      pure ⟨intN .i64 base (.d 0 (min ns.1.length len.v)), [(o, .row al mw kp (ver + 1) t ((rowsOf xs last).take off.v ++ zs.take (min ns.1.length len.v) ++ (rowsOf xs last).drop (off.v + min ns.1.length len.v)) none)]⟩
    | _ => .fail
  | .nil => pure ⟨.il .i64 0, []⟩
  | _ => .fail
def kdOf (G : Sg) (t : TypeId) : Kd := match G.ti t with
  | some i => i.kd
  | none => .other
def eqScV (G : Sg) (t : TypeId) (x y : V G.El) : Option Bool := match kdOf G t, x, y with
  | .int _, .il k a, .il k' b => if k = k' then some (decide (a = b)) else none
  | .int _, .il k a, .id k' _ b => if k = k' then some (decide (a = b)) else none
  | .int _, .id k _ a, .il k' b => if k = k' then some (decide (a = b)) else none
  | .int _, .id k _ a, .id k' _ b => if k = k' then some (decide (a = b)) else none
  | .bool, x, y => match boolOf x, boolOf y with
    | some a, some b => some (a == b)
    | _, _ => none
  | .string, .s a, .s b => some (strEq a b)
  | _, _, _ => none
def eqFsV (G : Sg) (xs ys : List (V G.El)) : List (Nat × TypeId) → Option Bool
  | [] => some true
  | (o, t) :: r => match xs[o]?, ys[o]? with
    | some x, some y => match eqScV G t x y, eqFsV G xs ys r with
      | some a, some b => some (match r with | [] => a | _ => a && b)
      | _, _ => none
    | _, _ => none
def cmpI (op : BinOp) (a b : Int) : Option (V El) := match op with
  | .eql => some (.bp false (a = b) inferInstance)
  | .neq => some (.bp true (a = b) inferInstance)
  | .lss => some (.bp false (a < b) inferInstance)
  | .leq => some (.bp false (a ≤ b) inferInstance)
  | .gtr => some (.bp false (b < a) inferInstance)
  | .geq => some (.bp false (b ≤ a) inferInstance)
  | _ => none
def foldB : V El → V El
  | .bp false _ d => .bl (@decide _ d)
  | .bp true _ d => .bl (!(@decide _ d))
  | v => v
def ariI (op : BinOp) (k : IntKind) (a b : Int) : Option Int := match op with
  | .add => some (k.wrap (a + b))
  | .sub => some (k.wrap (a - b))
  | .mul => some (k.wrap (a * b))
  | .and => some (andI k a b)
  | .or => some (orI k a b)
  | .xor => some (xorI k a b)
  | .andNot => some (andNotI k a b)
  | _ => none
def divI (op : BinOp) (k : IntKind) (a b : Int) : Option Int := match op with
  | .quo => some (k.wrap (a.tdiv b))
  | .rem => some (a.tmod b)
  | _ => none
def shI (op : BinOp) (k : IntKind) (a b : Int) : Option Int := match op with
  | .shl => some (shlI k a b)
  | .shr => some (shrI k a b)
  | _ => none
def intV (v : V El) : Option (IntKind × Int × Bool) := match v with
  | .il k n => some (k, n, true)
  | .id k _ x => some (k, x, false)
  | _ => none
def mkI (lit : Bool) (k : IntKind) (nm : Nat) (x : Int) : V El := match lit with
  | true => .il k x
  | false => .id k (nm + 100000) x
def binI (op : BinOp) (base : Nat) (k : IntKind) (a : Int) (la : Bool) (k' : IntKind) (b : Int) (lb : Bool) : Q El (V El) :=
  match shI op k a b with
  | some r => do
    (match lb with | true => grd (decide (0 ≤ b)) | false => nd (0 ≤ b))
    pure (mkI (la && lb) k base r)
  | none => do
    grd (decide (k = k'))
    match cmpI op a b with
    | some v => pure (match la && lb with | true => foldB v | false => v)
    | none => match ariI op k a b with
      | some r => pure (mkI (la && lb) k base r)
      | none => match divI op k a b with
        | some r => do
          (match lb with | true => grd (!decide (b = 0)) | false => nd (b ≠ 0))
          pure (mkI (la && lb) k base r)
        | none => .fail
def binS (op : BinOp) (a b : ByteArray) : Q El (V El) := match op with
  | .eql => .ret (.bb false (strEq a b))
  | .neq => .ret (.bb true (strEq a b))
  | .lss => .ret (.bb false (strLt a b))
  | .geq => .ret (.bb true (strLt a b))
  | .leq => .ret (.bb false (strLt a b || strEq a b))
  | .gtr => .ret (.bb true (strLt a b || strEq a b))
  | .add => do nd (a.size + b.size ≤ 9223372036854775807); pure (.s (a ++ b))
  | _ => .fail
def eqOp (op : BinOp) (b : Bool) : Q El (V El) := match op with
  | .eql => .ret (.bb false b)
  | .neq => .ret (.bb true b)
  | _ => .fail
def isU8 : Kd → Bool
  | .int .u8 => true
  | _ => false
def isStrK : Kd → Bool
  | .string => true
  | _ => false
def isIface : Kd → Bool
  | .iface => true
  | _ => false
def isNilIface : Operand → Bool
  | .const .nilIface => true
  | _ => false
def binQ (G : Sg) (base : Nat) (op : BinOp) (t : TypeId) (x y : V G.El) (yo : Operand) : Q G.El (V G.El) :=
  match intV x, intV y with
  | some (k, a, la), some (k', b, lb) => binI op base k a la k' b lb
  | _, _ => match boolOf x, boolOf y with
    | some a, some b => do
      let inf ← opt (G.ti t)
      grd (match inf.kd with | .bool => true | _ => false)
      eqOp op (a == b)
    | _, _ => match x, y with
      | .s a, .s b => binS op a b
      | .agg xs, .agg ys => do
        let inf ← opt (G.ti t)
        let fs ← opt inf.eq
        let b ← opt (eqFsV G xs ys fs)
        eqOp op b
      | .ifl a, .ifl _ => do
        let inf ← opt (G.ti t)
        grd (isNilIface yo && isIface inf.kd)
        eqOp op (!a)
      | .ifd a, .ifl _ => do
        let inf ← opt (G.ti t)
        grd (isNilIface yo && isIface inf.kd)
        match op with
        | .eql => pure (.bb true a)
        | .neq => pure (.bb false a)
        | _ => .fail
      | _, _ => .fail
def unQ (base : Nat) (op : UnOp) (x : V El) : Q El (V El) := match op with
  | .not => opt (notV x)
  | .neg => match intV x with
    | some (k, a, la) => .ret (mkI la k base (k.wrap (0 - a)))
    | none => .fail
  | .xor => match intV x with
    | some (k, a, la) => .ret (mkI la k base (xorI k (notI k) a))
    | none => .fail
  | _ => .fail
def convQ (G : Sg) (base : Nat) (src dst : TypeId) (x : V G.El) : Q G.El (Ef G.El) := do
  let a ← opt (G.ti src)
  let b ← opt (G.ti dst)
  match a.kd, b.kd with
  | .int _, .int k => match intV x with
    | some (_, n, la) => pure ⟨mkI la k base (k.wrap n), []⟩
    | none => .fail
  | .string, .string => match x with
    | .s s => pure ⟨.s s, []⟩
    | _ => .fail
  | .string, .slice e' e => match x with
    | .s s => do
      let ie ← opt (G.ti e')
      grd (G.w e == 1 && isU8 ie.kd && ie.k == 1 && ie.bytes == 1)
      nd (s.size ≤ most)
      let xs ← opt (G.ofStr e s)
      pure ⟨.win base true (.l 0) (.d 0 s.size), [(base, .row true true true 0 e xs none)]⟩
    | _ => .fail
  | .slice e' e, .string => do
    let ie ← opt (G.ti e')
    grd (G.w e == 1 && isU8 ie.kd && ie.k == 1)
    let ns ← elemsQ G e x
    let s ← opt (G.toStr e ns.1)
    pure ⟨.s s, []⟩
  | _, _ => .fail
def minQ (base : Nat) (x y : V El) (mx : Bool) : Q El (V El) := match intV x, intV y with
  | some (k, a, la), some (k', b, lb) => do
    grd (decide (k = k'))
    pure (mkI (la && lb) k base (match mx with | true => maxI a b | false => minI a b))
  | _, _ => .fail
def undV : V El := .tup []
def fieldAt (fs : List (Nat × Nat)) (f : Nat) : Q El (Nat × Nat) := opt fs[f]?
def opQ (G : Sg) (E : Ev G.El) (s : S G.El) (base : Nat) (o : Oper) : Q G.El (Ef G.El) :=
  let ev := evalV s
  match o.op with
  | .move x | .assign x => .ret ⟨ev x, []⟩
  | .alloc t => do
    let inf ← opt (G.ti t)
    let z ← zeroQ inf
    grd ((cellsV z).all isCell)
    pure ⟨.ptr base (.l 0) 0, [(base, .box true true 0 inf.k (isAgg z) (cellsV z))]⟩
  | .box t x => do
    let inf ← opt (G.ti t)
    match ev x with
    | .agg cs => do
      grd (cs.length == inf.k && cs.all isCell)
      pure ⟨.ptr base (.l 0) 0, [(base, .box true true 0 inf.k true cs)]⟩
    | v => do
      grd (isCell v && inf.k == 1)
      pure ⟨.ptr base (.l 0) 0, [(base, .box true true 0 inf.k false [v])]⟩
  | .build t ps => do pure ⟨← buildQ G t (ps.toList.map fun p => (p.1, ev p.2)), []⟩
  | .buildSlice t n ps => buildSliceQ G t n (ps.toList.map fun p => (p.1, ev p.2)) base
  | .load t a => match a with
    | .global _ => do
      let inf ← opt (G.ti t)
      grd (inf.k == 0 && inf.agg)
      pure ⟨.agg [], []⟩
    | a => do pure ⟨← loadQ G t (ev a), []⟩
  | .store t a x => do pure ⟨undV, ← storeQ G t (ev a) (ev x)⟩
  | .nilCheck x => match ev x with
    | .ptr o i j => .ret ⟨.ptr o i j, []⟩
    | .rp t x j s => .ret ⟨.rp t x j s, []⟩
    | .fn f c => .ret ⟨.fn f c, []⟩
    | _ => .fail
  | .binOp op t x y _ => do pure ⟨← binQ G base op t (ev x) (ev y) y, []⟩
  | .unOp op _ x => do pure ⟨← unQ base op (ev x), []⟩
  | .convert src dst x => convQ G base src dst (ev x)
  | .makeFunc (.func f) first caps => do
    grd (first.size == 0 && (caps.toList.map ev).all isPtr)
    pure ⟨.fn f (caps.toList.map ev), []⟩
  | .makeSlice t l c => makeSliceQ G t (ev l) (ev c) base
  | .slice t x lo hi mx => do pure ⟨← sliceQ G t (ev x) (lo.map ev) (hi.map ev) (mx.map ev), []⟩
  | .fieldAddr t x f => do
    let inf ← opt (G.ti t)
    match inf.kd with
    | .struct fs => do
      let p ← fieldAt fs f
      let ie ← opt (G.ti p.2)
      grd (decide (0 < ie.k))
      match ev x with
      | .ptr o i j => pure ⟨.ptr o i (j + p.1), []⟩
      | .rp t' x j src => pure ⟨.rp t' x (j + p.1) src, []⟩
      | _ => .fail
    | _ => .fail
  | .field t x f => do
    let inf ← opt (G.ti t)
    match inf.kd with
    | .struct fs => do
      let p ← fieldAt fs f
      let ie ← opt (G.ti p.2)
      match ev x with
      | .agg cs => do pure ⟨← takeQ ie cs p.1, []⟩
      | _ => .fail
    | _ => .fail
  | .indexAddr t x ix => do pure ⟨← indexAddrQ G t (ev x) (ev ix), []⟩
  | .index t x ix => do
    let inf ← opt (G.ti t)
    grd (isStrK inf.kd)
    match ev x, intV (ev ix) with
    | .s s, some (_, i, li) => do
      (match li with | true => grd (decide (0 ≤ i)) | false => nd (0 ≤ i))
      nd (i < ((s.size : Nat) : Int))
      pure ⟨mkI false .u8 base (byteAt s i), []⟩
    | _, _ => .fail
  | .extract x i => match ev x with
    | .tup ts => do
      let v ← opt ts[i]?
      grd (okA v)
      pure ⟨v, []⟩
    | _ => .fail
  | .call c => match c.callee with
    | .builtin .append => match c.args.toList.map ev with
      | [a, x] => do
        grd (c.argTypes.size == 2)
        appendQ G c.argTypes a x base
      | _ => .fail
    | .builtin .len => match c.args.toList.map ev with
      | [x] => do pure ⟨← lenQ G c.argTypes x base, []⟩
      | _ => .fail
    | .builtin .copy => match c.args.toList.map ev with
      | [d, x] => copyQ G c.argTypes d x base
      | _ => .fail
    | .builtin .min => match c.args.toList.map ev with
      | [x, y] => do pure ⟨← minQ base x y false, []⟩
      | _ => .fail
    | .builtin .max => match c.args.toList.map ev with
      | [x, y] => do pure ⟨← minQ base x y true, []⟩
      | _ => .fail
    | .value f => match ev f with
      | .fn g caps => do
        grd (caps.all isPtr)
        callQ G E g (c.args.toList.map ev ++ caps) base
      | _ => .fail
    | _ => .fail
  | _ => .fail
inductive H : Type 1 where
  | all
  | both (t e : H)
  | l (n : H)
  | r (n : H)
  | two (a b : H)
  | bindr (ρ : Type) (k : ρ → H)
  | re (ρ : Type) (r : ρ) (n : H)
  | skip (n : H)
inductive Tree (L : Type) : Type 1 where
  | leaf (x : L)
  | fail
  | need (c : Prop) (d : Decidable c) (k : c → Tree L)
  | ite (c : Prop) (d : Decidable c) (t : c → Tree L) (e : ¬ c → Tree L)
  | call (ρ : Type) (x : Option ρ) (k : ρ → Tree L)
  | callc (ρ : Type) (x : Option ρ) (ρ' : Type) (k : (e : ρ' = ρ) → (r : ρ') → x = some (e ▸ r) → Tree L)
  | same (ρ : Type) (x : Option ρ) (ρ' : Type) (r : ρ') (k : (e : ρ' = ρ) → x = some (e ▸ r) → Tree L)
  | either (β γ : Type) (x : β ⊕ γ) (l : β → Tree L) (r : γ → Tree L)
def runQ {α L : Type} (look : Nat → O El) : Q El α → H → (α → List Nat → H → Tree L) → Tree L
  | .ret a, h, k => k a [] h
  | .fail, _, _ => .fail
  | .get o f, h, k => runQ look (f (look o)) h fun a l h => k a (o :: l) h
  | .need c d f, h, k => .need c d fun _ => runQ look f h k
  | .call ρ x f, h, k => match h with
    | .bindr ρ' g => .callc ρ x ρ' fun e r _ => runQ look (f (e ▸ r)) (g r) k
    | .re ρ' r n => .same ρ x ρ' r fun e _ => runQ look (f (e ▸ r)) n k
    | .skip n => .call ρ x fun r => runQ look (f r) n k
    | h => .call ρ x fun r => runQ look (f r) h k
  | .either β γ x f g, h, k => match h with
    | .two h1 h2 => .either β γ x (fun a => runQ look (f a) h1 k) (fun b => runQ look (g b) h2 k)
    | h => .either β γ x (fun a => runQ look (f a) h k) (fun b => runQ look (g b) h k)
def forkP {L : Type} (c : Prop) (d : Decidable c) (h : H) (t e : H → Tree L) : Tree L := match h with
  | .all => .ite c d (fun _ => t .all) (fun _ => e .all)
  | .both a b => .ite c d (fun _ => t a) (fun _ => e b)
  | .l a => .need c d fun _ => t a
  | .r b => .need (¬ c) instDecidableNot fun _ => e b
  | .two _ _ => .fail
  | .bindr _ _ => .fail
  | .re _ _ _ => .fail
  | .skip _ => .fail
def fork {L : Type} (v : V El) (h : H) (t e : H → Tree L) : Tree L := match v with
  | .bl true => t h
  | .bl false => e h
  | .bp false c d => forkP c d h t e
  | .bp true c d => forkP c d h e t
  | .bb false x => forkP (x = true) inferInstance h t e
  | .bb true x => forkP (x = true) inferInstance h e t
  | _ => .fail
def wantB (want : Bool) (v : V El) : Option (V El) := match want with
  | true => some v
  | false => notV v
def wantV (ops : Array Oper) (s : S El) (o : Oper) : Option (V El) :=
  match o.guard with
  | none => some (.bl true)
  | some (j, want) => match ((ops[j]?).bind (·.dst)) with
    | some t => match s.get t with
      | .tup [] => some (.bl false)
      | v => wantB want v
    | none => none
def putV (s : S El) (dst : Option Tmp) (v : V El) : S El := match dst with
  | some d => match decide (d < s.n) with
    | true => { s with tm := (d, v) :: s.tm }
    | false => s
  | none => s
def wrOkV (look : Nat → O El) (base : Nat) (wr : List (Nat × O El)) : Bool := wr.all fun p => (look p.1).born || (decide (base ≤ p.1) && decide (p.1 < base + room))
def stepN {L : Type} (G : Sg) (E : Ev G.El) (ops : Array Oper) (nx i : Nat) (o : Oper) (s : S G.El) (h : H) (k : S G.El → Log → H → Tree L) : Tree L :=
  match wantV ops s o with
  | none => .fail
  | some v => fork v h
    (fun h => match o.op with
      | .pick c a b => fork (evalV s c) h (fun h => k (putV s o.dst (evalV s a)) ⟨i, [], []⟩ h) (fun h => k (putV s o.dst (evalV s b)) ⟨i, [], []⟩ h)
      | _ => runQ (lookO s.st) (opQ G E s (nx + room * i) o) h fun e l h => match wrOkV (lookO s.st) (nx + room * i) e.wr with
        | true => k { putV s o.dst e.val with st := putOs s.st e.wr } ⟨i, l, e.wr.map (·.1)⟩ h
        | false => .fail)
    (fun h => k (putV s o.dst undV) ⟨i, [], []⟩ h)
def runOpsN {L : Type} (G : Sg) (E : Ev G.El) (ops : Array Oper) (nx : Nat) : Nat → List Oper → S G.El → H → (S G.El → List Log → H → Tree L) → Tree L
  | _, [], s, h, k => k s [] h
  | i, o :: r, s, h, k => stepN G E ops nx i o s h fun s l h => runOpsN G E ops nx (i + 1) r s h fun s ls h => k s (l :: ls) h
def regionN {L : Type} (G : Sg) (E : Ev G.El) (ps : List (List Nat)) (ops : Array Oper) (draw : Bool) (s : S G.El) (h : H) (k : S G.El → H → Tree L) : Tree L :=
  runOpsN G E ops s.nx 0 ops.toList s h fun s' logs h => match draw && !logsR ps (logs.filter fun l => !l.bare) with
    | true => .fail
    | false => k { s' with nx := s.nx + room * ops.size } h
def validO (look : Nat → O El) (src : Src) : Bool := src.all fun p => (look p.1).alive && (look p.1).ver == p.2
def pickQ (look : Nat → O El) (kt : Nat → Nat) (s : S El) : List (Nat × Nat) → Q El (List (Nat × V El))
  | [] => .ret []
  | (q, m) :: r => do
    grd (decide (q < s.n))
    let v ← (match m == 1 with
      | true => match s.get q with
        | .nil => pure (.sl (kt q) [] [])
        | .win o full off len => match look o with
          | .row true mw kp ver t xs last => do
            let ys ← winQ (full && kp) off len xs last
            pure (.sl t ys (match mw with | true => [(o, ver)] | false => []))
          | _ => pure .dead
        | v => pure v
      | false => pure (s.get q))
    let l ← pickQ look kt s r
    pure ((q, v) :: l)
def reachO (look : Nat → O El) : Nat → List Nat → List Nat → List Nat
  | 0, _, done => done
  | _, [], done => done
  | n + 1, o :: r, done => match done.contains o || !(look o).alive with
    | true => reachO look n r done
    | false => reachO look n (r ++ (cellsO (look o)).flatMap refs1V) (done ++ [o])
def srcO (K : List Nat) (look : Nat → O El) (l : Src) : Option Src :=
  match validO look l with
  | true => some (l.filterMap fun p => (posIn K p.1).map fun j => (j, 0))
  | false => none
def freshS (G : Sg) (kt : Nat → Nat) : List (Nat × Nat) → S G.El → Q G.El (S G.El)
  | [], s => .ret s
  | (q, k) :: r, s => match decide (k < 2) with
    | true => freshS G kt r s
    | false => match s.get q with
      | .nil => do
        widthQ G (kt q) (k - 2)
        freshS G kt r { s with tm := (q, .win s.nx true (.l 0) (.l 0)) :: s.tm, st := putOs s.st [(s.nx, .row true true true 0 (kt q) [] none)], nx := s.nx + 1 }
      | _ => freshS G kt r s
def risingB : List (Nat × Nat) → Bool
  | [] => true
  | [_] => true
  | a :: b :: r => decide (a.1 < b.1) && risingB (b :: r)
def canN (i : N) : N := match i.is0 with
  | true => .l 0
  | false => .d 0 i.v
def canC (nm : Nat) (look : Nat → O El) : V El → Q El (V El)
  | .bl b => .ret (.bb false b)
  | .bp false c d => .ret (.bb false (@decide c d))
  | .bp true c d => .ret (.bb false (!(@decide c d)))
  | .bb false x => .ret (.bb false x)
  | .bb true x => .ret (.bb false !x)
  | .il k n => .ret (.id k nm n)
  | .id k _ n => .ret (.id k nm n)
  | .win o full off len => match look o with
    | .row _ _ kp _ _ xs last => match full && kp && off.is0 with
      | true => do ndEq len xs.length; pure (.win o true (.l 0) (.d 0 (rowsOf xs last).length))
      | false => .ret (.win o false (canN off) (.d 0 len.v))
    | _ => .ret (.win o false (canN off) (.d 0 len.v))
  | .ptr o i j => .ret (.ptr o (canN i) j)
  | v => .ret v
def canA (nm : Nat) (look : Nat → O El) : V El → Q El (V El)
  | .agg cs => do pure (.agg (← mapQ (fun c => canC 0 look (cell1 c)) cs))
  | v => canC nm look v
def canV (look : Nat → O El) : V El → Q El (V El)
  | .tup ts => do pure (.tup (← mapQ (canA 0 look) ts))
  | v => canA 0 look v
def canO (nm : Nat → Nat) (look : Nat → O El) : O El → Q El (O El)
  | .row a m _ v t xs l => .ret (.row a m true v t (rowsOf xs l) none)
  | .box a m v k g cs => do pure (.box a m v k g (← mapQ (fun p => canC (nm p.2) look (cell1 p.1)) cs.zipIdx))
  | .gone => .ret .gone
def normS (G : Sg) (kt : Nat → Nat) (keep : List (Nat × Nat)) (s : S G.El) : Q G.El (S G.El) := do
  grd (risingB keep)
  let s ← freshS G kt keep s
  let look := lookO s.st
  let ts ← pickQ look kt s keep
  let K := List.range s.m ++ (reachO look 64 (List.range s.m ++ ts.flatMap fun p => refsV p.2) []).filter fun o => !decide (o < s.m)
  let sg := srcO K look
  let us ← mapQ (fun p => do let v ← (match p.2 with | .tup ts => pure (.tup ts) | v => canA (p.1 + 1) look v); pure (p.1, v)) ts
  let os ← mapQ (fun p => do let x ← canO (fun j => 50000 + 100 * p.2 + j) look (look p.1); pure (p.2, (mapVO (posIn K) sg x).setVer 0)) K.zipIdx
  pure { n := s.n, df := .dead, tm := us.map fun p => (p.1, mapVV (posIn K) sg p.2), st := os, nx := K.length, m := s.m }
inductive Lf (El : Nat → Type) where
  | ret (v : V El) (obs : List (O El))
  | at (rid : Nat) (s : S El)
structure Cx where
  G : Sg
  E : Ev G.El
  cert : FCert
  kt : Nat → Nat → Nat
abbrev K (X : Cx) := PM.Ex → S X.G.El → H → Tree (Lf X.G.El)
def exec (X : Cx) : Code → S X.G.El → H → K X → Tree (Lf X.G.El)
  | .skip, s, h, k => k .normal s h
  | .region id ops draw, s, h, k => match findK X.cert.keep id with
    | some kp => runQ (lookO s.st) (normS X.G (X.kt id) kp s) h fun s' _ _ => .leaf (.at id s')
    | none => regionN X.G X.E (X.cert.predsOf id) ops draw s h fun s h => k .normal s h
  | .seq a b, s, h, k => exec X a s h fun ex s h => match ex with
    | .normal => exec X b s h k
    | ex => k ex s h
  | .cond c a b, s, h, k => fork (evalV s c) h (fun h => exec X a s h k) (fun h => exec X b s h k)
  | .block id b, s, h, k => exec X b s h fun ex s h => match ex with
    | .exit j => k (if j = id then .normal else .exit j) s h
    | ex => k ex s h
  | .loop b, s, h, k => exec X b s h fun ex s h => match ex with
    | .normal => .fail
    | ex => k ex s h
  | .exit id, s, h, k => k (.exit id) s h
  | .ret, s, h, k => k .ret s h
  | _, _, _, _ => .fail
def resume (X : Cx) (rid : Nat) : Code → S X.G.El → H → K X → Option (Tree (Lf X.G.El))
  | .region id ops draw, s, h, k => if id = rid then some (regionN X.G X.E (X.cert.predsOf id) ops draw s h fun s h => k .normal s h) else none
  | .seq a b, s, h, k => match resume X rid a s h fun ex s h => match ex with
      | .normal => exec X b s h k
      | ex => k ex s h with
    | some t => some t
    | none => resume X rid b s h k
  | .cond _ a b, s, h, k => match resume X rid a s h k with
    | some t => some t
    | none => resume X rid b s h k
  | .block id b, s, h, k => resume X rid b s h fun ex s h => match ex with
    | .exit j => k (if j = id then .normal else .exit j) s h
    | ex => k ex s h
  | .loop b, s, h, k => resume X rid b s h fun ex s h => match ex with
    | .normal => exec X b s h fun ex s h => match ex with
      | .normal => .fail
      | ex => k ex s h
    | ex => k ex s h
  | _, _, _, _ => none
def resQ (G : Sg) (fn : Func) (s : S G.El) : Q G.El (V G.El) := do
  let vs ← mapQ (fun r => match r with
    | .tmp t => do
      grd (okA (s.get t))
      pure (s.get t)
    | .cell a t => loadQ G t (s.get a)) fn.results.toList
  match vs with
  | [v] => pure v
  | vs => pure (.tup vs)
def outCellQ (own : Bool) (m : Nat) (look : Nat → O El) (k : Option Nat) (v : V El) (nx : Nat) : Q El (V El × Nat × List (Nat × O El)) :=
  match k, v with
  | some e, .nil => match own with
    | true => pure (.win nx true (.l 0) (.l 0), nx + 1, [(nx, .row true true true 0 e [] none)])
    | false => pure (.sl e [] [], nx, [])
  | some _, .win o full off len => match own || decide (o < m) with
    | true => pure (.win o full off len, nx, [])
    | false => match look o with
      | .row true mw kp ver t xs last => do
        let ys ← winQ (full && kp) off len xs last
        pure (.sl t ys (match mw with | true => [(o, ver)] | false => []), nx, [])
      | _ => .fail
  | some _, .sl t xs src => do
    grd (validO look src)
    pure (.sl t xs src, nx, [])
  | some e, .s0 src => do
    grd (validO look src)
    pure (.sl e [] src, nx, [])
  | none, .ptr o i j => pure (.ptr o i j, nx, [])
  | none, .fn f c => pure (.fn f c, nx, [])
  | none, .bl b => pure (.bl b, nx, [])
  | none, .bp a b c => pure (.bp a b c, nx, [])
  | none, .bb a b => pure (.bb a b, nx, [])
  | none, .il a b => pure (.il a b, nx, [])
  | none, .id a b c => pure (.id a b c, nx, [])
  | none, .s x => pure (.s x, nx, [])
  | _, _ => .fail
def outCellsQ (own : Bool) (m : Nat) (look : Nat → O El) : List (Option Nat) → List (V El) → Nat → Q El (List (V El) × Nat × List (Nat × O El))
  | [], [], nx => .ret ([], nx, [])
  | k :: ks, t :: ts, nx => do
    let p ← outCellQ own m look k t nx
    let q ← outCellsQ own m look ks ts p.2.1
    pure (p.1 :: q.1, q.2.1, p.2.2 ++ q.2.2)
  | _, _, _ => .fail
def out1Q (own : Bool) (m : Nat) (look : Nat → O El) (ks : List (Option Nat)) (v : V El) (nx : Nat) : Q El (V El × Nat × List (Nat × O El)) := match ks with
  | [k] => outCellQ own m look k v nx
  | _ => .fail
def outOneQ (G : Sg) (own : Bool) (m : Nat) (look : Nat → O G.El) (ty : TypeId) (v : V G.El) (nx : Nat) : Q G.El (V G.El × Nat × List (Nat × O G.El)) := do
  let inf ← opt (G.ti ty)
  let ks ← opt inf.cs
  match v with
  | .agg cs => do
    let p ← outCellsQ own m look ks cs nx
    pure (.agg p.1, p.2)
  | v => out1Q own m look ks v nx
def outManyQ (G : Sg) (own : Bool) (m : Nat) (look : Nat → O G.El) : List TypeId → List (V G.El) → Nat → Q G.El (List (V G.El) × Nat × List (Nat × O G.El))
  | [], [], nx => .ret ([], nx, [])
  | ty :: tys, t :: ts, nx => do
    let p ← outOneQ G own m look ty t nx
    let q ← outManyQ G own m look tys ts p.2.1
    pure (p.1 :: q.1, q.2.1, p.2.2 ++ q.2.2)
  | _, _, _ => .fail
def outMQ (G : Sg) (own : Bool) (m : Nat) (look : Nat → O G.El) (tys : List TypeId) (r : V G.El) (nx : Nat) : Q G.El (V G.El × Nat × List (Nat × O G.El)) := match r with
  | .tup rs => do
    let p ← outManyQ G own m look tys rs nx
    pure (.tup p.1, p.2)
  | _ => .fail
def outAllQ (G : Sg) (own : Bool) (m : Nat) (look : Nat → O G.El) (tys : List TypeId) (r : V G.El) (nx : Nat) : Q G.El (V G.El × Nat × List (Nat × O G.El)) :=
  match tys with
  | [ty] => outOneQ G own m look ty r nx
  | tys => outMQ G own m look tys r nx
def giveQ (G : Sg) (fn : Func) (own : Bool) (m : Nat) (s : S G.El) : Q G.El (V G.El × List (O G.El)) := do
  let r ← resQ G fn s
  let q ← outAllQ G own m (lookO s.st) fn.resultTypes.toList r s.nx
  let look := lookO (putOs s.st q.2.2)
  let K := List.range m ++ (reachO look 64 (List.range m ++ refsV q.1) []).filter fun o => !decide (o < m)
  let sg := srcO K look
  let v ← canV look q.1
  let os ← mapQ (fun o => do let x ← canO (fun _ => 0) look (look o); pure ((mapVO (posIn K) sg x).setVer 0)) K
  pure (mapVV (posIn K) sg v, os)
def endK (X : Cx) (fn : Func) (m : Nat) : K X := fun ex s h => match ex with
  | .exit _ => .fail
  | _ => runQ (lookO s.st) (giveQ X.G fn X.cert.own m s) h fun p _ _ => .leaf (.ret p.1 p.2)
inductive PT (R Lb : Type) : Type 1 where
  | ret (r : R)
  | jump (x : Lb)
  | fail
  | need (c : Prop) [d : Decidable c] (k : c → PT R Lb)
  | need' (c' c : Prop) [d' : Decidable c'] [d : Decidable c] (h : c' ↔ c) (k : c' → PT R Lb)
  | triv (c : Prop) [d : Decidable c] (h : c) (k : PT R Lb)
  | ite (c : Prop) [d : Decidable c] (t : c → PT R Lb) (e : ¬ c → PT R Lb)
  | ite' (c' c : Prop) [d' : Decidable c'] [d : Decidable c] (h : c' ↔ c) (t : c' → PT R Lb) (e : ¬ c' → PT R Lb)
  | call (ρ : Type) (x : Option ρ) (k : ρ → PT R Lb)
  | call' (ρ : Type) (x' x : Option ρ) (h : x' = x) (k : ρ → PT R Lb)
  | callh (ρ : Type) (x : Option ρ) (k : (r : ρ) → x = some r → PT R Lb)
  | recall (ρ : Type) (x : Option ρ) (r : ρ) (h : x = some r) (k : PT R Lb)
  | either (β γ : Type) (x : β ⊕ γ) (l : β → PT R Lb) (r : γ → PT R Lb)
variable {R Lb L : Type}
abbrev PT.tr (n : Nat) (k : PT R Lb) : PT R Lb := .triv (n = n) rfl k
abbrev PT.th {c : Prop} [d : Decidable c] (h : c) (k : PT R Lb) : PT R Lb := .triv c h k
def bindH {α β : Type} (x : Option α) (f : (a : α) → x = some a → Option β) : Option β := match x, f with
  | some a, f => f a rfl
  | none, _ => none
theorem bindH_eq {α β : Type} (x : Option α) (f : α → Option β) : bindH x (fun a _ => f a) = x.bind f := by cases x <;> rfl
theorem same_of {ρ : Type} {x : Option ρ} {r : ρ} (e : ρ = ρ) (h : x = some (e ▸ r)) : x = some r := h
def PT.run (D : Lb → Option R) : PT R Lb → Option R
  | .ret r => some r
  | .jump x => D x
  | .fail => none
  | @PT.need _ _ c d k => @dite _ c d (fun h => (k h).run D) fun _ => none
  | @PT.need' _ _ c' _ d' _ _ k => @dite _ c' d' (fun h => (k h).run D) fun _ => none
  | @PT.triv _ _ _ _ _ k => k.run D
  | @PT.ite _ _ c d t e => @dite _ c d (fun h => (t h).run D) fun h => (e h).run D
  | @PT.ite' _ _ c' _ d' _ _ t e => @dite _ c' d' (fun h => (t h).run D) fun h => (e h).run D
  | .call _ x k => x.bind fun r => (k r).run D
  | .call' _ x' _ _ k => x'.bind fun r => (k r).run D
  | .callh _ x k => bindH x fun r h => (k r h).run D
  | .recall _ _ _ _ k => k.run D
  | .either _ _ x l r => match x with
    | .inl a => (l a).run D
    | .inr b => (r b).run D
def PT.lay (f : R → L) (g : Lb → L) : PT R Lb → Tree L
  | .ret r => .leaf (f r)
  | .jump x => .leaf (g x)
  | .fail => .fail
  | @PT.need _ _ c d k => .need c d fun h => (k h).lay f g
  | @PT.need' _ _ _ c _ d h k => .need c d fun x => (k (h.2 x)).lay f g
  | @PT.triv _ _ c d _ k => .need c d fun _ => k.lay f g
  | @PT.ite _ _ c d t e => .ite c d (fun h => (t h).lay f g) (fun h => (e h).lay f g)
  | @PT.ite' _ _ _ c _ d h t e => .ite c d (fun x => (t (h.2 x)).lay f g) (fun x => (e fun y => x (h.1 y)).lay f g)
  | .call ρ x k => .call ρ x fun r => (k r).lay f g
  | .call' ρ _ x _ k => .call ρ x fun r => (k r).lay f g
  | .callh ρ x k => .callc ρ x ρ fun e r h => (k r (same_of e h)).lay f g
  | .recall ρ x r _ k => .same ρ x ρ r fun _ _ => k.lay f g
  | .either β γ x l r => .either β γ x (fun a => (l a).lay f g) (fun b => (r b).lay f g)
def PT.iter {R Lb : Type} (blk : Nat → Lb → PT R Lb) : Nat → Lb → Option R
  | 0 => fun _ => none
  | k + 1 => fun x => (blk k x).run (PT.iter blk k)
theorem len_bytesL (s : ByteArray) : (bytesL s).length = s.size := by unfold bytesL; rw [List.length_map, Array.length_toList]; rfl
theorem size_strOf (l : List Int) : (strOf l).size = l.length := by simp [strOf, ByteArray.size]
theorem tv {c : Prop} (h : c := by first | omega | (simp only [List.length_set, List.length_append, List.length_cons, List.length_nil, List.length_take, List.length_drop, List.length_replicate, List.length_map, len_bytesL, size_strOf, ByteArray.size_append, ByteArray.size_extract, bsize_mk, List.size_toArray] at * <;> omega) | (simp <;> omega)) : c := h
def cI {β : Type} (k : IntKind) (v : V El) (f : Int → Option β) : Option β := match v with
  | .il k' n => match decide (k' = k) with | true => f n | false => none
  | .id k' _ n => match decide (k' = k) with | true => f n | false => none
  | _ => none
def cS {β : Type} (v : V El) (f : ByteArray → Option β) : Option β := match v with
  | .s x => f x
  | _ => none
def argI {β : Type} (k : IntKind) (v : V El) (f : Int → Q El β) : Q El β := match v with
  | .il k' n => match decide (k' = k) with | true => f n | false => .fail
  | .id k' _ n => match decide (k' = k) with | true => f n | false => .fail
  | _ => .fail
def argB {β : Type} (v : V El) (f : Bool → Q El β) : Q El β := match v with
  | .bl b => f b
  | .bp false c d => f (@decide c d)
  | .bp true c d => f (!(@decide c d))
  | .bb false x => f x
  | .bb true x => f (!x)
  | _ => .fail
def argS {β : Type} (v : V El) (f : ByteArray → Q El β) : Q El β := match v with
  | .s x => f x
  | _ => .fail
def argL {β : Type} (e : Nat) (v : V El) (f : List (El e) → Q El β) : Q El β := match v with
  | .sl t xs [] => if h : t = e then f (h ▸ xs) else .fail
  | .s0 [] => f []
  | _ => .fail
def argA {β : Type} (v : V El) (f : List (V El) → Q El β) : Q El β := match v with
  | .agg cs => f cs
  | _ => .fail
def argR {β : Type} (e : Nat) (x : O El) (f : List (El e) → Q El β) : Q El β := match x with
  | .row true true _ 0 t xs last => if h : t = e then f (h ▸ rowsOf xs last) else .fail
  | _ => .fail
def argW {β : Type} (o n : Nat) (v : V El) (f : Q El β) : Q El β := match v with
  | .win o' _ off len => match o' == o && off.is0 with
    | true => do nd (len.v = n); f
    | false => .fail
  | _ => .fail
def argP {β : Type} (o : Nat) (v : V El) (f : Nat → Nat → Q El β) : Q El β := match v with
  | .win o' _ off len => match o' == o with
    | true => f off.v len.v
    | false => .fail
  | _ => .fail
def argQ {β : Type} (o : Nat) (v : V El) (f : Nat → Q El β) : Q El β := match v with
  | .win o' _ off len => match o' == o && off.is0 with
    | true => f len.v
    | false => .fail
  | _ => .fail
def argH {β : Type} (cs : List (V El)) (f : V El → List (V El) → Q El β) : Q El β := match cs with
  | y :: r => f (cell1 y) r
  | [] => .fail
def argT {β : Type} (cs : List (V El)) (f : Q El β) : Q El β := match cs with
  | [] => f
  | _ => .fail
def lH {γ β : Type} (l : List γ) (f : γ → List γ → Q El β) : Q El β := match l with
  | y :: r => f y r
  | [] => .fail
def lT {γ β : Type} (l : List γ) (f : Q El β) : Q El β := match l with
  | [] => f
  | _ => .fail
def argPH {β : Type} (cs : List (V El)) (f : V El → List (V El) → Q El β) : Q El β := match cs with
  | y :: r => match isPtr y with
    | true => f y r
    | false => .fail
  | [] => .fail
def argDead {β : Type} (v : V El) (f : Q El β) : Q El β := match v with
  | .dead => f
  | _ => .fail
def argNil {β : Type} (v : V El) (f : Q El β) : Q El β := match v with
  | .nil => f
  | _ => .fail
def argV {β : Type} (o j : Nat) (v : V El) (f : Q El β) : Q El β := match v with
  | .ptr o' i j' => match o' == o && i.is0 && j' == j with
    | true => f
    | false => .fail
  | _ => .fail
def argE {β : Type} (o j : Nat) (v : V El) (f : Nat → Q El β) : Q El β := match v with
  | .ptr o' i j' => match o' == o && j' == j with
    | true => f i.v
    | false => .fail
  | _ => .fail
def argF {β : Type} (g : FuncId) (v : V El) (f : List (V El) → Q El β) : Q El β := match v with
  | .fn g' caps => match g' == g with
    | true => f caps
    | false => .fail
  | _ => .fail
def argX {β : Type} (k : Nat) (agg : Bool) (x : O El) (f : List (V El) → Q El β) : Q El β := match x with
  | .box true true 0 k' g cs => match k' == k && (g == agg) && oneOr g cs with
    | true => f cs
    | false => .fail
  | _ => .fail
def findU {α : Type 1} : List (Nat × α) → Nat → Option α
  | [], _ => none
  | (k, x) :: r, i => if k = i then some x else findU r i
def envOf (C : Cert) (l : List (Nat × (List (V El) → List (O El) → Q El (V El × List (O El))))) : Ev El := ⟨fun f => match findU l f with
  | some s => s
  | none => fun _ _ => .fail, fun f => (C f).lent⟩
end Go.Proofs.YtbfgmnjhikaagaaGreatDoor.PN
namespace Go.Proofs.YtbfgmnjhikaagaaGreatDoor.PN
open Go Go.Proofs.YtbfgmnjhikaagaaGreatDoor.PM
variable {G : Sg} {P : Program} {El : Nat → Type} {α β γ : Type}
def denP : V El → T
  | .ptr o i j => .ptr o i.v j
  | _ => .dead
def den1 (G : Sg) : V G.El → T
  | .bl b => .sc (.bool b)
  | .bp false c d => .sc (.bool (@decide c d))
  | .bp true c d => .sc (.bool (!(@decide c d)))
  | .bb false x => .sc (.bool x)
  | .bb true x => .sc (.bool !x)
  | .il k n => .sc (.int k n)
  | .id k _ n => .sc (.int k n)
  | .s x => .sc (.string x)
  | .nil => .nil
  | .s0 src => .sl [] src
  | .sl t xs src => .sl (xs.map (G.enc t)) src
  | .win o _ off len => .win o off.v len.v
  | .ptr o i j => .ptr o i.v j
  | .fn f caps => .fn f (caps.map denP)
  | .ifl b => .ifc b
  | .ifd b => .ifc b
  | .agg _ | .tup _ | .rp .. | .dead => .dead
def denA (G : Sg) : V G.El → T
  | .agg cs => .agg (cs.map (den1 G))
  | v => den1 G v
def denV (G : Sg) : V G.El → T
  | .tup ts => .tup (ts.map (denA G))
  | .rp t x j src => .rp (G.enc t x) j src
  | v => denA G v
def wrapT (g : Bool) (cs : List T) : T := match g, cs with
  | true, cs => .agg cs
  | false, [c] => c
  | false, _ => .dead
def denO (G : Sg) : O G.El → Ob
  | .row a m _ v t xs last => ⟨true, a, m, true, v, G.w t, (rowsOf xs last).map (G.enc t)⟩
  | .box a m v k g cs => ⟨true, a, m, false, v, k, [wrapT g (cs.map (den1 G))]⟩
  | .gone => Ob.gone
def KdOk (P : Program) (G : Sg) (t : TypeId) : Kd → Prop
  | .slice e _ => P.underlying t = some (.slice e)
  | .array n e => P.underlying t = some (.array n e)
  | .struct fs => (fs.zipIdx.all fun q => fieldT P t q.2 == some q.1) = true ∧ ∀ l, fieldsK G fs = some l → fieldsT P t = some l
  | .string => P.underlying t = some .string
  | .bool => P.underlying t = some .bool
  | .int k => P.underlying t = some (.int k)
  | .iface => ∃ ms, P.underlying t = some (.interface ms)
  | .other => True
structure TiOk (P : Program) (G : Sg) (t : TypeId) (i : TI G.El) : Prop where
  sz : szT P t = some i.k
  ag : aggT P t = some i.agg
  by_ : bytesT P t = some i.bytes
  ze : ∀ z, i.zero = some z → zeroT P t = some (denA G z)
  kd : KdOk P G t i.kd
  cs : ∀ l, i.cs = some l → cellKs P 8 t = some (l.map (Option.map G.w))
  eq : ∀ l, i.eq = some l → eqT P t = some l
structure SgOk (P : Program) (G : Sg) : Prop where
  enc : ∀ t x, G.enc t x = wrapT (G.aggE t) ((G.cells t x).map (den1 G))
  len : ∀ t x, (G.cells t x).length = G.w t
  agg1 : ∀ t, G.aggE t = false → G.w t = 1
  mkC : ∀ t cs x, G.mkE t cs = some x → cs.map (den1 G) = (G.cells t x).map (den1 G)
  ofStr : ∀ t s xs, G.ofStr t s = some xs → xs.map (G.enc t) = s.data.toList.map fun b => T.sc (.int .u8 (b.toNat : Int))
  toStr : ∀ t xs s, G.toStr t xs = some s → bytesOf (xs.map (G.enc t)) = some s.data.toList
  flat : ∀ t, G.flat t = true → ∀ x, (G.enc t x).cells.all (fun c => match c with | .sc _ => true | _ => false) = true
  ti : ∀ t i, G.ti t = some i → TiOk P G t i
theorem den1_agg : ∀ (v : V G.El) cs, den1 G v ≠ .agg cs := by
  intro v cs h
  cases v with
  | bp n c d => cases n <;> cases h
  | bb n x => cases n <;> cases h
  | _ => cases h
theorem den1_tup : ∀ (v : V G.El) ts, den1 G v ≠ .tup ts := by
  intro v cs h
  cases v with
  | bp n c d => cases n <;> cases h
  | bb n x => cases n <;> cases h
  | _ => cases h
theorem cells_den1 (v : V G.El) : (den1 G v).cells = [den1 G v] := by
  cases h : den1 G v with
  | agg cs => exact absurd h (den1_agg v cs)
  | _ => rfl
theorem den1_cell1 (v : V G.El) : den1 G (cell1 v) = den1 G v := by cases v <;> rfl
theorem denA_cells (v : V G.El) : (denA G v).cells = (cellsV v).map (den1 G) := by
  by_cases h : ∃ cs, v = .agg cs
  · obtain ⟨cs, rfl⟩ := h; rfl
  · have h1 : denA G v = den1 G v := by cases v <;> first | rfl | exact absurd ⟨_, rfl⟩ h
    have h2 : cellsV v = [v] := by cases v <;> first | rfl | exact absurd ⟨_, rfl⟩ h
    rw [h1, h2, cells_den1]; rfl
theorem denA_cell1 (v : V G.El) : denA G (cell1 v) = den1 G v := by cases v <;> rfl
theorem denV_okA {v : V G.El} (h : okA v = true) : denV G v = denA G v := by cases v <;> first | rfl | cases h
theorem okA_isCell {v : V G.El} (h : isCell v = true) : okA v = true := by cases v <;> first | rfl | cases h
theorem denV_isCell {v : V G.El} (h : isCell v = true) : denV G v = den1 G v := by cases v <;> first | rfl | cases h
theorem denA_not_agg {v : V G.El} (h : ∀ cs, v ≠ .agg cs) : denA G v = den1 G v := by cases v <;> first | rfl | exact absurd rfl (h _)
theorem cellT_den1 {v : V G.El} (h : isCell v = true) : cellT (den1 G v) = true := by
  cases v with
  | bp n c d => cases n <;> rfl
  | bb n x => cases n <;> rfl
  | _ => first | rfl | cases h
theorem wrapT_cells {g : Bool} {cs : List T} (h : g = true ∨ cs.length = 1) (hc : ∀ c ∈ cs, ∀ l, c ≠ .agg l) : (wrapT g cs).cells = cs := by
  cases g with
  | true => rfl
  | false =>
    rcases h with h | h
    · cases h
    · match cs, h with
      | [c], _ =>
        simp only [wrapT]
        have := hc c (by simp)
        cases c with
        | agg l => exact absurd rfl (this l)
        | _ => rfl
theorem enc_cells (ok : SgOk P G) (t : Nat) (x : G.El t) : (G.enc t x).cells = (G.cells t x).map (den1 G) := by
  rw [ok.enc]
  refine wrapT_cells ?_ (fun c hc l e => ?_)
  · cases h : G.aggE t with
    | true => exact .inl rfl
    | false => right; rw [List.length_map, ok.len, ok.agg1 t h]
  · obtain ⟨v, _, rfl⟩ := List.mem_map.1 hc
    exact den1_agg v l e
theorem enc_width (ok : SgOk P G) (t : Nat) (x : G.El t) : (G.enc t x).width = G.w t := by
  show (G.enc t x).cells.length = _
  rw [enc_cells ok, List.length_map, ok.len]
theorem wid_enc (ok : SgOk P G) (t : Nat) (xs : List (G.El t)) : wid (G.w t) (xs.map (G.enc t)) = true := by
  simp only [wid, List.all_eq_true]
  intro y hy
  obtain ⟨x, _, rfl⟩ := List.mem_map.1 hy
  rw [enc_width ok]; simp
theorem flatL_enc (ok : SgOk P G) {t : Nat} (h : G.flat t = true) (xs : List (G.El t)) : flatL (xs.map (G.enc t)) = true := by
  simp only [flatL, List.all_eq_true]
  intro y hy
  obtain ⟨x, _, rfl⟩ := List.mem_map.1 hy
  exact List.all_eq_true.1 (ok.flat t h x)
theorem enc_withCells (ok : SgOk P G) {t : Nat} {x y : G.El t} {cs : List (V G.El)} (h : cs.map (den1 G) = (G.cells t y).map (den1 G)) : (G.enc t x).withCells (cs.map (den1 G)) = G.enc t y := by
  rw [h, ok.enc, ok.enc]
  cases hg : G.aggE t with
  | true => rfl
  | false =>
    have h1 : (G.cells t x).length = 1 := by rw [ok.len, ok.agg1 t hg]
    have h2 : (G.cells t y).length = 1 := by rw [ok.len, ok.agg1 t hg]
    match hx : G.cells t x, hy : G.cells t y with
    | [a], [b] =>
      simp only [List.map_cons, List.map_nil, wrapT]
      cases hd : den1 G a with
      | agg l => exact absurd hd (den1_agg a l)
      | _ => rfl
    | [], _ => rw [hx] at h1; cases h1
    | _ :: _ :: _, _ => rw [hx] at h1; simp at h1
    | [_], [] => rw [hy] at h2; cases h2
    | [_], _ :: _ :: _ => rw [hy] at h2; simp at h2
def Q.says (lk : Nat → O El) : Q El α → (α → List Nat → Prop) → Prop
  | .ret a, R => R a []
  | .fail, _ => False
  | .get o k, R => (k (lk o)).says lk fun a l => R a (o :: l)
  | .need c _ k, R => c ∧ k.says lk R
  | .call _ x k, R => ∃ r, x = some r ∧ (k r).says lk R
  | .either _ _ x l r, R => match x with
    | .inl a => (l a).says lk R
    | .inr b => (r b).says lk R
def Q.runs (lk : Nat → O El) (q : Q El α) (a : α) (l : List Nat) : Prop := q.says lk fun a' l' => a' = a ∧ l' = l
variable {lk : Nat → O El}
theorem says_mono {q : Q El α} : ∀ {R R' : α → List Nat → Prop}, (∀ a l, R a l → R' a l) → q.says lk R → q.says lk R' := by
  induction q with
  | ret a => intro R R' hh h; exact hh _ _ h
  | fail => intro R R' hh h; exact h
  | get o k ih => intro R R' hh h; exact ih _ (fun a l => hh a _) h
  | need c d k ih => intro R R' hh h; exact ⟨h.1, ih hh h.2⟩
  | call ρ x k ih => intro R R' hh h; obtain ⟨r, h1, h2⟩ := h; exact ⟨r, h1, ih r hh h2⟩
  | either β γ x f g ih1 ih2 =>
    intro R R' hh h
    cases x with
    | inl a => exact ih1 a hh h
    | inr b => exact ih2 b hh h
theorem says_bind {q : Q El α} {f : α → Q El β} : ∀ {R : β → List Nat → Prop}, (q.bind f).says lk R ↔ q.says lk fun a l => (f a).says lk fun b l' => R b (l ++ l') := by
  induction q with
  | ret a => intro R; exact Iff.rfl
  | fail => intro R; exact Iff.rfl
  | get o k ih => intro R; exact ih _
  | need c d k ih => intro R; exact and_congr_right fun _ => ih
  | call ρ x k ih => intro R; exact exists_congr fun r => and_congr_right fun _ => ih r
  | either β γ x g h ih1 ih2 =>
    intro R
    cases x with
    | inl a => exact ih1 a
    | inr b => exact ih2 b
theorem says_iff {q : Q El α} : ∀ {R : α → List Nat → Prop}, q.says lk R ↔ ∃ a l, q.runs lk a l ∧ R a l := by
  induction q with
  | ret a => intro R; exact ⟨fun h => ⟨a, [], ⟨rfl, rfl⟩, h⟩, fun ⟨_, _, ⟨h1, h2⟩, h⟩ => by subst h1; subst h2; exact h⟩
  | fail => intro R; exact ⟨fun h => h.elim, fun ⟨_, _, h, _⟩ => h.elim⟩
  | get o k ih =>
    intro R
    simp only [Q.says, Q.runs]
    rw [ih (lk o)]
    constructor
    · rintro ⟨a, l, h1, h2⟩
      exact ⟨a, o :: l, says_mono (fun a' l' h => ⟨h.1, by rw [h.2]⟩) h1, h2⟩
    · rintro ⟨a, l, h1, h2⟩
      obtain ⟨a', l', h3, rfl, rfl⟩ := (ih (lk o)).1 h1
      exact ⟨a', l', h3, h2⟩
  | need c d k ih =>
    intro R
    simp only [Q.says, Q.runs]
    rw [ih]
    exact ⟨fun ⟨h, a, l, h1, h2⟩ => ⟨a, l, ⟨h, h1⟩, h2⟩, fun ⟨a, l, ⟨h, h1⟩, h2⟩ => ⟨h, a, l, h1, h2⟩⟩
  | call ρ x k ih =>
    intro R
    simp only [Q.says, Q.runs]
    constructor
    · rintro ⟨r, hx, h⟩
      obtain ⟨a, l, h1, h2⟩ := (ih r).1 h
      exact ⟨a, l, ⟨r, hx, h1⟩, h2⟩
    · rintro ⟨a, l, ⟨r, hx, h1⟩, h2⟩
      exact ⟨r, hx, (ih r).2 ⟨a, l, h1, h2⟩⟩
  | either β γ x g h ih1 ih2 =>
    intro R
    cases x with
    | inl a => exact ih1 a
    | inr b => exact ih2 b
theorem runs_bind {q : Q El α} {f : α → Q El β} {b : β} {l : List Nat} : (q >>= f).runs lk b l ↔ ∃ a l₁ l₂, q.runs lk a l₁ ∧ (f a).runs lk b l₂ ∧ l = l₁ ++ l₂ := by
  show (q.bind f).says lk _ ↔ _
  rw [says_bind, says_iff]
  constructor
  · rintro ⟨a, l₁, h1, h2⟩
    obtain ⟨b', l₂, h3, rfl, rfl⟩ := says_iff.1 h2
    exact ⟨a, l₁, l₂, h1, h3, rfl⟩
  · rintro ⟨a, l₁, l₂, h1, h3, rfl⟩
    exact ⟨a, l₁, h1, says_mono (fun b' l' h => ⟨h.1, by rw [h.2]⟩) h3⟩
theorem runs_ret {a b : α} {l : List Nat} : (Q.ret a : Q El α).runs lk b l ↔ b = a ∧ l = [] := ⟨fun h => ⟨h.1.symm, h.2.symm⟩, fun h => ⟨h.1.symm, h.2.symm⟩⟩
theorem runs_pure {a b : α} {l : List Nat} : (pure a : Q El α).runs lk b l ↔ b = a ∧ l = [] := runs_ret
theorem runs_fail {b : α} {l : List Nat} : (Q.fail : Q El α).runs lk b l ↔ False := Iff.rfl
theorem runs_get {o : Nat} {x : O El} {l : List Nat} : (getQ o).runs lk x l ↔ x = lk o ∧ l = [o] := ⟨fun h => ⟨h.1.symm, h.2.symm⟩, fun h => ⟨h.1.symm, h.2.symm⟩⟩
theorem runs_grd {b : Bool} {u : Unit} {l : List Nat} : (grd b : Q El Unit).runs lk u l ↔ b = true ∧ l = [] := by
  cases b with
  | true => exact runs_ret.trans ⟨fun h => ⟨rfl, h.2⟩, fun h => ⟨rfl, h.2⟩⟩
  | false => exact ⟨fun h => h.elim, fun h => by cases h.1⟩
theorem runs_nd {c : Prop} [Decidable c] {u : Unit} {l : List Nat} : (nd c : Q El Unit).runs lk u l ↔ c ∧ l = [] := ⟨fun h => ⟨h.1, h.2.2.symm⟩, fun h => ⟨h.1, rfl, h.2.symm⟩⟩
theorem runs_opt {x : Option α} {b : α} {l : List Nat} : (opt x : Q El α).runs lk b l ↔ x = some b ∧ l = [] := by
  cases x with
  | none => exact ⟨fun h => h.elim, fun h => by cases h.1⟩
  | some a => exact runs_ret.trans ⟨fun h => ⟨by rw [h.1], h.2⟩, fun h => ⟨(Option.some.inj h.1).symm, h.2⟩⟩
theorem runs_ndLe {a b : N} {u : Unit} {l : List Nat} : (ndLe a b : Q El Unit).runs lk u l ↔ a.v ≤ b.v ∧ l = [] := by
  unfold ndLe
  split
  · rw [runs_grd, decide_eq_true_eq]; rfl
  · exact runs_nd
theorem runs_ndEq {a : N} {n : Nat} {u : Unit} {l : List Nat} : (ndEq a n : Q El Unit).runs lk u l ↔ a.v = n ∧ l = [] := runs_nd
theorem add_v (a b : N) : (a.add b).v = a.v + b.v := by
  cases a <;> cases b <;> simp only [N.add]
  · rfl
  · split
    · rename_i h; subst h; simp [N.v]
    · rfl
  · split
    · rename_i h; subst h; simp [N.v]
    · rfl
  · rfl
theorem sub_v (a b : N) : (a.sub b).v = a.v - b.v := by
  cases a <;> cases b <;> simp only [N.sub]
  · rfl
  · rfl
  · split
    · rename_i h; subst h; simp [N.v]
    · rfl
  · rfl
theorem is0_v {a : N} (h : a.is0 = true) : a.v = 0 := by
  cases a with
  | l n => simpa [N.is0, N.v] using h
  | d _ _ => cases h
theorem rowsOf_length {t : Nat} (xs : List (El t)) (last : Option (N × El t)) : (rowsOf xs last).length = xs.length := by
  cases last with
  | none => rfl
  | some p => exact List.length_set ..
end Go.Proofs.YtbfgmnjhikaagaaGreatDoor.PN
namespace Go.Proofs.YtbfgmnjhikaagaaGreatDoor.PN
open Go Go.Proofs.YtbfgmnjhikaagaaGreatDoor.PM
variable {G : Sg} {P : Program} {α β : Type} {lk : Nat → O G.El}
abbrev lkT (G : Sg) (lk : Nat → O G.El) : Nat → Ob := fun o => denO G (lk o)
theorem alive_den (x : O G.El) : (denO G x).alive = x.alive := by cases x <;> rfl
theorem ver_den (x : O G.El) : (denO G x).ver = x.ver := by cases x <;> rfl
theorem may_den (x : O G.El) : (denO G x).may = x.may := by cases x <;> rfl
theorem born_den (x : O G.El) : (denO G x).born = x.born := by cases x <;> rfl
theorem chkQ_ok : ∀ {src : Src} {u : Unit} {l : List Nat}, (chkQ src : Q G.El Unit).runs lk u l → (chk src).run (lkT G lk) = some ((), l)
  | [], u, l, h => by
    obtain ⟨_, rfl⟩ := runs_ret.1 h
    rfl
  | (o, v) :: r, u, l, h => by
    simp only [chkQ, runs_bind] at h
    obtain ⟨x, l1, l2, h1, ⟨u1, l3, l4, h2, h3, rfl⟩, rfl⟩ := h
    obtain ⟨rfl, rfl⟩ := runs_get.1 h1
    obtain ⟨g2, rfl⟩ := runs_grd.1 h2
    have := chkQ_ok h3
    simp only [chk]
    refine bind_some.2 ⟨denO G (lk o), [o], l4, obj_some.2 ⟨rfl, rfl⟩, bind_some.2 ⟨(), [], l4, guard_some.2 ⟨?_, rfl⟩, this, rfl⟩, rfl⟩
    rw [alive_den, ver_den]; exact g2
theorem winQ_ok {t : Nat} {full : Bool} {off len : N} {xs : List (G.El t)} {last : Option (N × G.El t)} {ys : List (G.El t)} {l : List Nat} (h : (winQ full off len xs last : Q G.El _).runs lk ys l) :
    l = [] ∧ off.v + len.v ≤ xs.length ∧ ys = ((rowsOf xs last).drop off.v).take len.v := by
  unfold winQ at h
  split at h
  · rename_i hf
    simp only [Bool.and_eq_true] at hf
    simp only [runs_bind] at h
    obtain ⟨u, l1, l2, h1, h2, rfl⟩ := h
    obtain ⟨g1, rfl⟩ := runs_ndEq.1 h1
    obtain ⟨rfl, rfl⟩ := runs_pure.1 h2
    have h0 := is0_v hf.2
    refine ⟨rfl, by omega, ?_⟩
    rw [h0, g1, List.drop_zero, ← rowsOf_length xs last, List.take_length]
  · split at h
    · rename_i hf
      simp only [runs_bind] at h
      obtain ⟨u, l1, l2, h1, h2, rfl⟩ := h
      obtain ⟨g1, rfl⟩ := runs_nd.1 h1
      obtain ⟨rfl, rfl⟩ := runs_pure.1 h2
      have h0 := is0_v hf
      exact ⟨rfl, by omega, by rw [h0, List.drop_zero]⟩
    · simp only [runs_bind] at h
      obtain ⟨u, l1, l2, h1, h2, rfl⟩ := h
      obtain ⟨g1, rfl⟩ := runs_nd.1 h1
      obtain ⟨rfl, rfl⟩ := runs_pure.1 h2
      exact ⟨rfl, g1, rfl⟩
theorem winT {t : Nat} {al mw kp : Bool} {ver : Nat} {xs : List (G.El t)} {last : Option (N × G.El t)} {off len : Nat} :
    (((denO G (.row al mw kp ver t xs last)).xs.drop off).take len) = (((rowsOf xs last).drop off).take len).map (G.enc t) := by
  simp [denO, List.map_take, List.map_drop]
theorem lenT {t : Nat} {al mw kp : Bool} {ver : Nat} {xs : List (G.El t)} {last : Option (N × G.El t)} : (denO G (.row al mw kp ver t xs last)).xs.length = xs.length := by
  simp [denO, rowsOf_length]
def seen : V G.El → Bool
  | .bl _ | .bp .. | .bb .. | .il .. | .id .. | .s _ | .s0 _ | .sl .. => true
  | _ => false
theorem viewQ_ok {v w : V G.El} {l : List Nat} (h : (viewQ v).runs lk w l) : (view1 (den1 G v)).run (lkT G lk) = some (den1 G w, l) ∧ seen w = true := by
  cases v with
  | bl b => obtain ⟨rfl, rfl⟩ := runs_ret.1 h; exact ⟨rfl, rfl⟩
  | bp n c d => obtain ⟨rfl, rfl⟩ := runs_ret.1 h; cases n <;> exact ⟨rfl, rfl⟩
  | bb n x => obtain ⟨rfl, rfl⟩ := runs_ret.1 h; cases n <;> exact ⟨rfl, rfl⟩
  | il k n => obtain ⟨rfl, rfl⟩ := runs_ret.1 h; exact ⟨rfl, rfl⟩
  | id k m n => obtain ⟨rfl, rfl⟩ := runs_ret.1 h; exact ⟨rfl, rfl⟩
  | s x => obtain ⟨rfl, rfl⟩ := runs_ret.1 h; exact ⟨rfl, rfl⟩
  | nil => obtain ⟨rfl, rfl⟩ := runs_ret.1 h; exact ⟨rfl, rfl⟩
  | s0 src =>
    simp only [viewQ, runs_bind] at h
    obtain ⟨u, l1, l2, h1, h2, rfl⟩ := h
    obtain ⟨rfl, rfl⟩ := runs_pure.1 h2
    exact ⟨bind_some.2 ⟨(), l1, [], chkQ_ok h1, rfl, rfl⟩, rfl⟩
  | sl t xs src =>
    simp only [viewQ, runs_bind] at h
    obtain ⟨u, l1, l2, h1, h2, rfl⟩ := h
    obtain ⟨rfl, rfl⟩ := runs_pure.1 h2
    exact ⟨bind_some.2 ⟨(), l1, [], chkQ_ok h1, rfl, rfl⟩, rfl⟩
  | win o full off len =>
    simp only [viewQ, runs_bind] at h
    obtain ⟨x, l1, l2, h1, h2, rfl⟩ := h
    obtain ⟨hx, rfl⟩ := runs_get.1 h1
    cases x with
    | row al mw kp ver t xs last =>
      simp only [runs_bind] at h2
      obtain ⟨u, l3, l4, h3, ⟨ys, l5, l6, h4, h5, rfl⟩, rfl⟩ := h2
      obtain ⟨g3, rfl⟩ := runs_grd.1 h3
      obtain ⟨rfl, h6, rfl⟩ := winQ_ok h4
      obtain ⟨rfl, rfl⟩ := runs_pure.1 h5
      refine ⟨bind_some.2 ⟨_, [o], [], obj_some.2 ⟨rfl, rfl⟩, bind_some.2 ⟨(), [], [], guard_some.2 ⟨?_, rfl⟩, ?_, rfl⟩, rfl⟩, rfl⟩
      · simp only [lkT, ← hx, lenT]
        simp only [denO, g3, Bool.and_true, Bool.true_and, decide_eq_true_eq]; exact h6
      · simp only [lkT, ← hx]
        refine pure_some.2 ⟨?_, rfl⟩
        simp only [den1, denO, List.map_take, List.map_drop]
        cases mw <;> rfl
    | box al mw ver k g cs => exact (runs_fail.1 h2).elim
    | gone => exact (runs_fail.1 h2).elim
  | ptr o i j => exact (runs_fail.1 h).elim
  | fn f c => exact (runs_fail.1 h).elim
  | agg cs => exact (runs_fail.1 h).elim
  | tup ts => exact (runs_fail.1 h).elim
  | rp t x j s => exact (runs_fail.1 h).elim
  | ifl b => exact (runs_fail.1 h).elim
  | ifd b => exact (runs_fail.1 h).elim
  | dead => exact (runs_fail.1 h).elim
theorem closeQ1_ok {v w : V G.El} {l : List Nat} (h : (closeQ1 v).runs lk w l) : (close1 (den1 G v)).run (lkT G lk) = some (den1 G w, l) ∧ seen w = true := by
  simp only [closeQ1, runs_bind] at h
  obtain ⟨u, l1, l2, h1, h2, rfl⟩ := h
  obtain ⟨h3, h4⟩ := viewQ_ok h1
  have key : ∀ d, (match d with | .sc v => pure (.sc v) | .sl xs [] => pure (.sl xs []) | _ => Rd.fail : Rd T).run (lkT G lk) = some (den1 G w, l2) → den1 G u = d → (close1 (den1 G v)).run (lkT G lk) = some (den1 G w, l1 ++ l2) := by
    intro d hd hu
    simp only [close1]
    refine bind_some.2 ⟨den1 G u, l1, l2, h3, ?_, rfl⟩
    rw [hu]; exact hd
  have scal : ∀ z, den1 G u = .sc z → (pure u : Q G.El (V G.El)).runs lk w l2 → (close1 (den1 G v)).run (lkT G lk) = some (den1 G w, l1 ++ l2) ∧ seen w = true := by
    intro z hz h2
    obtain ⟨rfl, rfl⟩ := runs_pure.1 h2
    exact ⟨key (.sc z) (by rw [hz]; rfl) hz, h4⟩
  cases u with
  | s0 src =>
    cases src with
    | nil => obtain ⟨rfl, rfl⟩ := runs_pure.1 h2; exact ⟨key (.sl [] []) rfl rfl, rfl⟩
    | cons a r => exact (runs_fail.1 h2).elim
  | sl t xs src =>
    cases src with
    | nil => obtain ⟨rfl, rfl⟩ := runs_pure.1 h2; exact ⟨key (.sl (xs.map (G.enc t)) []) rfl rfl, rfl⟩
    | cons a r => exact (runs_fail.1 h2).elim
  | bp n c d => cases n <;> exact scal _ rfl h2
  | bb n x => cases n <;> exact scal _ rfl h2
  | _ => first | exact scal _ rfl h2 | cases h4
theorem mapQ_ok {f : α → Q G.El β} {γ δ : Type} {g : γ → Rd δ} {a : α → γ} {b : β → δ} (hf : ∀ x, ∀ y l, (f x).runs lk y l → (g (a x)).run (lkT G lk) = some (b y, l)) :
    ∀ {xs : List α} {ys : List β} {l : List Nat}, (mapQ f xs).runs lk ys l → (mapR g (xs.map a)).run (lkT G lk) = some (ys.map b, l)
  | [], ys, l, h => by obtain ⟨rfl, rfl⟩ := runs_ret.1 h; rfl
  | x :: r, ys, l, h => by
    simp only [mapQ, runs_bind] at h
    obtain ⟨y, l1, l2, h1, ⟨zs, l3, l4, h2, h3, rfl⟩, rfl⟩ := h
    obtain ⟨rfl, rfl⟩ := runs_pure.1 h3
    exact bind_some.2 ⟨b y, l1, l3 ++ [], hf x y l1 h1, bind_some.2 ⟨zs.map b, l3, [], mapQ_ok hf h2, rfl, rfl⟩, rfl⟩
theorem mapQ_all {f : α → Q G.El β} {p : β → Prop} (hf : ∀ x y l, (f x).runs lk y l → p y) : ∀ {xs : List α} {ys : List β} {l : List Nat}, (mapQ f xs).runs lk ys l → ∀ y ∈ ys, p y
  | [], ys, l, h => by obtain ⟨rfl, rfl⟩ := runs_ret.1 h; intro y hy; cases hy
  | x :: r, ys, l, h => by
    simp only [mapQ, runs_bind] at h
    obtain ⟨y, l1, l2, h1, ⟨zs, l3, l4, h2, h3, rfl⟩, rfl⟩ := h
    obtain ⟨rfl, rfl⟩ := runs_pure.1 h3
    intro z hz
    rcases List.mem_cons.1 hz with rfl | hz
    · exact hf x _ l1 h1
    · exact mapQ_all hf h2 z hz
theorem mapQ_len {f : α → Q G.El β} : ∀ {xs : List α} {ys : List β} {l : List Nat}, (mapQ f xs).runs lk ys l → ys.length = xs.length
  | [], ys, l, h => by obtain ⟨rfl, rfl⟩ := runs_ret.1 h; rfl
  | x :: r, ys, l, h => by
    simp only [mapQ, runs_bind] at h
    obtain ⟨y, l1, l2, h1, ⟨zs, l3, l4, h2, h3, rfl⟩, rfl⟩ := h
    obtain ⟨rfl, rfl⟩ := runs_pure.1 h3
    simp [mapQ_len h2]
theorem close_den1 {v : V G.El} : close (den1 G v) = close1 (den1 G v) := by
  cases h : den1 G v with
  | agg cs => exact absurd h (den1_agg v cs)
  | _ => rfl
theorem closeQ_ok {v w : V G.El} {l : List Nat} (h : (closeQ v).runs lk w l) : (close (denA G v)).run (lkT G lk) = some (denA G w, l) ∧ okA w = true ∧ (cellsV w).all seen = true := by
  by_cases hv : ∃ cs, v = .agg cs
  · obtain ⟨cs, rfl⟩ := hv
    simp only [closeQ, runs_bind] at h
    obtain ⟨ys, l1, l2, h1, h2, rfl⟩ := h
    obtain ⟨rfl, rfl⟩ := runs_pure.1 h2
    refine ⟨bind_some.2 ⟨ys.map (den1 G), l1, [], mapQ_ok (a := den1 G) (b := den1 G) (fun x y l h => (closeQ1_ok h).1) h1, rfl, rfl⟩, rfl, ?_⟩
    exact List.all_eq_true.2 (mapQ_all (p := fun y => seen y = true) (fun x y l h => (closeQ1_ok h).2) h1)
  · have h1 : denA G v = den1 G v := denA_not_agg fun cs e => hv ⟨cs, e⟩
    have h2 : closeQ v = closeQ1 v := by cases v <;> first | rfl | exact absurd ⟨_, rfl⟩ hv
    rw [h2] at h
    obtain ⟨h3, h4⟩ := closeQ1_ok h
    have h5 : denA G w = den1 G w := denA_not_agg fun cs e => by rw [e] at h4; cases h4
    refine ⟨by rw [h1, h5, close_den1]; exact h3, ?_, ?_⟩
    · cases w <;> first | rfl | cases h4
    · have : cellsV w = [w] := by cases w <;> first | rfl | cases h4
      rw [this]; simp [h4]
end Go.Proofs.YtbfgmnjhikaagaaGreatDoor.PN
namespace Go.Proofs.YtbfgmnjhikaagaaGreatDoor.PN
open Go Go.Proofs.YtbfgmnjhikaagaaGreatDoor.PM
variable {G : Sg} {P : Program} {α β : Type} {lk : Nat → O G.El}
theorem takeQ_ok {t : TypeId} {inf : TI G.El} (hi : TiOk P G t inf) {cs : List (V G.El)} {j : Nat} {w : V G.El} {l : List Nat} {look : Nat → Ob} (h : (takeQ inf cs j).runs lk w l) :
    (takeCells P t (cs.map (den1 G)) j).run look = some (denA G w, l) ∧ okA w = true ∧ l = [] ∧ ((∃ cs, w = .agg cs) ∨ ∃ c, w = cell1 c) := by
  simp only [takeQ, runs_bind, runs_grd, decide_eq_true_eq] at h
  obtain ⟨_, _, _, ⟨h1, rfl⟩, h2, rfl⟩ := h
  simp only [takeCells]
  have mk : ∀ (r : T), (if inf.agg = true then pure (T.agg (((cs.map (den1 G)).drop j).take inf.k)) else Rd.ofOption (cs.map (den1 G))[j]? : Rd T).run look = some (r, []) →
      (do let n ← Rd.ofOption (szT P t); let a ← Rd.ofOption (aggT P t); guardR (decide (j + n ≤ (cs.map (den1 G)).length)); if a = true then pure (T.agg (((cs.map (den1 G)).drop j).take n)) else Rd.ofOption (cs.map (den1 G))[j]? : Rd T).run look = some (r, []) := by
    intro r hr
    refine bind_some.2 ⟨inf.k, [], [], opt_some.2 ⟨hi.sz, rfl⟩, bind_some.2 ⟨inf.agg, [], [], opt_some.2 ⟨hi.ag, rfl⟩, bind_some.2 ⟨(), [], [], guard_some.2 ⟨by simp only [List.length_map, decide_eq_true_eq]; exact h1, rfl⟩, hr, rfl⟩, rfl⟩, rfl⟩
  cases hg : inf.agg with
  | true =>
    rw [hg] at h2
    obtain ⟨rfl, rfl⟩ := runs_pure.1 h2
    refine ⟨mk _ (by rw [hg]; simp [denA, List.map_take, List.map_drop]; rfl), rfl, rfl, .inl ⟨_, rfl⟩⟩
  | false =>
    rw [hg] at h2
    obtain ⟨h3, rfl⟩ := runs_opt.1 h2
    obtain ⟨c, hc, rfl⟩ := Option.map_eq_some_iff.1 h3
    refine ⟨mk _ ?_, by cases c <;> rfl, rfl, .inr ⟨c, rfl⟩⟩
    rw [hg, denA_cell1]
    simp only [Bool.false_eq_true, if_false]
    exact opt_some.2 ⟨by rw [List.getElem?_map, hc]; rfl, rfl⟩
theorem getRow_ok {t : Nat} {d : G.El t} {xs : List (G.El t)} {last : Option (N × G.El t)} {i : N} {x : G.El t} {l : List Nat} (h : (getRow d xs last i : Q G.El _).runs lk x l) : l = [] ∧ (rowsOf xs last)[i.v]? = some x ∧ i.v < xs.length := by
  simp only [getRow, runs_bind, runs_nd] at h
  obtain ⟨_, _, _, ⟨h1, rfl⟩, h2, rfl⟩ := h
  cases last with
  | none =>
    obtain ⟨rfl, rfl⟩ := runs_pure.1 h2
    refine ⟨rfl, ?_, h1⟩
    simp only [rowsOf, List.getD_eq_getElem?_getD, List.getElem?_eq_getElem h1]; rfl
  | some p =>
    obtain ⟨i', y⟩ := p
    simp only at h2
    split at h2
    · simp only [runs_bind, runs_nd, runs_pure] at h2
      obtain ⟨_, _, _, ⟨h3, rfl⟩, ⟨rfl, rfl⟩, rfl⟩ := h2
      refine ⟨rfl, ?_, h1⟩
      simp only [rowsOf]
      rw [← h3, List.getElem?_set_self h1]
    · obtain ⟨rfl, rfl⟩ := runs_pure.1 h2
      refine ⟨rfl, ?_, h1⟩
      have : i.v < (xs.set i'.v y).length := by rw [List.length_set]; exact h1
      simp only [rowsOf, List.getD_eq_getElem?_getD, List.getElem?_eq_getElem this]; rfl
theorem setRow_ok {t : Nat} {d : G.El t} {xs : List (G.El t)} {last : Option (N × G.El t)} {i : N} {x : G.El t} {l : List Nat} (h : (getRow d xs last i : Q G.El _).runs lk x l) (y : G.El t) :
    rowsOf (setRow xs last i) (some (i, y)) = (rowsOf xs last).set i.v y := by
  simp only [getRow, runs_bind, runs_nd] at h
  obtain ⟨_, _, _, ⟨h1, rfl⟩, h2, rfl⟩ := h
  cases last with
  | none => rfl
  | some p =>
    obtain ⟨i', z⟩ := p
    simp only [setRow]
    simp only at h2
    split at h2
    · rename_i hs
      simp only [runs_bind, runs_nd, runs_pure] at h2
      obtain ⟨_, _, _, ⟨h3, rfl⟩, ⟨rfl, rfl⟩, rfl⟩ := h2
      simp only [rowsOf]
      rw [← h3, List.set_set]
    · rfl
theorem box_cells {al mw : Bool} {ver k : Nat} {g : Bool} {cs : List (V G.El)} (h : oneOr g cs = true) : (wrapT g (cs.map (den1 G))).cells = cs.map (den1 G) := by
  refine wrapT_cells ?_ (fun c hc l e => ?_)
  · simp only [oneOr, Bool.or_eq_true, beq_iff_eq] at h
    rcases h with h | h
    · exact .inl h
    · right; rw [List.length_map]; exact h
  · obtain ⟨v, _, rfl⟩ := List.mem_map.1 hc
    exact den1_agg v l e
theorem putSrc_den {src : Src} (c : V G.El) : den1 G (putSrc src (cell1 c)) = match den1 G c with | .sl xs _ => .sl xs src | t => t := by
  cases c with
  | bp n c d => cases n <;> rfl
  | bb n x => cases n <;> rfl
  | _ => rfl
theorem loadQ_ok (ok : SgOk P G) {t : TypeId} {a w : V G.El} {l : List Nat} (h : (loadQ G t a).runs lk w l) : (loadR P t (denV G a)).run (lkT G lk) = some (denA G w, l) ∧ okA w = true := by
  simp only [loadQ, runs_bind, runs_opt] at h
  obtain ⟨inf, _, _, ⟨hi, rfl⟩, h2, rfl⟩ := h
  have hi := ok.ti t inf hi
  cases a with
  | ptr o i j =>
    simp only [runs_bind, runs_get] at h2
    obtain ⟨x, _, _, ⟨hx, rfl⟩, h3, rfl⟩ := h2
    cases x with
    | row al mw kp ver t' xs last =>
      simp only [runs_bind, runs_grd] at h3
      obtain ⟨_, _, _, ⟨hal, rfl⟩, ⟨x, _, l5, h4, h5, rfl⟩, rfl⟩ := h3
      obtain ⟨rfl, h6, _⟩ := getRow_ok h4
      obtain ⟨h7, h8, rfl, _⟩ := takeQ_ok (look := lkT G lk) hi h5
      refine ⟨?_, h8⟩
      show (loadR P t (.ptr o i.v j)).run _ = _
      simp only [loadR]
      refine bind_some.2 ⟨denO G (lk o), [o], [], obj_some.2 ⟨rfl, rfl⟩, bind_some.2 ⟨(), [], [], guard_some.2 ⟨by rw [← hx]; exact hal, rfl⟩, bind_some.2 ⟨G.enc t' x, [], [], opt_some.2 ⟨?_, rfl⟩, by rw [enc_cells ok]; exact h7, rfl⟩, rfl⟩, rfl⟩
      rw [← hx]
      simp only [denO, List.getElem?_map, h6]; rfl
    | box al mw ver k g cs =>
      simp only [runs_bind, runs_grd, Bool.and_eq_true] at h3
      obtain ⟨_, _, _, ⟨⟨⟨hal, hg⟩, h0⟩, rfl⟩, h5, rfl⟩ := h3
      obtain ⟨h7, h8, rfl, _⟩ := takeQ_ok (look := lkT G lk) hi h5
      refine ⟨?_, h8⟩
      show (loadR P t (.ptr o i.v j)).run _ = _
      simp only [loadR]
      refine bind_some.2 ⟨denO G (lk o), [o], [], obj_some.2 ⟨rfl, rfl⟩, bind_some.2 ⟨(), [], [], guard_some.2 ⟨by rw [← hx]; exact hal, rfl⟩, bind_some.2 ⟨wrapT g (cs.map (den1 G)), [], [], opt_some.2 ⟨?_, rfl⟩, ?_, rfl⟩, rfl⟩, rfl⟩
      · rw [← hx, is0_v h0]; rfl
      · rw [box_cells (al := al) (mw := mw) (ver := ver) (k := k) hg]; exact h7
    | gone => exact (runs_fail.1 h3).elim
  | rp t' x j src =>
    simp only [runs_bind] at h2
    obtain ⟨_, l3, _, h3, ⟨y, _, l6, h4, h5, rfl⟩, rfl⟩ := h2
    obtain ⟨h7, h8, rfl, h9⟩ := takeQ_ok (look := lkT G lk) hi h4
    have fin : ∀ r, okA w = true → l6 = [] → (match denA G y with | .agg cs => pure (T.agg (cs.map fun c => match c with | .sl xs _ => .sl xs src | c => c)) | .sl xs _ => pure (T.sl xs src) | y => pure y : Rd T).run (lkT G lk) = some (r, []) → r = denA G w →
        (loadR P t (denV G (.rp t' x j src))).run (lkT G lk) = some (denA G w, [] ++ (l3 ++ ([] ++ l6))) ∧ okA w = true := by
      intro r hw h0 hr hrw
      subst h0; subst hrw
      refine ⟨?_, hw⟩
      show (loadR P t (.rp (G.enc t' x) j src)).run _ = _
      simp only [loadR]
      refine bind_some.2 ⟨(), l3, [], chkQ_ok h3, bind_some.2 ⟨denA G y, [], [], by rw [enc_cells ok]; exact h7, hr, rfl⟩, by simp⟩
    rcases h9 with ⟨cs, rfl⟩ | ⟨c, rfl⟩
    · obtain ⟨rfl, rfl⟩ := runs_pure.1 h5
      refine fin _ rfl rfl rfl ?_
      simp only [denA, List.map_map]
      refine congrArg T.agg (List.map_congr_left fun c _ => ?_)
      simp only [Function.comp]
      rw [putSrc_den]
    · have h5 : (pure (putSrc src (cell1 c)) : Q G.El (V G.El)).runs lk w l6 := by
        cases c <;> exact h5
      obtain ⟨rfl, rfl⟩ := runs_pure.1 h5
      have e1 : okA (putSrc src (cell1 c)) = true := by cases c <;> rfl
      have e2 : denA G (putSrc src (cell1 c)) = den1 G (putSrc src (cell1 c)) := by cases c <;> rfl
      refine fin _ e1 rfl ?_ rfl
      rw [e2, putSrc_den, denA_cell1]
      cases hd : den1 G c with
      | agg cs => exact absurd hd (den1_agg c cs)
      | _ => rfl
  | _ => exact (runs_fail.1 h2).elim
theorem splice_den (cs vs : List (V G.El)) (j : Nat) : (spliceV cs j vs).map (den1 G) = splice (cs.map (den1 G)) j (vs.map (den1 G)) := by
  simp [spliceV, splice, List.map_take, List.map_drop]
theorem all_cellT {cs : List (V G.El)} (h : cs.all isCell = true) : (cs.map (den1 G)).all cellT = true := by
  simp only [List.all_map, List.all_eq_true] at h ⊢
  exact fun c hc => cellT_den1 (h c hc)
def denWr (G : Sg) (wr : List (Nat × O G.El)) : List (Nat × Ob) := wr.map fun p => (p.1, denO G p.2)
theorem storeQ_ok (ok : SgOk P G) {t : TypeId} {a v : V G.El} {wr : List (Nat × O G.El)} {l : List Nat} (h : (storeQ G t a v).runs lk wr l) : (storeR P t (denV G a) (denV G v)).run (lkT G lk) = some (denWr G wr, l) := by
  simp only [storeQ, runs_bind, runs_opt] at h
  obtain ⟨inf, _, _, ⟨hi, rfl⟩, h2, rfl⟩ := h
  have hi := ok.ti t inf hi
  cases a with
  | ptr o i j =>
    simp only [runs_bind, runs_get] at h2
    obtain ⟨x, _, _, ⟨hx, rfl⟩, h3, rfl⟩ := h2
    show (storeR P t (.ptr o i.v j) (denV G v)).run _ = _
    simp only [storeR]
    cases x with
    | row al mw kp ver t' xs last =>
      simp only [runs_bind, runs_grd, runs_opt, Bool.and_eq_true, beq_iff_eq, decide_eq_true_eq, runs_pure] at h3
      obtain ⟨_, _, _, ⟨⟨hal, hmw⟩, rfl⟩, ⟨x, _, _, h4, ⟨w, l7, _, h5, ⟨_, _, _, ⟨⟨⟨h6, h7⟩, h8⟩, rfl⟩, ⟨y, _, _, ⟨h9, rfl⟩, ⟨rfl, rfl⟩, rfl⟩, rfl⟩, rfl⟩, rfl⟩, rfl⟩ := h3
      obtain ⟨rfl, h10, _⟩ := getRow_ok h4
      obtain ⟨h11, h12, h13⟩ := closeQ_ok h5
      have hv : denV G v = denA G v := by
        refine denV_okA ?_
        cases v with
        | tup ts => exact (runs_fail.1 (show (Q.fail : Q G.El (V G.El)).runs lk w l7 from (by simp [closeQ, closeQ1, viewQ, runs_bind, runs_fail] at h5))).elim
        | rp t x j src => exact (runs_fail.1 (show (Q.fail : Q G.El (V G.El)).runs lk w l7 from (by simp [closeQ, closeQ1, viewQ, runs_bind, runs_fail] at h5))).elim
        | _ => rfl
      refine bind_some.2 ⟨denO G (lk o), [o], l7, obj_some.2 ⟨rfl, rfl⟩, bind_some.2 ⟨(), [], l7, guard_some.2 ⟨by rw [← hx]; simp [denO, hal, hmw], rfl⟩, bind_some.2 ⟨G.enc t' x, [], l7, opt_some.2 ⟨by rw [← hx]; simp [denO, h10], rfl⟩, bind_some.2 ⟨inf.k, [], l7, opt_some.2 ⟨hi.sz, rfl⟩, bind_some.2 ⟨denA G w, l7, [], ?_, bind_some.2 ⟨(), [], [], guard_some.2 ⟨?_, rfl⟩, ?_, rfl⟩, by simp⟩, rfl⟩, rfl⟩, rfl⟩, by simp⟩
      · rw [← hx, hv]; exact h11
      · rw [denA_cells, enc_cells ok]
        simp only [List.length_map, Bool.and_eq_true, beq_iff_eq, decide_eq_true_eq]
        exact ⟨⟨h6, all_cellT h7⟩, h8⟩
      · refine pure_some.2 ⟨?_, rfl⟩
        rw [← hx]
        simp only [denWr, List.map_cons, List.map_nil, denO]
        rw [setRow_ok h4, denA_cells, enc_cells ok, ← splice_den, enc_withCells ok (ok.mkC _ _ _ h9), List.map_set]
    | box al mw ver k g cs =>
      simp only [runs_bind, runs_grd, Bool.and_eq_true, beq_iff_eq, decide_eq_true_eq, runs_pure] at h3
      obtain ⟨_, _, _, ⟨⟨⟨⟨hal, hmw⟩, hg⟩, h0⟩, rfl⟩, ⟨_, _, _, ⟨⟨⟨h6, h7⟩, h8⟩, rfl⟩, ⟨rfl, rfl⟩, rfl⟩, rfl⟩ := h3
      have hv : denV G v = denA G v := by
        refine denV_okA ?_
        cases v with
        | tup ts => simp [cellsV, isCell] at h7
        | rp t x j src => simp [cellsV, isCell] at h7
        | _ => rfl
      have hbc := box_cells (G := G) (al := al) (mw := mw) (ver := ver) (k := k) hg
      refine bind_some.2 ⟨denO G (lk o), [o], [], obj_some.2 ⟨rfl, rfl⟩, bind_some.2 ⟨(), [], [], guard_some.2 ⟨by rw [← hx]; simp [denO, hal, hmw], rfl⟩, bind_some.2 ⟨wrapT g (cs.map (den1 G)), [], [], opt_some.2 ⟨by rw [← hx, is0_v h0]; rfl, rfl⟩, bind_some.2 ⟨inf.k, [], [], opt_some.2 ⟨hi.sz, rfl⟩, bind_some.2 ⟨denA G v, [], [], by rw [← hx, hv]; rfl, bind_some.2 ⟨(), [], [], guard_some.2 ⟨?_, rfl⟩, ?_, rfl⟩, by simp⟩, rfl⟩, rfl⟩, rfl⟩, by simp⟩
      · rw [denA_cells, hbc]
        simp only [List.length_map, Bool.and_eq_true, beq_iff_eq, decide_eq_true_eq]
        exact ⟨⟨h6, all_cellT h7⟩, h8⟩
      · refine pure_some.2 ⟨?_, rfl⟩
        rw [← hx, is0_v h0, denA_cells, hbc, ← splice_den]
        simp only [denWr, List.map_cons, List.map_nil, denO, List.set_cons_zero]
        have : (wrapT g (cs.map (den1 G))).withCells ((spliceV cs j (cellsV v)).map (den1 G)) = wrapT g ((spliceV cs j (cellsV v)).map (den1 G)) := by
          cases g with
          | true => rfl
          | false =>
            match cs, hg with
            | [c], _ =>
              simp only [List.map_cons, List.map_nil, wrapT]
              generalize (spliceV [c] j (cellsV v)).map (den1 G) = cs'
              cases hd : den1 G c with
              | agg l => exact absurd hd (den1_agg c l)
              | _ =>
                match cs' with
                | [] => rfl
                | [_] => rfl
                | _ :: _ :: _ => rfl
        rw [this]
    | gone => exact (runs_fail.1 h3).elim
  | _ => exact (runs_fail.1 h2).elim
end Go.Proofs.YtbfgmnjhikaagaaGreatDoor.PN
namespace Go.Proofs.YtbfgmnjhikaagaaGreatDoor.PN
open Go Go.Proofs.YtbfgmnjhikaagaaGreatDoor.PM
variable {G : Sg} {P : Program} {α β : Type} {lk : Nat → O G.El} {look : Nat → Ob}
theorem boundQ_ok {v : V G.El} {n r : N} {l : List Nat} (h : (boundQ v n : Q G.El N).runs lk r l) : l = [] ∧ (bound (denV G v) n.v).run look = some (r.v, []) ∧ r.v ≤ n.v := by
  have fin : ∀ (k : IntKind) (x : Int), denV G v = .sc (.int k x) → 0 ≤ x → x ≤ (n.v : Int) → (bound (denV G v) n.v).run look = some (x.toNat, []) := by
    intro k x hv h0 h1
    rw [hv]
    simp only [bound]
    exact bind_some.2 ⟨x, [], [], opt_some.2 ⟨rfl, rfl⟩, bind_some.2 ⟨(), [], [], guard_some.2 ⟨by simp [h0, h1], rfl⟩, rfl, rfl⟩, rfl⟩
  cases v with
  | il k x =>
    simp only [boundQ, runs_bind, runs_grd, runs_ndLe, runs_pure, decide_eq_true_eq] at h
    obtain ⟨_, _, _, ⟨h1, rfl⟩, ⟨_, _, _, ⟨h2, rfl⟩, ⟨rfl, rfl⟩, rfl⟩, rfl⟩ := h
    have h2 : x.toNat ≤ n.v := h2
    exact ⟨rfl, fin k x rfl h1 (by omega), h2⟩
  | id k m x =>
    simp only [boundQ, runs_bind, runs_nd, runs_pure] at h
    obtain ⟨_, _, _, ⟨h1, rfl⟩, ⟨_, _, _, ⟨h2, rfl⟩, ⟨rfl, rfl⟩, rfl⟩, rfl⟩ := h
    exact ⟨rfl, fin k x rfl h1 h2, show x.toNat ≤ n.v by omega⟩
  | _ => exact (runs_fail.1 h).elim
theorem hiQ_ok {hi : Option (V G.El)} {n r : N} {l : List Nat} (h : (hiQ hi n : Q G.El N).runs lk r l) : l = [] ∧ (hiB (hi.map (denV G)) n.v).run look = some (r.v, []) ∧ r.v ≤ n.v := by
  cases hi with
  | none => obtain ⟨rfl, rfl⟩ := runs_ret.1 h; exact ⟨rfl, rfl, Nat.le_refl _⟩
  | some v => exact boundQ_ok h
theorem loQ_ok {lo : Option (V G.El)} {n r : N} {l : List Nat} (h : (loQ lo n : Q G.El N).runs lk r l) : l = [] ∧ (loB (lo.map (denV G)) n.v).run look = some (r.v, []) ∧ r.v ≤ n.v := by
  cases lo with
  | none => obtain ⟨rfl, rfl⟩ := runs_ret.1 h; exact ⟨rfl, rfl, Nat.zero_le _⟩
  | some v => exact boundQ_ok h
theorem intV_some {v : V G.El} {k : IntKind} {x : Int} {b : Bool} (h : intV v = some (k, x, b)) : den1 G v = .sc (.int k x) ∧ denV G v = .sc (.int k x) := by
  cases v <;> simp only [intV] at h
  all_goals first | (cases h; done) | (obtain ⟨rfl, rfl, rfl⟩ := Prod.mk.inj (Option.some.inj h) |>.imp id Prod.mk.inj; exact ⟨rfl, rfl⟩)
theorem sliceE_ok (ok : SgOk P G) {t : TypeId} {k : Nat} {l : List Nat} (h : (sliceE G t).runs lk k l) : l = [] ∧ ∃ e, elemT P t = some e ∧ szT P e = some k := by
  simp only [sliceE, runs_bind, runs_opt] at h
  obtain ⟨inf, _, _, ⟨hi, rfl⟩, h2, rfl⟩ := h
  have hk := (ok.ti t inf hi).kd
  split at h2
  · rename_i e c he
    rw [he] at hk
    simp only [runs_bind, runs_opt, runs_pure] at h2
    obtain ⟨ie, _, _, ⟨hie, rfl⟩, ⟨rfl, rfl⟩, rfl⟩ := h2
    refine ⟨rfl, e, ?_, (ok.ti e ie hie).sz⟩
    have hk : P.underlying t = some (.slice e) := hk
    simp only [elemT, hk]
  · exact (runs_fail.1 h2).elim
theorem elemQ_ok (ok : SgOk P G) {t : TypeId} {ec : Nat × Nat} {l : List Nat} (h : (elemQ G t).runs lk ec l) : l = [] ∧ elemT P t = some ec.1 ∧ szT P ec.1 = some (G.w ec.2) := by
  simp only [elemQ, runs_bind, runs_opt] at h
  obtain ⟨inf, _, _, ⟨hi, rfl⟩, h2, rfl⟩ := h
  have hk := (ok.ti t inf hi).kd
  split at h2
  · rename_i e c he
    rw [he] at hk
    simp only [runs_bind, runs_opt, runs_pure, runs_grd, beq_iff_eq] at h2
    obtain ⟨ie, _, _, ⟨hie, rfl⟩, ⟨_, _, _, ⟨hw, rfl⟩, ⟨rfl, rfl⟩, rfl⟩, rfl⟩ := h2
    have hk : P.underlying t = some (.slice e) := hk
    refine ⟨rfl, by simp only [elemT, hk], ?_⟩
    rw [hw]; exact (ok.ti e ie hie).sz
  · exact (runs_fail.1 h2).elim
theorem sliceQ_ok (ok : SgOk P G) {t : TypeId} {x w : V G.El} {lo hi mx : Option (V G.El)} {l : List Nat} (h : (sliceQ G t x lo hi mx).runs lk w l) :
    (sliceR P t (denV G x) (lo.map (denV G)) (hi.map (denV G)) (mx.map (denV G))).run (lkT G lk) = some (denA G w, l) ∧ isCell w = true := by
  simp only [sliceQ, runs_bind, runs_grd] at h
  obtain ⟨_, _, _, ⟨hm, rfl⟩, h2, rfl⟩ := h
  have hm' : (mx.map (denV G)).isNone = true := by cases mx <;> first | rfl | cases hm
  have pre : ∀ {m : Rd T} {r : T × List Nat}, m.run (lkT G lk) = some r → (do guardR (mx.map (denV G)).isNone; m : Rd T).run (lkT G lk) = some r := by
    intro m r hr
    obtain ⟨a, b⟩ := r
    exact bind_some.2 ⟨(), [], b, guard_some.2 ⟨hm', rfl⟩, hr, by simp⟩
  cases x with
  | s s =>
    simp only [runs_bind, runs_opt, runs_grd, runs_pure] at h2
    obtain ⟨inf, _, _, ⟨hinf, rfl⟩, ⟨_, _, _, ⟨hs, rfl⟩, ⟨hh, _, _, h3, ⟨ll, _, _, h4, ⟨rfl, rfl⟩, rfl⟩, rfl⟩, rfl⟩, rfl⟩ := h2
    obtain ⟨rfl, h5, _⟩ := hiQ_ok (look := lkT G lk) h3
    obtain ⟨rfl, h6, _⟩ := loQ_ok (look := lkT G lk) h4
    refine ⟨pre ?_, rfl⟩
    have hk := (ok.ti t inf hinf).kd
    have hu : P.underlying t = some .string := by
      cases hkd : inf.kd <;> rw [hkd] at hs hk <;> first | exact hk | cases hs
    show (do guardR (match P.underlying t with | some .string => true | _ => false); let h ← hiB (hi.map (denV G)) s.size; let l ← loB (lo.map (denV G)) h; pure (T.sc (.string (s.extract l h))) : Rd T).run _ = _
    rw [hu]
    exact bind_some.2 ⟨(), [], [], rfl, bind_some.2 ⟨_, [], [], h5, bind_some.2 ⟨_, [], [], h6, rfl, rfl⟩, rfl⟩, rfl⟩
  | nil =>
    simp only [runs_bind, runs_pure] at h2
    obtain ⟨k, _, _, hk, ⟨hh, _, _, h3, ⟨ll, _, _, h4, ⟨rfl, rfl⟩, rfl⟩, rfl⟩, rfl⟩ := h2
    obtain ⟨rfl, e, he, hk⟩ := sliceE_ok ok hk
    obtain ⟨rfl, h5, _⟩ := hiQ_ok (look := lkT G lk) h3
    obtain ⟨rfl, h6, _⟩ := loQ_ok (look := lkT G lk) h4
    refine ⟨pre ?_, rfl⟩
    exact bind_some.2 ⟨e, [], [], opt_some.2 ⟨he, rfl⟩, bind_some.2 ⟨k, [], [], opt_some.2 ⟨hk, rfl⟩, bind_some.2 ⟨_, [], [], h5, bind_some.2 ⟨_, [], [], h6, rfl, rfl⟩, rfl⟩, rfl⟩, rfl⟩
  | s0 src =>
    simp only [runs_bind, runs_pure] at h2
    obtain ⟨k, _, _, hk, ⟨hh, _, _, h3, ⟨ll, _, _, h4, ⟨rfl, rfl⟩, rfl⟩, rfl⟩, rfl⟩ := h2
    obtain ⟨rfl, e, he, hk⟩ := sliceE_ok ok hk
    obtain ⟨rfl, h5, _⟩ := hiQ_ok (look := lkT G lk) h3
    obtain ⟨rfl, h6, _⟩ := loQ_ok (look := lkT G lk) h4
    refine ⟨pre ?_, rfl⟩
    exact bind_some.2 ⟨e, [], [], opt_some.2 ⟨he, rfl⟩, bind_some.2 ⟨k, [], [], opt_some.2 ⟨hk, rfl⟩, bind_some.2 ⟨(), [], [], guard_some.2 ⟨rfl, rfl⟩, bind_some.2 ⟨_, [], [], h5, bind_some.2 ⟨_, [], [], h6, by simp [denA, den1, Rd.run, pure], rfl⟩, rfl⟩, rfl⟩, rfl⟩, rfl⟩
  | sl t' xs src =>
    simp only [runs_bind, runs_pure, widthQ, runs_grd, beq_iff_eq] at h2
    obtain ⟨k, _, _, hk, ⟨_, _, _, ⟨hw, rfl⟩, ⟨hh, _, _, h3, ⟨ll, _, _, h4, ⟨rfl, rfl⟩, rfl⟩, rfl⟩, rfl⟩, rfl⟩ := h2
    obtain ⟨rfl, e, he, hk⟩ := sliceE_ok ok hk
    obtain ⟨rfl, h5, _⟩ := hiQ_ok (look := lkT G lk) h3
    obtain ⟨rfl, h6, _⟩ := loQ_ok (look := lkT G lk) h4
    refine ⟨pre ?_, rfl⟩
    refine bind_some.2 ⟨e, [], [], opt_some.2 ⟨he, rfl⟩, bind_some.2 ⟨k, [], [], opt_some.2 ⟨hk, rfl⟩, bind_some.2 ⟨(), [], [], guard_some.2 ⟨by rw [← hw]; exact wid_enc ok t' xs, rfl⟩, bind_some.2 ⟨_, [], [], by rw [List.length_map]; exact h5, bind_some.2 ⟨_, [], [], h6, ?_, rfl⟩, rfl⟩, rfl⟩, rfl⟩, rfl⟩
    exact pure_some.2 ⟨by simp [denA, den1, List.map_take, List.map_drop], rfl⟩
  | win o full off len =>
    simp only [runs_bind, runs_get] at h2
    obtain ⟨k, _, _, hk, ⟨x, _, _, ⟨hx, rfl⟩, h3, rfl⟩, rfl⟩ := h2
    obtain ⟨rfl, e, he, hk⟩ := sliceE_ok ok hk
    cases x with
    | row al mw kp ver t' xs last =>
      simp only [runs_bind, runs_pure, widthQ, runs_grd, beq_iff_eq] at h3
      obtain ⟨_, _, _, ⟨hw, rfl⟩, ⟨hh, _, _, h3, ⟨ll, _, _, h4, ⟨rfl, rfl⟩, rfl⟩, rfl⟩, rfl⟩ := h3
      obtain ⟨rfl, h5, _⟩ := hiQ_ok (look := lkT G lk) h3
      obtain ⟨rfl, h6, _⟩ := loQ_ok (look := lkT G lk) h4
      refine ⟨pre ?_, rfl⟩
      refine bind_some.2 ⟨e, [], [o], opt_some.2 ⟨he, rfl⟩, bind_some.2 ⟨k, [], [o], opt_some.2 ⟨hk, rfl⟩, bind_some.2 ⟨denO G (lk o), [o], [], obj_some.2 ⟨rfl, rfl⟩, bind_some.2 ⟨(), [], [], guard_some.2 ⟨by rw [← hx, ← hw]; simp [denO], rfl⟩, bind_some.2 ⟨_, [], [], h5, bind_some.2 ⟨_, [], [], h6, ?_, rfl⟩, rfl⟩, rfl⟩, rfl⟩, rfl⟩, rfl⟩
      exact pure_some.2 ⟨by simp [denA, den1, add_v, sub_v], rfl⟩
    | _ => exact (runs_fail.1 h3).elim
  | _ => exact (runs_fail.1 h2).elim
theorem idxQ_ok {ix : V G.El} {n r : N} {l : List Nat} (h : (idxQ ix n : Q G.El N).runs lk r l) : l = [] ∧ ∃ k x, denV G ix = .sc (.int k x) ∧ 0 ≤ x ∧ x < (n.v : Int) ∧ r.v = x.toNat := by
  cases ix with
  | il k x =>
    cases n with
    | l n =>
      simp only [idxQ, runs_bind, runs_grd, runs_pure, Bool.and_eq_true, decide_eq_true_eq] at h
      obtain ⟨_, _, _, ⟨⟨h1, h2⟩, rfl⟩, ⟨rfl, rfl⟩, rfl⟩ := h
      exact ⟨rfl, k, x, rfl, h1, by simp only [N.v]; omega, rfl⟩
    | d m n =>
      simp only [idxQ, runs_bind, runs_grd, runs_nd, runs_pure, decide_eq_true_eq] at h
      obtain ⟨_, _, _, ⟨h1, rfl⟩, ⟨_, _, _, ⟨h2, rfl⟩, ⟨rfl, rfl⟩, rfl⟩, rfl⟩ := h
      exact ⟨rfl, k, x, rfl, h1, by simp only [N.v]; omega, rfl⟩
  | id k m x =>
    have h : (do nd (0 ≤ x); nd (x < ((n.v : Nat) : Int)); pure (.d m x.toNat) : Q G.El N).runs lk r l := by cases n <;> exact h
    simp only [runs_bind, runs_nd, runs_pure] at h
    obtain ⟨_, _, _, ⟨h1, rfl⟩, ⟨_, _, _, ⟨h2, rfl⟩, ⟨rfl, rfl⟩, rfl⟩, rfl⟩ := h
    exact ⟨rfl, k, x, rfl, h1, h2, rfl⟩
  | _ => cases n <;> exact (runs_fail.1 h).elim
theorem indexAddrQ_ok (ok : SgOk P G) {t : TypeId} {x ix w : V G.El} {l : List Nat} (h : (indexAddrQ G t x ix).runs lk w l) : (indexAddrR P t (denV G x) (denV G ix)).run (lkT G lk) = some (denV G w, l) := by
  simp only [indexAddrQ, runs_bind] at h
  obtain ⟨k, _, _, hk, h2, rfl⟩ := h
  obtain ⟨rfl, e, he, hk⟩ := sliceE_ok ok hk
  cases x with
  | sl t' xs src =>
    simp only [runs_bind, runs_pure, widthQ, runs_grd, beq_iff_eq] at h2
    obtain ⟨_, _, _, ⟨hw, rfl⟩, ⟨i, _, _, h3, ⟨rfl, rfl⟩, rfl⟩, rfl⟩ := h2
    obtain ⟨rfl, kk, z, h4, h5, h6, h7⟩ := idxQ_ok h3
    simp only [indexAddrR]
    have hlt : z.toNat < xs.length := by simp only [N.v] at h6; omega
    refine bind_some.2 ⟨z, [], [], opt_some.2 ⟨by rw [h4]; rfl, rfl⟩, ?_, rfl⟩
    refine bind_some.2 ⟨e, [], [], opt_some.2 ⟨he, rfl⟩, bind_some.2 ⟨k, [], [], opt_some.2 ⟨hk, rfl⟩, bind_some.2 ⟨(), [], [], guard_some.2 ⟨by simp [h5], rfl⟩, bind_some.2 ⟨G.enc t' (xs.getD z.toNat (G.inh t')), [], [], opt_some.2 ⟨?_, rfl⟩, bind_some.2 ⟨(), [], [], guard_some.2 ⟨?_, rfl⟩, ?_, rfl⟩, rfl⟩, rfl⟩, rfl⟩, rfl⟩
    · rw [List.getElem?_map, List.getD_eq_getElem?_getD, List.getElem?_eq_getElem hlt]; rfl
    · rw [enc_width ok, hw]; simp
    · rw [h7]; rfl
  | win o full off len =>
    simp only [runs_bind, runs_get] at h2
    obtain ⟨x, _, _, ⟨hx, rfl⟩, h3, rfl⟩ := h2
    cases x with
    | row al mw kp ver t' xs last =>
      simp only [runs_bind, runs_pure, widthQ, runs_grd, beq_iff_eq] at h3
      obtain ⟨_, _, _, ⟨hw, rfl⟩, ⟨i, _, _, h3, ⟨rfl, rfl⟩, rfl⟩, rfl⟩ := h3
      obtain ⟨rfl, kk, z, h4, h5, h6, h7⟩ := idxQ_ok h3
      simp only [indexAddrR]
      refine bind_some.2 ⟨z, [], [o], opt_some.2 ⟨by rw [h4]; rfl, rfl⟩, ?_, rfl⟩
      refine bind_some.2 ⟨e, [], [o], opt_some.2 ⟨he, rfl⟩, bind_some.2 ⟨k, [], [o], opt_some.2 ⟨hk, rfl⟩, bind_some.2 ⟨denO G (lk o), [o], [], obj_some.2 ⟨rfl, rfl⟩, bind_some.2 ⟨(), [], [], guard_some.2 ⟨?_, rfl⟩, ?_, rfl⟩, rfl⟩, rfl⟩, rfl⟩
      · rw [← hx, ← hw]; simp [denO, h5, h6]
      · exact pure_some.2 ⟨by simp [denV, denA, den1, add_v, h7], rfl⟩
    | _ => exact (runs_fail.1 h3).elim
  | _ => exact (runs_fail.1 h2).elim
theorem castL_ok {t e : Nat} {xs : List (G.El t)} {zs : List (G.El e)} (h : castL (e := e) xs = some zs) : t = e ∧ xs.map (G.enc t) = zs.map (G.enc e) ∧ xs.length = zs.length := by
  unfold castL at h
  split at h
  · rename_i he; subst he; obtain rfl := Option.some.inj h; exact ⟨rfl, rfl, rfl⟩
  · cases h
theorem elemsQ_ok (ok : SgOk P G) {e : Nat} {x : V G.El} {r : List (G.El e) × N} {l : List Nat} (h : (elemsQ G e x).runs lk r l) :
    (elemsR (denV G x)).run (lkT G lk) = some (r.1.map (G.enc e), l) ∧ r.2.v = r.1.length ∧ (∃ ys src, denV G x = .sl ys src) ∨ (elemsR (denV G x)).run (lkT G lk) = some (r.1.map (G.enc e), l) ∧ r.2.v = r.1.length ∧ ((∃ o a b, denV G x = .win o a b) ∨ denV G x = .nil) := by
  cases x with
  | nil => obtain ⟨rfl, rfl⟩ := runs_ret.1 h; exact .inr ⟨rfl, rfl, .inr rfl⟩
  | s0 src =>
    cases src with
    | nil => obtain ⟨rfl, rfl⟩ := runs_ret.1 h; exact .inl ⟨rfl, rfl, _, _, rfl⟩
    | cons a r => exact (runs_fail.1 h).elim
  | win o full off len =>
    simp only [elemsQ, runs_bind, runs_get] at h
    obtain ⟨x, _, _, ⟨hx, rfl⟩, h3, rfl⟩ := h
    cases x with
    | row al mw kp ver t' xs last =>
      simp only [runs_bind, runs_grd, runs_opt, runs_pure] at h3
      obtain ⟨_, _, _, ⟨hal, rfl⟩, ⟨ys, _, _, h4, ⟨zs, _, _, ⟨h5, rfl⟩, ⟨rfl, rfl⟩, rfl⟩, rfl⟩, rfl⟩ := h3
      obtain ⟨rfl, h6, rfl⟩ := winQ_ok h4
      obtain ⟨rfl, h7, h8⟩ := castL_ok h5
      refine .inr ⟨?_, ?_, .inl ⟨_, _, _, rfl⟩⟩
      · refine bind_some.2 ⟨denO G (lk o), [o], [], obj_some.2 ⟨rfl, rfl⟩, bind_some.2 ⟨(), [], [], guard_some.2 ⟨?_, rfl⟩, ?_, rfl⟩, rfl⟩
        · rw [← hx, lenT]; simp only [denO, hal, Bool.and_true, Bool.true_and, decide_eq_true_eq]; exact h6
        · refine pure_some.2 ⟨?_, rfl⟩
          rw [← hx, ← h7, winT]
      · show len.v = zs.length
        rw [← h8, List.length_take, List.length_drop, rowsOf_length]; omega
    | _ => exact (runs_fail.1 h3).elim
  | sl t xs src =>
    simp only [elemsQ, runs_bind, runs_opt] at h
    obtain ⟨zs, _, _, ⟨h5, rfl⟩, h3, rfl⟩ := h
    obtain ⟨rfl, h7, h8⟩ := castL_ok h5
    cases src with
    | nil =>
      obtain ⟨rfl, rfl⟩ := runs_pure.1 h3
      exact .inl ⟨by show (Rd.ret (xs.map (G.enc t))).run _ = _; rw [h7]; rfl, rfl, _, _, rfl⟩
    | cons a r =>
      simp only [runs_bind, runs_grd, runs_pure] at h3
      obtain ⟨_, l4, _, h4, ⟨_, _, _, ⟨h6, rfl⟩, ⟨rfl, rfl⟩, rfl⟩, rfl⟩ := h3
      refine .inl ⟨?_, rfl, _, _, rfl⟩
      exact bind_some.2 ⟨(), l4, [], chkQ_ok h4, bind_some.2 ⟨(), [], [], guard_some.2 ⟨flatL_enc ok h6 xs, rfl⟩, by rw [h7]; rfl, rfl⟩, rfl⟩
  | _ => exact (runs_fail.1 h).elim
end Go.Proofs.YtbfgmnjhikaagaaGreatDoor.PN
