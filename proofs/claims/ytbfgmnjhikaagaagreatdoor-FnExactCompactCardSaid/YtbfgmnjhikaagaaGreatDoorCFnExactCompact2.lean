/- Part of the proof of FnExactCompact: no statement of its own. -/
import Derived.Below
import Derived.Lib.ParseIntB
import Derived.Lib.Split
import Derived.Sort.Grow
import Derived.Test.YtbfgmnjhikaagaaGreatDoorCFnExactCompact1
set_option linter.unusedVariables false
set_option linter.unusedSimpArgs false
namespace Go.Proofs.YtbfgmnjhikaagaaGreatDoor.PN
open Go Go.Proofs.YtbfgmnjhikaagaaGreatDoor.PM
variable {G : Sg} {P : Program} {α β : Type} {lk : Nat → O G.El} {look : Nat → Ob}
def denE (G : Sg) (e : Ef G.El) : Eff := ⟨denV G e.val, denWr G e.wr⟩
theorem zeroQ_ok {inf : TI G.El} {z : V G.El} {l : List Nat} (h : (zeroQ inf).runs lk z l) : l = [] ∧ inf.zero = some z ∧ okA z = true ∧ (cellsV z).length = inf.k := by
  simp only [zeroQ, runs_bind, runs_opt, runs_grd, runs_pure, Bool.and_eq_true, beq_iff_eq] at h
  obtain ⟨z', _, _, ⟨h1, rfl⟩, ⟨_, _, _, ⟨⟨h2, h3⟩, rfl⟩, ⟨rfl, rfl⟩, rfl⟩, rfl⟩ := h
  exact ⟨rfl, h1, h2, h3⟩
theorem strQ_ok (ok : SgOk P G) {e k : Nat} {tx : TypeId} {b : Bool} {l : List Nat} (h : (strQ G e k tx).runs lk b l) : l = [] ∧ (strR P e k tx).run look = some (b, []) := by
  simp only [strQ, runs_bind, runs_opt] at h
  obtain ⟨inf, _, _, ⟨hi, rfl⟩, h2, rfl⟩ := h
  have hk := (ok.ti tx inf hi).kd
  split at h2
  · rename_i e' c he
    rw [he] at hk
    simp only [runs_bind, runs_grd, runs_pure, beq_iff_eq] at h2
    obtain ⟨_, _, _, ⟨rfl, rfl⟩, ⟨rfl, rfl⟩, rfl⟩ := h2
    have hk : P.underlying tx = some (.slice e') := hk
    refine ⟨rfl, ?_⟩
    simp only [strR, hk, if_pos]; rfl
  · rename_i he
    rw [he] at hk
    simp only [runs_bind, runs_grd, runs_pure, beq_iff_eq] at h2
    obtain ⟨_, _, _, ⟨rfl, rfl⟩, ⟨rfl, rfl⟩, rfl⟩ := h2
    have hk : P.underlying tx = some .string := hk
    refine ⟨rfl, ?_⟩
    simp only [strR, hk, if_pos]; rfl
  · exact (runs_fail.1 h2).elim
theorem newsQ_ok (ok : SgOk P G) {e : Nat} {x : V G.El} {str : Bool} {r : List (G.El e) × N} {l : List Nat} (h : (newsQ G e x str).runs lk r l) :
    (newsR (denV G x) str).run (lkT G lk) = some (r.1.map (G.enc e), l) ∧ r.2.v = r.1.length := by
  cases str with
  | true =>
    cases x with
    | s s =>
      simp only [newsQ, runs_bind, runs_opt, runs_pure] at h
      obtain ⟨zs, _, _, ⟨h1, rfl⟩, ⟨rfl, rfl⟩, rfl⟩ := h
      have h2 := ok.ofStr _ _ _ h1
      refine ⟨?_, ?_⟩
      · show (Rd.ret (s.data.toList.map fun b => T.sc (.int .u8 (b.toNat : Int)))).run _ = _
        rw [← h2]; rfl
      · have h3 := congrArg List.length h2
        rw [List.length_map, List.length_map, Array.length_toList] at h3
        exact h3.symm
    | _ => exact (runs_fail.1 h).elim
  | false =>
    have h : (elemsQ G e x).runs lk r l := h
    rcases elemsQ_ok ok h with ⟨h1, h2, ys, src, hx⟩ | ⟨h1, h2, ⟨o, a, b, hx⟩ | hx⟩ <;> refine ⟨?_, h2⟩ <;> rw [hx] at h1 ⊢ <;> exact h1
theorem ndMost_ok {n : N} {by_ : Nat} {u : Unit} {l : List Nat} (h : (ndMost n by_ : Q G.El Unit).runs lk u l) : l = [] ∧ n.v * by_ ≤ most ∧ n.v ≤ most := by
  cases n with
  | l n =>
    simp only [ndMost, runs_grd, decide_eq_true_eq] at h
    exact ⟨h.2, h.1⟩
  | d m n =>
    simp only [ndMost, runs_bind, runs_nd] at h
    obtain ⟨_, _, _, ⟨h1, rfl⟩, ⟨h2, rfl⟩, rfl⟩ := h
    exact ⟨rfl, h1, h2⟩
theorem kill_den (x : O G.El) (h : x.born = true) : denO G x.kill = (denO G x).kill := by cases x <;> first | rfl | cases h
theorem okA_width {z : V G.El} (h : okA z = true) : (denA G z).width = (cellsV z).length := by
  show (denA G z).cells.length = _
  rw [denA_cells, List.length_map]
theorem appendQ_ok (ok : SgOk P G) {ts : Array TypeId} {a x : V G.El} {base : Nat} {e : Ef G.El} {l : List Nat} (h : (appendQ G ts a x base).runs lk e l) :
    (appendR P ts (denV G a) (denV G x) base).run (lkT G lk) = some (denE G e, l) := by
  simp only [appendQ, runs_bind, runs_opt] at h
  obtain ⟨t0, _, _, ⟨ht0, rfl⟩, ⟨ec, _, _, hec, ⟨ie, _, _, ⟨hie, rfl⟩, ⟨z, _, _, hz, ⟨tx, _, _, ⟨htx, rfl⟩, ⟨str, _, _, hstr, ⟨ns, l9, _, hns, h2, rfl⟩, rfl⟩, rfl⟩, rfl⟩, rfl⟩, rfl⟩, rfl⟩ := h
  obtain ⟨rfl, he, hw⟩ := elemQ_ok ok hec
  have hie := ok.ti _ _ hie
  obtain ⟨rfl, hz1, hz2, hz3⟩ := zeroQ_ok hz
  obtain ⟨rfl, hstrT⟩ := strQ_ok ok (look := lkT G lk) hstr
  obtain ⟨hns1, hns2⟩ := newsQ_ok ok hns
  have hk : ie.k = G.w ec.2 := Option.some.inj (hie.sz.symm.trans hw)
  rw [hk] at hstrT
  have pre : ∀ {r : Eff} {l2 : List Nat}, (match denV G a with
      | .nil => do
        guardR (decide ((ns.1.map (G.enc ec.2)).length * ie.bytes ≤ most ∧ (ns.1.map (G.enc ec.2)).length ≤ most))
        pure ⟨.win base 0 (ns.1.map (G.enc ec.2)).length, [(base, Ob.mkRow (G.w ec.2) (ns.1.map (G.enc ec.2)))]⟩
      | .win o 0 len => do
        let ob ← obj o
        guardR (ob.alive && ob.may && ob.row && ob.k == G.w ec.2 && decide (len ≤ ob.xs.length) && decide ((len + (ns.1.map (G.enc ec.2)).length) * ie.bytes ≤ most ∧ len + (ns.1.map (G.enc ec.2)).length ≤ most))
        pure ⟨.win base 0 (len + (ns.1.map (G.enc ec.2)).length), [(o, ob.kill), (base, Ob.mkRow (G.w ec.2) (ob.xs.take len ++ ns.1.map (G.enc ec.2)))]⟩
      | _ => .fail : Rd Eff).run (lkT G lk) = some (r, l2) → (appendR P ts (denV G a) (denV G x) base).run (lkT G lk) = some (r, l9 ++ l2) := by
    intro r l2 hr
    simp only [appendR]
    refine bind_some.2 ⟨ec.1, [], _, opt_some.2 ⟨by rw [ht0]; exact he, rfl⟩, bind_some.2 ⟨G.w ec.2, [], _, opt_some.2 ⟨hw, rfl⟩, bind_some.2 ⟨ie.bytes, [], _, opt_some.2 ⟨hie.by_, rfl⟩, bind_some.2 ⟨denA G z, [], _, opt_some.2 ⟨hie.ze z hz1, rfl⟩, bind_some.2 ⟨tx, [], _, opt_some.2 ⟨htx, rfl⟩, bind_some.2 ⟨str, [], _, hstrT, bind_some.2 ⟨ns.1.map (G.enc ec.2), l9, l2, hns1, bind_some.2 ⟨(), [], l2, guard_some.2 ⟨?_, rfl⟩, hr, rfl⟩, rfl⟩, rfl⟩, rfl⟩, rfl⟩, rfl⟩, rfl⟩, by simp⟩
    rw [wid_enc ok, okA_width hz2, hz3, hk]; simp
  simp only [List.nil_append]
  cases a with
  | nil =>
    simp only [runs_bind, runs_pure] at h2
    obtain ⟨_, _, _, h3, ⟨rfl, rfl⟩, rfl⟩ := h2
    obtain ⟨rfl, h4, h5⟩ := ndMost_ok h3
    refine pre ?_
    refine bind_some.2 ⟨(), [], [], guard_some.2 ⟨?_, rfl⟩, pure_some.2 ⟨?_, rfl⟩, rfl⟩
    · rw [List.length_map, ← hns2]; exact decide_eq_true ⟨h4, h5⟩
    · rw [List.length_map, ← hns2]; rfl
  | win o full off len =>
    simp only [runs_bind, runs_grd, runs_get] at h2
    obtain ⟨_, _, _, ⟨h0, rfl⟩, ⟨x', _, _, ⟨hx, rfl⟩, h3, rfl⟩, rfl⟩ := h2
    cases x' with
    | row al mw kp ver t xs last =>
      simp only [runs_bind, runs_grd, runs_opt, runs_pure, Bool.and_eq_true] at h3
      obtain ⟨_, _, _, ⟨⟨hal, hmw⟩, rfl⟩, ⟨ys, _, _, h4, ⟨zs, _, _, ⟨h5, rfl⟩, ⟨_, _, _, h6, ⟨rfl, rfl⟩, rfl⟩, rfl⟩, rfl⟩, rfl⟩ := h3
      obtain ⟨rfl, h7, rfl⟩ := winQ_ok h4
      obtain ⟨rfl, h8, _⟩ := castL_ok h5
      obtain ⟨rfl, h9, h10⟩ := ndMost_ok h6
      rw [add_v] at h9 h10
      have hl0 : (N.l 0).v = 0 := rfl
      rw [hl0] at h7 h8
      refine pre ?_
      have : denV G (.win o full off len) = T.win o 0 len.v := by show T.win o off.v len.v = _; rw [is0_v h0]
      rw [this]
      refine bind_some.2 ⟨denO G (lk o), [o], [], obj_some.2 ⟨rfl, rfl⟩, bind_some.2 ⟨(), [], [], guard_some.2 ⟨?_, rfl⟩, pure_some.2 ⟨?_, rfl⟩, rfl⟩, rfl⟩
      · rw [← hx, lenT, List.length_map, ← hns2]
        simp only [denO, hal, hmw, Bool.and_true, Bool.true_and, beq_self_eq_true, Bool.and_eq_true, decide_eq_true_eq]
        exact ⟨by omega, h9, h10⟩
      · rw [← hx, List.length_map, ← hns2]
        simp only [denE, denV, denA, den1, denWr, List.map_cons, List.map_nil, add_v, hl0]
        rw [kill_den _ rfl]
        simp only [Eff.mk.injEq, T.win.injEq, true_and, List.cons.injEq, Prod.mk.injEq, and_true]
        have hn : rowsOf (zs ++ ns.1) none = zs ++ ns.1 := rfl
        simp only [denO, hn, List.map_append]
        rw [← h8]
        simp [Ob.mkRow, List.map_take]
    | _ => exact (runs_fail.1 h3).elim
  | _ => exact (runs_fail.1 h2).elim
theorem intN_den (nm : Nat) (n : N) : denV G (intN .i64 nm n) = .sc (.int .i64 (n.v : Nat)) := by cases n <;> rfl
theorem lenQ_ok (ok : SgOk P G) {ts : Array TypeId} {x w : V G.El} {base : Nat} {l : List Nat} (h : (lenQ G ts x base).runs lk w l) : (lenR P ts (denV G x)).run (lkT G lk) = some (denV G w, l) := by
  simp only [lenQ, runs_bind, runs_opt] at h
  obtain ⟨t, _, _, ⟨ht, rfl⟩, ⟨inf, _, _, ⟨hi, rfl⟩, h2, rfl⟩, rfl⟩ := h
  have hk := (ok.ti t inf hi).kd
  have pre : ∀ {r : T} {l2 : List Nat}, (match P.underlying t, denV G x with
    | some .string, .sc (.string s) => pure (.sc (.int .i64 s.size))
    | some (.slice _), .nil => pure (.sc (.int .i64 0))
    | some (.slice _), .sl xs src => do chk src; pure (.sc (.int .i64 xs.length))
    | some (.slice _), .win _ _ len => pure (.sc (.int .i64 len))
    | some (.array n _), _ => pure (.sc (.int .i64 n))
    | _, _ => .fail : Rd T).run (lkT G lk) = some (r, l2) → (lenR P ts (denV G x)).run (lkT G lk) = some (r, [] ++ ([] ++ l2)) := by
    intro r l2 hr
    exact bind_some.2 ⟨t, [], l2, opt_some.2 ⟨ht, rfl⟩, hr, rfl⟩
  split at h2
  · rename_i s he
    rw [he] at hk
    obtain ⟨rfl, rfl⟩ := runs_pure.1 h2
    refine pre ?_
    rw [show P.underlying t = some .string from hk]; rfl
  · rename_i e c he
    rw [he] at hk
    obtain ⟨rfl, rfl⟩ := runs_pure.1 h2
    refine pre ?_
    rw [show P.underlying t = some (.slice e) from hk]; rfl
  · rename_i e c src he
    rw [he] at hk
    simp only [runs_bind, runs_pure] at h2
    obtain ⟨_, l3, _, h3, ⟨rfl, rfl⟩, rfl⟩ := h2
    refine pre ?_
    rw [show P.underlying t = some (.slice e) from hk]
    exact bind_some.2 ⟨(), l3, [], chkQ_ok h3, rfl, rfl⟩
  · rename_i e c t' xs src he
    rw [he] at hk
    simp only [runs_bind, runs_pure] at h2
    obtain ⟨_, l3, _, h3, ⟨rfl, rfl⟩, rfl⟩ := h2
    refine pre ?_
    rw [show P.underlying t = some (.slice e) from hk]
    exact bind_some.2 ⟨(), l3, [], chkQ_ok h3, by rw [List.length_map]; rfl, rfl⟩
  · rename_i e c o f off len he
    rw [he] at hk
    obtain ⟨rfl, rfl⟩ := runs_pure.1 h2
    refine pre ?_
    rw [show P.underlying t = some (.slice e) from hk, intN_den]; rfl
  · rename_i n e he
    rw [he] at hk
    obtain ⟨rfl, rfl⟩ := runs_pure.1 h2
    refine pre ?_
    rw [show P.underlying t = some (.array n e) from hk]; rfl
  · exact (runs_fail.1 h2).elim
theorem fillV_ok : ∀ {parts : List (Nat × V G.El)} {fs : List (Nat × Nat)} {cells r : List (V G.El)}, (∀ p ∈ parts, okA p.2 = true) → fillV fs cells parts = some r → fillR P fs (cells.map (den1 G)) (parts.map fun p => (p.1, denV G p.2)) = some (r.map (den1 G))
  | [], fs, cells, r, _, h => by obtain rfl := Option.some.inj h; rfl
  | (i, v) :: ps, fs, cells, r, hp, h => by
    simp only [fillV] at h
    have hv : denV G v = denA G v := denV_okA (hp (i, v) (by simp))
    simp only [List.map_cons, fillR, hv, denA_cells, List.length_map]
    split at h
    · rename_i off n hf
      split at h
      · rename_i hc
        rw [hf]
        simp only
        rw [if_pos hc, ← splice_den]
        exact fillV_ok (fun p hm => hp p (by simp [hm])) h
      · cases h
    · cases h
theorem buildQ_ok (ok : SgOk P G) {t : TypeId} {parts : List (Nat × V G.El)} {w : V G.El} {l : List Nat} (h : (buildQ G t parts).runs lk w l) :
    (buildR P t (parts.map fun p => (p.1, denV G p.2))).run (lkT G lk) = some (denV G w, l) := by
  simp only [buildQ, runs_bind, runs_opt] at h
  obtain ⟨inf, _, _, ⟨hi, rfl⟩, ⟨z, _, _, ⟨hz, rfl⟩, ⟨fs, lf, _, hfs, ⟨_, _, _, hg, ⟨cs, _, _, ⟨hcs, rfl⟩, hw, rfl⟩, rfl⟩, rfl⟩, rfl⟩, rfl⟩ := h
  obtain ⟨rfl, rfl⟩ := runs_pure.1 hw
  obtain ⟨g1, rfl⟩ := runs_grd.1 hg
  have hi := ok.ti t inf hi
  simp only [Bool.and_eq_true, List.all_eq_true] at g1
  obtain ⟨⟨hz1, hz2⟩, hp⟩ := g1
  have hF : fieldsT P t = some fs ∧ lf = [] := by
    have hk := hi.kd
    split at hfs
    · rename_i fs' he
      rw [he] at hk
      obtain ⟨h1, h2⟩ := runs_opt.1 hfs
      exact ⟨hk.2 _ h1, h2⟩
    · rename_i n e he
      rw [he] at hk
      simp only [runs_bind, runs_opt, runs_pure] at hfs
      obtain ⟨ie, _, _, ⟨h1, rfl⟩, ⟨rfl, rfl⟩, rfl⟩ := hfs
      refine ⟨?_, rfl⟩
      have hk : P.underlying t = some (.array n e) := hk
      simp only [fieldsT, hk, (ok.ti e ie h1).sz]; rfl
    · exact (runs_fail.1 hfs).elim
  obtain ⟨hF, rfl⟩ := hF
  simp only [buildR]
  refine bind_some.2 ⟨denA G z, [], [], opt_some.2 ⟨hi.ze z hz, rfl⟩, bind_some.2 ⟨fs, [], [], opt_some.2 ⟨hF, rfl⟩, bind_some.2 ⟨(), [], [], guard_some.2 ⟨?_, rfl⟩, bind_some.2 ⟨cs.map (den1 G), [], [], opt_some.2 ⟨?_, rfl⟩, rfl, rfl⟩, rfl⟩, rfl⟩, rfl⟩
  · rw [denA_cells, all_cellT (List.all_eq_true.2 hz2)]
    simp only [Bool.true_and, List.all_map, List.all_eq_true, Function.comp]
    intro p hm
    obtain ⟨h1, h2⟩ := hp p hm
    rw [denV_okA h1, denA_cells]
    exact List.all_eq_true.1 (all_cellT (List.all_eq_true.2 h2))
  · rw [denA_cells]
    exact fillV_ok (fun p hm => (hp p hm).1) hcs
theorem elQ_ok (ok : SgOk P G) {e : Nat} {k : Nat} {v : V G.El} {y : G.El e} {l : List Nat} (h : (elQ G e k v).runs lk y l) :
    (close (denV G v)).run (lkT G lk) = some (G.enc e y, l) ∧ (G.cells e y).length = k := by
  simp only [elQ, runs_bind, runs_grd, runs_opt, beq_iff_eq, Bool.and_eq_true] at h
  obtain ⟨w, l1, _, h1, ⟨_, _, _, ⟨⟨⟨h2, hA⟩, hv⟩, rfl⟩, ⟨h3, rfl⟩, rfl⟩, rfl⟩ := h
  obtain ⟨h4, h5, h6⟩ := closeQ_ok h1
  rw [denV_okA hv]
  have hm := ok.mkC _ _ _ h3
  have hl : (cellsV w).length = (G.cells e y).length := by have := congrArg List.length hm; simpa using this
  refine ⟨?_, by rw [← hl, h2]⟩
  have : denA G w = G.enc e y := by
    rw [ok.enc, ← hA]
    by_cases hw : ∃ cs, w = .agg cs
    · obtain ⟨cs, rfl⟩ := hw
      exact congrArg T.agg hm
    · have h7 : isAgg w = false := by cases w <;> first | rfl | exact absurd ⟨_, rfl⟩ hw
      have hc : cellsV w = [w] := by cases w <;> first | rfl | exact absurd ⟨_, rfl⟩ hw
      have hd : denA G w = den1 G w := denA_not_agg fun cs e => hw ⟨cs, e⟩
      rw [hc] at hm
      rw [hd, h7, ← hm]; rfl
  rw [← this]
  simpa using h4
theorem setAllV_ok {e : Nat} : ∀ {ps : List (Nat × G.El e)} {xs : List (G.El e)}, (setAllV xs ps).map (G.enc e) = setAll (xs.map (G.enc e)) (ps.map fun p => (p.1, G.enc e p.2))
  | [], xs => rfl
  | (i, v) :: r, xs => by simp only [setAllV, List.map_cons, setAll]; rw [setAllV_ok, List.map_set]
theorem buildSliceQ_ok (ok : SgOk P G) {t : TypeId} {n : Nat} {parts : List (Nat × V G.El)} {base : Nat} {e : Ef G.El} {l : List Nat} (h : (buildSliceQ G t n parts base).runs lk e l) :
    (buildSliceR P t n (parts.map fun p => (p.1, denV G p.2)) base).run (lkT G lk) = some (denE G e, l) := by
  simp only [buildSliceQ, runs_bind, runs_opt, runs_grd, Bool.and_eq_true, decide_eq_true_eq] at h
  obtain ⟨ec, _, _, hec, ⟨ie, _, _, ⟨hie, rfl⟩, ⟨z, _, _, hz, ⟨_, _, _, ⟨⟨h1, h2⟩, rfl⟩, ⟨ps, l5, _, hps, ⟨zc, l7, _, hzc, ⟨_, _, _, ⟨hall, rfl⟩, hw, rfl⟩, rfl⟩, rfl⟩, rfl⟩, rfl⟩, rfl⟩, rfl⟩ := h
  obtain ⟨rfl, rfl⟩ := runs_pure.1 hw
  obtain ⟨rfl, he, hwd⟩ := elemQ_ok ok hec
  have hie := ok.ti _ _ hie
  obtain ⟨rfl, hz1, hz2, hz3⟩ := zeroQ_ok hz
  have hk : ie.k = G.w ec.2 := Option.some.inj (hie.sz.symm.trans hwd)
  obtain ⟨hzc1, hzc2⟩ := elQ_ok ok hzc
  have hP : (mapR (fun p : Nat × T => do let v ← close p.2; pure (p.1, v)) (parts.map fun p => (p.1, denV G p.2))).run (lkT G lk) = some (ps.map fun p => (p.1, G.enc ec.2 p.2), l5) := by
    refine mapQ_ok (a := fun p : Nat × V G.El => (p.1, denV G p.2)) (b := fun p : Nat × G.El ec.2 => (p.1, G.enc ec.2 p.2)) ?_ hps
    intro p q l hq
    simp only [runs_bind, runs_pure] at hq
    obtain ⟨y, l1, _, hy, ⟨rfl, rfl⟩, rfl⟩ := hq
    exact bind_some.2 ⟨_, l1, [], (elQ_ok ok hy).1, rfl, rfl⟩
  simp only [buildSliceR]
  refine bind_some.2 ⟨ec.1, [], _, opt_some.2 ⟨he, rfl⟩, bind_some.2 ⟨G.w ec.2, [], _, opt_some.2 ⟨hwd, rfl⟩, bind_some.2 ⟨denA G z, [], _, opt_some.2 ⟨hie.ze z hz1, rfl⟩, bind_some.2 ⟨(), [], _, guard_some.2 ⟨?_, rfl⟩, bind_some.2 ⟨_, l5, _, hP, bind_some.2 ⟨_, l7, _, by rw [← denV_okA hz2]; exact hzc1, bind_some.2 ⟨(), [], [], guard_some.2 ⟨?_, rfl⟩, pure_some.2 ⟨?_, rfl⟩, rfl⟩, rfl⟩, rfl⟩, rfl⟩, rfl⟩, rfl⟩, by simp⟩
  · rw [← hk]; simp [h1, h2]
  · rw [enc_width ok]
    simp only [List.all_map, Bool.and_eq_true, List.all_eq_true, Function.comp, beq_self_eq_true, and_true]
    intro p hp
    rw [enc_width ok]
    exact ⟨List.all_eq_true.1 hall p hp, by simp⟩
  · simp only [denE, denV, denA, den1, denWr, List.map_cons, List.map_nil, denO, N.v, rowsOf]
    rw [setAllV_ok, List.map_replicate]
theorem makeSliceQ_ok (ok : SgOk P G) {t : TypeId} {lv cv : V G.El} {base : Nat} {e : Ef G.El} {l : List Nat} (h : (makeSliceQ G t lv cv base).runs lk e l) :
    (makeSliceR P t (denV G lv) (denV G cv) base).run (lkT G lk) = some (denE G e, l) := by
  simp only [makeSliceQ, runs_bind, runs_opt, runs_grd, decide_eq_true_eq] at h
  obtain ⟨ec, _, _, hec, ⟨ie, _, _, ⟨hie, rfl⟩, ⟨z, _, _, hz, ⟨_, _, _, ⟨h1, rfl⟩, h2, rfl⟩, rfl⟩, rfl⟩, rfl⟩ := h
  obtain ⟨rfl, he, hwd⟩ := elemQ_ok ok hec
  have hie := ok.ti _ _ hie
  obtain ⟨rfl, hz1, hz2, hz3⟩ := zeroQ_ok hz
  have hk : ie.k = G.w ec.2 := Option.some.inj (hie.sz.symm.trans hwd)
  have fin : ∀ (kn km : IntKind) (n m : Int) (r : N) (l7 : List Nat), intOf (denV G lv) = some n → intOf (denV G cv) = some m → r.v = n.toNat → 0 ≤ n → n ≤ m → m * ie.bytes ≤ most → m ≤ most →
      (do let zc ← elQ G ec.2 ie.k z; pure ⟨.win base true (.l 0) r, [(base, .row true true true 0 ec.2 (List.replicate n.toNat zc) none)]⟩ : Q G.El (Ef G.El)).runs lk e l7 → (makeSliceR P t (denV G lv) (denV G cv) base).run (lkT G lk) = some (denE G e, l7) := by
    intro kn km n m r l7 hn hm hr g1 g2 g3 g4 hrun
    simp only [runs_bind] at hrun
    obtain ⟨zc, l8, _, hzc, hw, rfl⟩ := hrun
    obtain ⟨rfl, rfl⟩ := runs_pure.1 hw
    obtain ⟨hzc1, hzc2⟩ := elQ_ok ok hzc
    simp only [makeSliceR]
    refine bind_some.2 ⟨ec.1, [], _, opt_some.2 ⟨he, rfl⟩, bind_some.2 ⟨G.w ec.2, [], _, opt_some.2 ⟨hwd, rfl⟩, bind_some.2 ⟨denA G z, [], _, opt_some.2 ⟨hie.ze z hz1, rfl⟩, bind_some.2 ⟨ie.bytes, [], _, opt_some.2 ⟨hie.by_, rfl⟩, bind_some.2 ⟨n, [], _, opt_some.2 ⟨hn, rfl⟩, bind_some.2 ⟨m, [], _, opt_some.2 ⟨hm, rfl⟩, bind_some.2 ⟨(), [], _, guard_some.2 ⟨?_, rfl⟩, bind_some.2 ⟨_, l8, _, by rw [← denV_okA hz2]; exact hzc1, bind_some.2 ⟨(), [], [], guard_some.2 ⟨?_, rfl⟩, pure_some.2 ⟨?_, rfl⟩, rfl⟩, rfl⟩, rfl⟩, rfl⟩, rfl⟩, rfl⟩, rfl⟩, rfl⟩, rfl⟩
    · rw [← hk]; simp [h1, g1, g2, g3, g4]
    · rw [enc_width ok]; simp
    · simp only [denE, denV, denA, den1, denWr, List.map_cons, List.map_nil, denO, rowsOf, hr]
      rw [List.map_replicate]; rfl
  simp only [List.nil_append]
  cases lv with
  | il kn n =>
    cases cv with
    | il km m =>
      simp only [runs_bind, runs_grd, decide_eq_true_eq] at h2
      obtain ⟨_, _, _, ⟨⟨g1, g2, g3, g4⟩, rfl⟩, h3, rfl⟩ := h2
      exact fin kn km n m _ _ rfl rfl rfl g1 g2 g3 g4 (by simp only [runs_bind]; exact h3)
    | id km mm m =>
      simp only [runs_bind, runs_grd, runs_nd, decide_eq_true_eq] at h2
      obtain ⟨_, _, _, ⟨g1, rfl⟩, ⟨_, _, _, ⟨g2, rfl⟩, ⟨_, _, _, ⟨g3, rfl⟩, ⟨_, _, _, ⟨g4, rfl⟩, h3, rfl⟩, rfl⟩, rfl⟩, rfl⟩ := h2
      exact fin kn km n m _ _ rfl rfl rfl g1 g2 g3 g4 (by simp only [runs_bind]; exact h3)
    | _ => exact (runs_fail.1 h2).elim
  | id kn mn n =>
    cases cv with
    | il km m =>
      simp only [runs_bind, runs_grd, runs_nd, decide_eq_true_eq] at h2
      obtain ⟨_, _, _, ⟨g1, rfl⟩, ⟨_, _, _, ⟨g2, rfl⟩, ⟨_, _, _, ⟨⟨g3, g4⟩, rfl⟩, h3, rfl⟩, rfl⟩, rfl⟩ := h2
      exact fin kn km n m _ _ rfl rfl rfl g1 g2 g3 g4 (by simp only [runs_bind]; exact h3)
    | id km mm m =>
      simp only [runs_bind, runs_nd, decide_eq_true_eq] at h2
      obtain ⟨_, _, _, ⟨g1, rfl⟩, ⟨_, _, _, ⟨g2, rfl⟩, ⟨_, _, _, ⟨g3, rfl⟩, ⟨_, _, _, ⟨g4, rfl⟩, h3, rfl⟩, rfl⟩, rfl⟩, rfl⟩ := h2
      exact fin kn km n m _ _ rfl rfl rfl g1 g2 g3 g4 (by simp only [runs_bind]; exact h3)
    | _ => exact (runs_fail.1 h2).elim
  | _ => exact (runs_fail.1 h2).elim
theorem copyQ_ok (ok : SgOk P G) {ts : Array TypeId} {d x : V G.El} {base : Nat} {e : Ef G.El} {l : List Nat} (h : (copyQ G ts d x base).runs lk e l) :
    (copyR P ts (denV G d) (denV G x)).run (lkT G lk) = some (denE G e, l) := by
  simp only [copyQ, runs_bind, runs_opt] at h
  obtain ⟨t0, _, _, ⟨ht0, rfl⟩, ⟨ec, _, _, hec, ⟨ie, _, _, ⟨hie, rfl⟩, ⟨tx, _, _, ⟨htx, rfl⟩, ⟨ex, _, _, hex, ⟨ns, l9, _, hns, h2, rfl⟩, rfl⟩, rfl⟩, rfl⟩, rfl⟩, rfl⟩ := h
  obtain ⟨rfl, he, hw⟩ := elemQ_ok ok hec
  obtain ⟨rfl, hex, _⟩ := elemQ_ok ok hex
  have hie := ok.ti _ _ hie
  have hk : ie.k = G.w ec.2 := Option.some.inj (hie.sz.symm.trans hw)
  have hN : (elemsR (denV G x)).run (lkT G lk) = some (ns.1.map (G.enc ec.2), l9) ∧ (scOf (denV G x)).isNone = true := by
    rcases elemsQ_ok ok hns with ⟨h1, h2, ys, src, hx⟩ | ⟨h1, h2, ⟨o, a, b, hx⟩ | hx⟩ <;> exact ⟨h1, by rw [hx]; rfl⟩
  have pre : ∀ {r : Eff} {l2 : List Nat}, (match denV G d with
      | .win o off len => do
        let ob ← obj o
        guardR (ob.alive && ob.may && ob.row && ob.k == G.w ec.2 && decide (off + len ≤ ob.xs.length))
        let n := min (ns.1.map (G.enc ec.2)).length len
        pure ⟨.sc (.int .i64 n), [(o, { ob with ver := ob.ver + 1, xs := ob.xs.take off ++ (ns.1.map (G.enc ec.2)).take n ++ ob.xs.drop (off + n) })]⟩
      | .nil => pure ⟨.sc (.int .i64 0), []⟩
      | _ => .fail : Rd Eff).run (lkT G lk) = some (r, l2) → (copyR P ts (denV G d) (denV G x)).run (lkT G lk) = some (r, [] ++ ([] ++ ([] ++ ([] ++ ([] ++ (l9 ++ l2)))))) := by
    intro r l2 hr
    simp only [copyR]
    refine bind_some.2 ⟨ec.1, [], _, opt_some.2 ⟨by rw [ht0]; exact he, rfl⟩, bind_some.2 ⟨G.w ec.2, [], _, opt_some.2 ⟨hw, rfl⟩, bind_some.2 ⟨(), [], _, guard_some.2 ⟨hN.2, rfl⟩, bind_some.2 ⟨tx, [], _, opt_some.2 ⟨htx, rfl⟩, bind_some.2 ⟨_, l9, _, hN.1, bind_some.2 ⟨(), [], _, guard_some.2 ⟨?_, rfl⟩, hr, rfl⟩, rfl⟩, rfl⟩, rfl⟩, rfl⟩, by simp⟩
    rw [wid_enc ok, hex]; rfl
  cases d with
  | nil =>
    obtain ⟨rfl, rfl⟩ := runs_pure.1 h2
    exact pre rfl
  | win o full off len =>
    simp only [runs_bind, runs_get] at h2
    obtain ⟨x', _, _, ⟨hx, rfl⟩, h3, rfl⟩ := h2
    cases x' with
    | row al mw kp ver t xs last =>
      simp only [runs_bind, runs_grd, runs_opt, runs_nd, Bool.and_eq_true, widthQ, beq_iff_eq] at h3
      obtain ⟨_, _, _, ⟨⟨hal, hmw⟩, rfl⟩, ⟨_, _, _, ⟨hwt, rfl⟩, ⟨_, _, _, ⟨hlen, rfl⟩, ⟨zs, _, _, ⟨h5, rfl⟩, h6, rfl⟩, rfl⟩, rfl⟩, rfl⟩ := h3
      obtain ⟨rfl, rfl⟩ := runs_pure.1 h6
      obtain ⟨rfl, h8, h9⟩ := castL_ok h5
      refine pre ?_
      refine bind_some.2 ⟨denO G (lk o), [o], [], obj_some.2 ⟨rfl, rfl⟩, bind_some.2 ⟨(), [], [], guard_some.2 ⟨?_, rfl⟩, pure_some.2 ⟨?_, rfl⟩, rfl⟩, rfl⟩
      · rw [← hx, lenT]
        simp only [denO, hal, hmw, Bool.and_true, Bool.true_and, beq_self_eq_true, decide_eq_true_eq]
        exact hlen
      · rw [← hx]
        simp only [denE, denWr, List.map_cons, List.map_nil, denO, intN_den]
        rw [List.length_map]
        simp only [rowsOf, List.map_append, List.map_take, List.map_drop, h8, N.v]
    | _ => exact (runs_fail.1 h3).elim
  | _ => exact (runs_fail.1 h2).elim
end Go.Proofs.YtbfgmnjhikaagaaGreatDoor.PN
namespace Go.Proofs.YtbfgmnjhikaagaaGreatDoor.PN
open Go Go.Proofs.YtbfgmnjhikaagaaGreatDoor.PM
variable {G : Sg} {P : Program} {α β : Type} {lk : Nat → O G.El} {look : Nat → Ob}
theorem boolOf_some {v : V G.El} {b : Bool} (h : boolOf v = some b) : denV G v = .sc (.bool b) ∧ den1 G v = .sc (.bool b) ∧ isCell v = true := by
  cases v with
  | bl x => obtain rfl := Option.some.inj h; exact ⟨rfl, rfl, rfl⟩
  | bp n c d => obtain rfl := Option.some.inj h; cases n <;> exact ⟨rfl, rfl, rfl⟩
  | bb n x => obtain rfl := Option.some.inj h; cases n <;> exact ⟨rfl, rfl, rfl⟩
  | _ => cases h
theorem mkI_den (b : Bool) (k : IntKind) (nm : Nat) (x : Int) : denV G (mkI b k nm x) = .sc (.int k x) := by cases b <;> rfl
theorem foldB_den (v : V G.El) : denV G (foldB v) = denV G v := by
  cases v with
  | bp n c d => cases n <;> rfl
  | _ => rfl
theorem cmpI_ok {op : BinOp} {t : TypeId} {k : IntKind} {a b : Int} {v : V G.El} (h : cmpI op a b = some v) : opB op t (.int k a) (.int k b) = some (denV G v) := by
  cases op <;> simp only [cmpI] at h <;> first | (cases h; done) | skip
  all_goals obtain rfl := Option.some.inj h
  · exact ev_eql
  · exact ev_neq
  · exact ev_lss
  · exact ev_leq
  · exact ev_gtr
  · exact ev_geq
theorem ariI_ok {op : BinOp} {t : TypeId} {k : IntKind} {a b r : Int} (h : ariI op k a b = some r) : opB op t (.int k a) (.int k b) = some (.sc (.int k r)) := by
  cases op <;> simp only [ariI] at h <;> first | (cases h; done) | skip
  all_goals obtain rfl := Option.some.inj h
  · exact ev_add
  · exact ev_sub
  · exact ev_mul
  · exact ev_and
  · exact ev_or
  · exact ev_xor
  · exact ev_andNot
theorem divI_ok {op : BinOp} {t : TypeId} {k : IntKind} {a b r : Int} (hb : b ≠ 0) (h : divI op k a b = some r) : opB op t (.int k a) (.int k b) = some (.sc (.int k r)) := by
  cases op <;> simp only [divI] at h <;> first | (cases h; done) | skip
  all_goals obtain rfl := Option.some.inj h
  · exact ev_quo hb
  · exact ev_rem hb
theorem shI_ok {op : BinOp} {t : TypeId} {k k' : IntKind} {a b r : Int} (hb : 0 ≤ b) (h : shI op k a b = some r) : opB op t (.int k a) (.int k' b) = some (.sc (.int k r)) := by
  cases op <;> simp only [shI] at h <;> first | (cases h; done) | skip
  all_goals obtain rfl := Option.some.inj h
  · exact ev_shl hb
  · exact ev_shr hb
theorem binI_ok {op : BinOp} {t : TypeId} {base : Nat} {k k' : IntKind} {a b : Int} {la lb : Bool} {w : V G.El} {l : List Nat} (h : (binI op base k a la k' b lb : Q G.El (V G.El)).runs lk w l) :
    l = [] ∧ opB op t (.int k a) (.int k' b) = some (denV G w) := by
  unfold binI at h
  split at h
  · rename_i r hr
    simp only [runs_bind, runs_pure] at h
    obtain ⟨_, l1, _, h1, ⟨rfl, rfl⟩, rfl⟩ := h
    have h2 : l1 = [] ∧ 0 ≤ b := by
      cases lb with
      | true => have := runs_grd.1 h1; exact ⟨this.2, of_decide_eq_true this.1⟩
      | false => have := runs_nd.1 h1; exact ⟨this.2, this.1⟩
    exact ⟨by rw [h2.1]; rfl, by rw [mkI_den]; exact shI_ok h2.2 hr⟩
  · simp only [runs_bind, runs_grd, decide_eq_true_eq] at h
    obtain ⟨_, _, _, ⟨rfl, rfl⟩, h1, rfl⟩ := h
    split at h1
    · rename_i v hv
      obtain ⟨rfl, rfl⟩ := runs_pure.1 h1
      refine ⟨rfl, ?_⟩
      rw [cmpI_ok hv]
      cases la && lb with
      | true => exact congrArg some (foldB_den v).symm
      | false => rfl
    · split at h1
      · rename_i r hr
        obtain ⟨rfl, rfl⟩ := runs_pure.1 h1
        exact ⟨rfl, by rw [mkI_den]; exact ariI_ok hr⟩
      · split at h1
        · rename_i r hr
          simp only [runs_bind, runs_pure] at h1
          obtain ⟨_, l1, _, h1, ⟨rfl, rfl⟩, rfl⟩ := h1
          have h2 : l1 = [] ∧ b ≠ 0 := by
            cases lb with
            | true => have := runs_grd.1 h1; exact ⟨this.2, by simpa using this.1⟩
            | false => have := runs_nd.1 h1; exact ⟨this.2, this.1⟩
          exact ⟨by rw [h2.1]; rfl, by rw [mkI_den]; exact divI_ok h2.2 hr⟩
        · exact (runs_fail.1 h1).elim
theorem binS_ok {op : BinOp} {t : TypeId} {a b : ByteArray} {w : V G.El} {l : List Nat} (h : (binS op a b : Q G.El (V G.El)).runs lk w l) : l = [] ∧ opB op t (.string a) (.string b) = some (denV G w) := by
  cases op with
  | eql => obtain ⟨rfl, rfl⟩ := runs_ret.1 h; exact ⟨rfl, ev_seql⟩
  | neq => obtain ⟨rfl, rfl⟩ := runs_ret.1 h; exact ⟨rfl, ev_sneq⟩
  | lss => obtain ⟨rfl, rfl⟩ := runs_ret.1 h; exact ⟨rfl, ev_slss⟩
  | geq => obtain ⟨rfl, rfl⟩ := runs_ret.1 h; exact ⟨rfl, ev_sgeq⟩
  | leq => obtain ⟨rfl, rfl⟩ := runs_ret.1 h; exact ⟨rfl, ev_sleq⟩
  | gtr => obtain ⟨rfl, rfl⟩ := runs_ret.1 h; exact ⟨rfl, ev_sgtr⟩
  | add =>
    simp only [binS, runs_bind, runs_nd, runs_pure] at h
    obtain ⟨_, _, _, ⟨h1, rfl⟩, ⟨rfl, rfl⟩, rfl⟩ := h
    exact ⟨rfl, ev_sadd h1⟩
  | _ => exact (runs_fail.1 h).elim
def eqOpT (op : BinOp) (b : Bool) : Rd T := match op with
  | .eql => pure (.sc (.bool b))
  | .neq => pure (.sc (.bool !b))
  | _ => .fail
theorem eqOp_ok {op : BinOp} {b : Bool} {w : V G.El} {l : List Nat} (h : (eqOp op b : Q G.El (V G.El)).runs lk w l) : (eqOpT op b).run look = some (denV G w, l) := by
  cases op with
  | eql => obtain ⟨rfl, rfl⟩ := runs_ret.1 h; rfl
  | neq => obtain ⟨rfl, rfl⟩ := runs_ret.1 h; rfl
  | _ => exact (runs_fail.1 h).elim
theorem kdOf_ok (ok : SgOk P G) (t : TypeId) : KdOk P G t (kdOf G t) := by
  unfold kdOf
  split
  · rename_i i hi; exact (ok.ti t i hi).kd
  · trivial
theorem eqScV_ok (ok : SgOk P G) {t : TypeId} {x y : V G.El} {b : Bool} (h : eqScV G t x y = some b) : eqSc P t (den1 G x) (den1 G y) = some b := by
  have hk := kdOf_ok ok t
  unfold eqScV at h
  split at h
  · rename_i k0 k a k' b' he
    rw [he] at hk
    simp only [eqSc, den1, show P.underlying t = some (.int k0) from hk]; exact h
  · rename_i k0 k a k' nm b' he
    rw [he] at hk
    simp only [eqSc, den1, show P.underlying t = some (.int k0) from hk]; exact h
  · rename_i k0 k nm a k' b' he
    rw [he] at hk
    simp only [eqSc, den1, show P.underlying t = some (.int k0) from hk]; exact h
  · rename_i k0 k nm a k' nm' b' he
    rw [he] at hk
    simp only [eqSc, den1, show P.underlying t = some (.int k0) from hk]; exact h
  · rename_i he
    rw [he] at hk
    split at h
    · rename_i a b' ha hb
      obtain rfl := Option.some.inj h
      rw [(boolOf_some ha).2.1, (boolOf_some hb).2.1]
      simp only [eqSc, show P.underlying t = some .bool from hk]
    · cases h
  · rename_i a b' he
    rw [he] at hk
    obtain rfl := Option.some.inj h
    simp only [eqSc, den1, show P.underlying t = some .string from hk]
  · cases h
theorem eqFsV_ok (ok : SgOk P G) {xs ys : List (V G.El)} : ∀ {fs : List (Nat × TypeId)} {b : Bool}, eqFsV G xs ys fs = some b → eqFs P (xs.map (den1 G)) (ys.map (den1 G)) fs = some b
  | [], b, h => h
  | (o, t) :: r, b, h => by
    simp only [eqFsV] at h
    simp only [eqFs, List.getElem?_map]
    cases hx : xs[o]? with
    | none => rw [hx] at h; cases h
    | some x =>
      cases hy : ys[o]? with
      | none => rw [hx, hy] at h; cases h
      | some y =>
        rw [hx, hy] at h
        simp only at h
        cases h1 : eqScV G t x y with
        | none => rw [h1] at h; cases h
        | some a =>
          cases h2 : eqFsV G xs ys r with
          | none => rw [h1, h2] at h; cases h
          | some b' =>
            rw [h1, h2] at h
            simp only [Option.map_some, eqScV_ok ok h1, eqFsV_ok ok h2]
            cases r with
            | nil =>
              obtain rfl := Option.some.inj h
              obtain rfl := Option.some.inj h2
              simp
            | cons p q => exact h
def binT (P : Program) (op : BinOp) (t : TypeId) (a b : T) (y : Operand) : Rd T := match a, b with
    | .sc (.bool a), .sc (.bool b) => do
      let r ← Rd.ofOption (eqSc P t (.sc (.bool a)) (.sc (.bool b)))
      eqOpT op r
    | .sc a, .sc b => if plainB a && plainB b then Rd.ofOption ((pureOf (binOp op t a b)).bind scP) else .fail
    | .ifc b, .ifc _ => (match P.underlying t, y, op with
      | some (.interface _), .const .nilIface, .eql => pure (.sc (.bool !b))
      | some (.interface _), .const .nilIface, .neq => pure (.sc (.bool b))
      | _, _, _ => .fail)
    | .agg xs, .agg ys => do
      let fs ← Rd.ofOption (eqT P t)
      let b ← Rd.ofOption (eqFs P xs ys fs)
      eqOpT op b
    | _, _ => .fail
theorem isNilIface_ok {y : Operand} (h : isNilIface y = true) : y = .const .nilIface := by
  unfold isNilIface at h
  split at h
  · rfl
  · cases h
theorem iface_ok {kd : Kd} {t : TypeId} (hk : KdOk P G t kd) (h : isIface kd = true) : ∃ ms, P.underlying t = some (.interface ms) := by
  cases kd <;> first | exact hk | cases h
theorem binQ_ok (ok : SgOk P G) {base : Nat} {op : BinOp} {t : TypeId} {x y w : V G.El} {yo : Operand} {l : List Nat} (h : (binQ G base op t x y yo).runs lk w l) : (binT P op t (denV G x) (denV G y) yo).run look = some (denV G w, l) := by
  unfold binQ at h
  split at h
  · rename_i k a la k' b lb hx hy
    obtain ⟨rfl, h1⟩ := binI_ok (t := t) h
    rw [(intV_some hx).2, (intV_some hy).2]
    simp only [binT, plainB, Bool.and_self, if_true]
    exact opt_some.2 ⟨h1, rfl⟩
  · split at h
    · rename_i a b hx hy
      simp only [runs_bind, runs_opt, runs_grd] at h
      obtain ⟨inf, _, _, ⟨hi, rfl⟩, ⟨_, _, _, ⟨h1, rfl⟩, h2, rfl⟩, rfl⟩ := h
      have hk := (ok.ti t inf hi).kd
      have hu : P.underlying t = some .bool := by
        cases hkd : inf.kd <;> rw [hkd] at h1 hk <;> first | exact hk | cases h1
      rw [(boolOf_some hx).1, (boolOf_some hy).1]
      simp only [binT, eqSc, hu]
      exact bind_some.2 ⟨a == b, [], l, opt_some.2 ⟨rfl, rfl⟩, eqOp_ok h2, rfl⟩
    · split at h
      · obtain ⟨rfl, h1⟩ := binS_ok (t := t) h
        simp only [denV, denA, den1, binT, plainB, Bool.and_self, if_true]
        exact opt_some.2 ⟨h1, rfl⟩
      · simp only [runs_bind, runs_opt] at h
        obtain ⟨inf, _, _, ⟨hi, rfl⟩, ⟨fs, _, _, ⟨h1, rfl⟩, ⟨b, _, _, ⟨h2, rfl⟩, h3, rfl⟩, rfl⟩, rfl⟩ := h
        have hi := ok.ti t inf hi
        simp only [denV, denA, binT]
        exact bind_some.2 ⟨fs, [], l, opt_some.2 ⟨hi.eq _ h1, rfl⟩, bind_some.2 ⟨b, [], l, opt_some.2 ⟨eqFsV_ok ok h2, rfl⟩, eqOp_ok h3, rfl⟩, rfl⟩
      · simp only [runs_bind, runs_opt, runs_grd, Bool.and_eq_true] at h
        obtain ⟨inf, _, _, ⟨hi, rfl⟩, ⟨_, _, _, ⟨⟨h1, h2⟩, rfl⟩, h3, rfl⟩, rfl⟩ := h
        obtain ⟨ms, hu⟩ := iface_ok (ok.ti t inf hi).kd h2
        obtain rfl := isNilIface_ok h1
        simp only [denV, denA, den1, binT, hu]
        cases op with
        | eql => obtain ⟨rfl, rfl⟩ := runs_ret.1 h3; rfl
        | neq => obtain ⟨rfl, rfl⟩ := runs_ret.1 h3; simp [denV, denA, den1]; rfl
        | _ => exact (runs_fail.1 h3).elim
      · simp only [runs_bind, runs_opt, runs_grd, Bool.and_eq_true] at h
        obtain ⟨inf, _, _, ⟨hi, rfl⟩, ⟨_, _, _, ⟨⟨h1, h2⟩, rfl⟩, h3, rfl⟩, rfl⟩ := h
        obtain ⟨ms, hu⟩ := iface_ok (ok.ti t inf hi).kd h2
        obtain rfl := isNilIface_ok h1
        simp only [denV, denA, den1, binT, hu]
        cases op with
        | eql => obtain ⟨rfl, rfl⟩ := runs_pure.1 h3; rfl
        | neq => obtain ⟨rfl, rfl⟩ := runs_pure.1 h3; rfl
        | _ => exact (runs_fail.1 h3).elim
      · exact (runs_fail.1 h).elim
def unT (op : UnOp) (x : T) : Rd T := match x with
    | .sc a => if plainB a then Rd.ofOption ((pureOf (Op.unary op a)).bind scP) else .fail
    | _ => .fail
theorem unQ_ok {base : Nat} {op : UnOp} {x w : V G.El} {l : List Nat} (h : (unQ base op x : Q G.El (V G.El)).runs lk w l) : (unT op (denV G x)).run look = some (denV G w, l) := by
  cases op with
  | not =>
    obtain ⟨h1, rfl⟩ := runs_opt.1 h
    have key : ∃ b, denV G x = .sc (.bool b) ∧ denV G w = .sc (.bool !b) := by
      cases x with
      | bl b => obtain rfl := Option.some.inj h1; exact ⟨b, rfl, rfl⟩
      | bp n c d => obtain rfl := Option.some.inj h1; cases n <;> exact ⟨_, rfl, by simp [denV, denA, den1]⟩
      | bb n b => obtain rfl := Option.some.inj h1; cases n <;> exact ⟨_, rfl, by simp [denV, denA, den1]⟩
      | _ => cases h1
    obtain ⟨b, h2, h3⟩ := key
    rw [h2, h3]
    simp only [unT, plainB, if_true]
    exact opt_some.2 ⟨ev_not, rfl⟩
  | neg =>
    simp only [unQ] at h
    split at h
    · rename_i k a la hx
      obtain ⟨rfl, rfl⟩ := runs_ret.1 h
      rw [(intV_some hx).2, mkI_den]
      simp only [unT, plainB, if_true]
      exact opt_some.2 ⟨ev_neg, rfl⟩
    · exact (runs_fail.1 h).elim
  | xor =>
    simp only [unQ] at h
    split at h
    · rename_i k a la hx
      obtain ⟨rfl, rfl⟩ := runs_ret.1 h
      rw [(intV_some hx).2, mkI_den]
      simp only [unT, plainB, if_true]
      exact opt_some.2 ⟨ev_unxor, rfl⟩
    · exact (runs_fail.1 h).elim
  | plus => exact (runs_fail.1 h).elim
theorem minQ_den {base : Nat} {x y w : V G.El} {mx : Bool} {l : List Nat} (h : (minQ base x y mx : Q G.El (V G.El)).runs lk w l) :
    l = [] ∧ ∃ k a b, denV G x = .sc (.int k a) ∧ denV G y = .sc (.int k b) ∧ denV G w = .sc (.int k (if mx = true then maxI a b else minI a b)) := by
  simp only [minQ] at h
  split at h
  · rename_i k a la k' b lb hx hy
    simp only [runs_bind, runs_grd, runs_pure, decide_eq_true_eq] at h
    obtain ⟨_, _, _, ⟨rfl, rfl⟩, ⟨rfl, rfl⟩, rfl⟩ := h
    refine ⟨rfl, k, a, b, (intV_some hx).2, (intV_some hy).2, ?_⟩
    rw [mkI_den]; cases mx <;> rfl
  · exact (runs_fail.1 h).elim
theorem ev_max {ts : Array TypeId} {ty : TypeId} {k k' : IntKind} {a b : Int} : (pureOf (Builtin.max_ ts ty #[.int k a, .int k' b])).bind scP = some (.sc (.int k (maxI a b))) := by
  have : Builtin.max_ ts ty #[.int k a, .int k' b] = pure (.int k (if a < b then b else a)) := by simp [Builtin.max_, Builtin.max2]
  rw [this]; rfl
end Go.Proofs.YtbfgmnjhikaagaaGreatDoor.PN
namespace Go.Proofs.YtbfgmnjhikaagaaGreatDoor.PN
open Go Go.Proofs.YtbfgmnjhikaagaaGreatDoor.PM
variable {G : Sg} {P : Program} {α β : Type} {lk : Nat → O G.El} {look : Nat → Ob}
theorem flatMap_same {α β : Type} {f g : α → List β} {l : List α} (h : ∀ a ∈ l, f a = g a) : l.flatMap f = l.flatMap g := by
  induction l with
  | nil => rfl
  | cons a r ih => rw [List.flatMap_cons, List.flatMap_cons, h a (by simp), ih fun b hb => h b (by simp [hb])]
theorem refs1_den (v : V G.El) : refs1 (den1 G v) = refs1V v := by
  cases v with
  | bp n c d => cases n <;> rfl
  | bb n x => cases n <;> rfl
  | fn f caps =>
    simp only [den1, refs1, refs1V, List.flatMap_map]
    exact flatMap_same fun c _ => by cases c <;> rfl
  | _ => rfl
theorem refs_den (v : V G.El) : refs (denV G v) = refsV v := by
  cases v with
  | tup ts =>
    simp only [denV, refs, refsV, List.flatMap_map]
    refine flatMap_same fun t _ => ?_
    cases t with
    | agg cs =>
      simp only [denA, List.flatMap_map]
      exact flatMap_same fun c _ => refs1_den c
    | bp n c d => cases n <;> rfl
    | bb n x => cases n <;> rfl
    | fn f caps => exact refs1_den (.fn f caps)
    | _ => rfl
  | agg cs =>
    simp only [denV, denA, refs, refsV, List.flatMap_map]
    exact flatMap_same fun c _ => refs1_den c
  | rp t x j src => rfl
  | bp n c d => cases n <;> rfl
  | bb n x => cases n <;> rfl
  | fn f caps => exact refs1_den (.fn f caps)
  | _ => rfl
def capT (f : Nat → Option Nat) : T → Option T
  | .ptr o i j => (f o).map fun o' => T.ptr o' i j
  | _ => none
theorem mapM_caps (f : Nat → Option Nat) : ∀ caps : List (V G.El), (caps.map denP).mapM (capT f) = (caps.mapM (capV f)).map (fun cs => cs.map denP)
  | [] => rfl
  | c :: r => by
    have ih := mapM_caps f r
    rw [List.map_cons, List.mapM_cons, List.mapM_cons, ih]
    have h1 : capT f (denP c) = (capV f c).map denP := by
      cases c with
      | ptr o i j => simp only [denP, capT, capV]; cases f o <;> rfl
      | _ => rfl
    rw [h1]
    cases capV f c with
    | none => rfl
    | some a =>
      cases r.mapM (capV f) with
      | none => rfl
      | some b => rfl
theorem mapC_fn {f : Nat → Option Nat} {sg : Src → Option Src} {h : FuncId} {caps : List T} : mapC f sg (.fn h caps) = match caps.mapM (capT f) with | some cs => .fn h cs | none => .dead := rfl
variable {f : Nat → Option Nat} {sg : Src → Option Src}
theorem mapC_den (v : V G.El) : den1 G (mapVC f sg v) = mapC f sg (den1 G v) := by
  cases v with
  | bp n c d => cases n <;> rfl
  | bb n x => cases n <;> rfl
  | s0 src => simp only [mapVC, den1, mapC]; cases sg src <;> rfl
  | sl t xs src => simp only [mapVC, den1, mapC]; cases sg src <;> rfl
  | win o full off len => simp only [mapVC, den1, mapC]; cases f o <;> rfl
  | ptr o i j => simp only [mapVC, den1, mapC]; cases f o <;> rfl
  | rp t x j src => simp only [mapVC]; cases sg src <;> rfl
  | fn h caps =>
    simp only [mapVC, den1]
    rw [mapC_fn, mapM_caps]
    cases caps.mapM (capV f) <;> rfl
  | _ => rfl
theorem mapVC_agg (v : V G.El) : ∀ cs, mapVC f sg v ≠ .agg cs := by
  intro cs h
  cases v with
  | s0 src => simp only [mapVC] at h; split at h <;> cases h
  | sl t xs src => simp only [mapVC] at h; split at h <;> cases h
  | win o full off len => simp only [mapVC] at h; split at h <;> cases h
  | ptr o i j => simp only [mapVC] at h; split at h <;> cases h
  | rp t x j src => simp only [mapVC] at h; split at h <;> cases h
  | fn h' caps => simp only [mapVC] at h; split at h <;> cases h
  | _ => cases h
theorem mapA_not {t : T} (h : ∀ cs, t ≠ .agg cs) : mapA f sg t = mapC f sg t := by cases t <;> first | rfl | exact absurd rfl (h _)
theorem mapV_not {t : T} (h : ∀ cs, t ≠ .tup cs) : mapV f sg t = mapA f sg t := by cases t <;> first | rfl | exact absurd rfl (h _)
theorem mapA_den (v : V G.El) : denA G (mapVA f sg v) = mapA f sg (denA G v) := by
  by_cases h : ∃ cs, v = .agg cs
  · obtain ⟨cs, rfl⟩ := h
    simp only [mapVA, denA, mapA, List.map_map]
    refine congrArg T.agg (List.map_congr_left fun c _ => ?_)
    simp only [Function.comp]
    rw [mapC_den, den1_cell1]
  · have h1 : denA G v = den1 G v := denA_not_agg fun cs e => h ⟨cs, e⟩
    have h2 : mapVA f sg v = mapVC f sg v := by cases v <;> first | rfl | exact absurd ⟨_, rfl⟩ h
    rw [h1, h2, mapA_not (den1_agg v), denA_not_agg (mapVC_agg v), mapC_den]
theorem denA_tup : ∀ (v : V G.El) ts, denA G v ≠ .tup ts := by
  intro v ts h
  by_cases hv : ∃ cs, v = .agg cs
  · obtain ⟨cs, rfl⟩ := hv; cases h
  · rw [denA_not_agg fun cs e => hv ⟨cs, e⟩] at h; exact den1_tup v ts h
theorem mapVA_ok (v : V G.El) : denV G (mapVA f sg v) = match v with | .rp t x j src => (match sg src with | some s => .rp (G.enc t x) j s | none => .dead) | v => denA G (mapVA f sg v) := by
  cases v with
  | rp t x j src => simp only [mapVA, mapVC]; cases sg src <;> rfl
  | s0 src => simp only [mapVA, mapVC]; cases sg src <;> rfl
  | sl t xs src => simp only [mapVA, mapVC]; cases sg src <;> rfl
  | win o full off len => simp only [mapVA, mapVC]; cases f o <;> rfl
  | ptr o i j => simp only [mapVA, mapVC]; cases f o <;> rfl
  | fn h' caps => simp only [mapVA, mapVC]; cases caps.mapM (capV f) <;> rfl
  | _ => rfl
theorem mapV_gen (v : V G.El) (h1 : denV G v = denA G v) (h2 : mapVV f sg v = mapVA f sg v) (h3 : denV G (mapVA f sg v) = denA G (mapVA f sg v)) : denV G (mapVV f sg v) = mapV f sg (denV G v) := by
  rw [h1, h2, h3, mapA_den, mapV_not (denA_tup v)]
theorem mapV_den (v : V G.El) : denV G (mapVV f sg v) = mapV f sg (denV G v) := by
  cases v with
  | tup ts =>
    simp only [mapVV, denV, mapV, List.map_map]
    exact congrArg T.tup (List.map_congr_left fun t _ => mapA_den t)
  | rp t x j src =>
    show denV G (mapVA f sg (.rp t x j src)) = _
    rw [mapVA_ok]; rfl
  | bp n c d => cases n <;> rfl
  | bb n x => cases n <;> rfl
  | _ => exact mapV_gen _ rfl rfl (mapVA_ok _)
theorem mapO_den (x : O G.El) : denO G (mapVO f sg x) = mapOb f sg (denO G x) := by
  cases x with
  | row a m k v t xs last => rfl
  | gone => rfl
  | box a m v k g cs =>
    simp only [mapVO, denO, mapOb, Bool.false_eq_true, if_false, List.map_cons, List.map_nil, List.map_map]
    have : (fun c => den1 G (mapVC f sg (cell1 c))) = fun c : V G.El => mapC f sg (den1 G c) := by funext c; rw [mapC_den, den1_cell1]
    have h2 : List.map (den1 G ∘ fun c => mapVC f sg (cell1 c)) cs = (cs.map (den1 G)).map (mapC f sg) := by rw [List.map_map]; exact List.map_congr_left fun c _ => congrFun this c
    rw [h2]
    have key : ∀ l : List (V G.El), wrapT g ((l.map (den1 G)).map (mapC f sg)) = mapA f sg (wrapT g (l.map (den1 G))) := by
      intro l
      cases g with
      | true => rfl
      | false =>
        match l with
        | [] => rfl
        | [c] => exact (mapA_not (den1_agg c)).symm
        | _ :: _ :: _ => rfl
    rw [key]
theorem setVer_den (x : O G.El) (n : Nat) (h : x.born = true ∨ n = 0) : denO G (x.setVer n) = { denO G x with ver := n } := by
  cases x with
  | gone =>
    rcases h with h | rfl
    · cases h
    · rfl
  | _ => rfl
theorem keepAs_den (x y : O G.El) : denO G (keepAs x y) = denO G y := by cases x <;> cases y <;> rfl
theorem verOfO_den (xs : List (O G.El)) (j : Nat) : verOfO xs j = verOf (xs.map (denO G)) j := by
  simp only [verOfO, verOf, List.getElem?_map, Option.map_map]
  congr 2
  funext x; exact (ver_den x).symm
theorem backSO_den (L : List Nat) (base : Nat) (lv objs : List (O G.El)) (S : Src) : backSO L base lv objs S = backS L base (lv.map (denO G)) (objs.map (denO G)) S := by
  funext src
  simp only [backSO, backS, verOfO_den, List.length_map]
theorem flatO_den (ok : SgOk P G) {x : O G.El} (h : flatO G x = true) : (!(denO G x).row || flatL (denO G x).xs) = true := by
  cases x with
  | row a m k v t xs last => simp only [denO, Bool.not_true, Bool.false_or]; exact flatL_enc ok h _
  | _ => rfl
theorem isPtr_den (caps : List (V G.El)) : (caps.map denP).all (fun c => match c with | .ptr .. => true | _ => false) = caps.all isPtr := by
  rw [List.all_map]
  congr 1
  funext c
  cases c <;> rfl
theorem pass1_view {lent : Bool} {t : T} (h1 : ∀ o a b, lent = true → t ≠ .win o a b) (h2 : lent = true → t ≠ .nil) (h3 : lent = true → t ≠ .dead) (h4 : ∀ o i j, t ≠ .ptr o i j) (h5 : ∀ f c, t ≠ .fn f c) :
    pass1 lent t = (do match ← view1 t with | .sl xs src => pure (.sl xs [], src) | t => pure (t, []) : Rd (T × Src)) := by
  cases t with
  | win o a b => cases lent with
    | true => exact absurd rfl (h1 o a b rfl)
    | false => rfl
  | nil => cases lent with
    | true => exact absurd rfl (h2 rfl)
    | false => rfl
  | dead => cases lent with
    | true => exact absurd rfl (h3 rfl)
    | false => rfl
  | ptr o i j => exact absurd rfl (h4 o i j)
  | fn f c => exact absurd rfl (h5 f c)
  | _ => cases lent <;> rfl
theorem passQ1_ok {lent : Bool} {v : V G.El} {r : V G.El × Src} {l : List Nat} (h : (passQ1 lent v).runs lk r l) : (pass1 lent (den1 G v)).run (lkT G lk) = some ((den1 G r.1, r.2), l) ∧ okA r.1 = true ∧ (∀ cs, r.1 ≠ .agg cs) ∧ (∀ cs, v ≠ .agg cs) ∧ (∀ cs, v ≠ .tup cs) ∧ (∀ t x j s, v ≠ .rp t x j s) := by
  have view : ∀ (hv : (do let u ← viewQ v; pure (passR u) : Q G.El (V G.El × Src)).runs lk r l)
      (h1 : ∀ o a b, lent = true → den1 G v ≠ .win o a b) (h2 : lent = true → den1 G v ≠ .nil) (h3 : lent = true → den1 G v ≠ .dead) (h4 : ∀ o i j, den1 G v ≠ .ptr o i j) (h5 : ∀ f c, den1 G v ≠ .fn f c),
      (pass1 lent (den1 G v)).run (lkT G lk) = some ((den1 G r.1, r.2), l) ∧ okA r.1 = true ∧ (∀ cs, r.1 ≠ .agg cs) := by
    intro hv h1 h2 h3 h4 h5
    simp only [runs_bind, runs_pure] at hv
    obtain ⟨u, l1, _, hu, ⟨rfl, rfl⟩, rfl⟩ := hv
    obtain ⟨h7, h8⟩ := viewQ_ok hu
    rw [pass1_view h1 h2 h3 h4 h5]
    refine ⟨bind_some.2 ⟨_, l1, [], h7, ?_, rfl⟩, ?_, ?_⟩
    · cases u with
      | bp n c d => cases n <;> rfl
      | bb n x => cases n <;> rfl
      | _ => first | rfl | cases h8
    · cases u <;> first | rfl | cases h8
    · intro cs e
      cases u <;> first | (cases e; done) | cases h8
  have nots : (∃ cs, v = .agg cs) ∨ (∃ cs, v = .tup cs) ∨ (∃ t x j s, v = .rp t x j s) → False := by
    rintro (⟨cs, rfl⟩ | ⟨cs, rfl⟩ | ⟨t, x, j, s, rfl⟩)
    · cases lent <;> · simp only [passQ1, runs_bind, viewQ, runs_fail] at h; obtain ⟨_, _, _, h, _⟩ := h; exact h
    · cases lent <;> · simp only [passQ1, runs_bind, viewQ, runs_fail] at h; obtain ⟨_, _, _, h, _⟩ := h; exact h
    · cases lent <;> · simp only [passQ1, runs_bind, viewQ, runs_fail] at h; obtain ⟨_, _, _, h, _⟩ := h; exact h
  suffices hs : (pass1 lent (den1 G v)).run (lkT G lk) = some ((den1 G r.1, r.2), l) ∧ okA r.1 = true ∧ (∀ cs, r.1 ≠ .agg cs) from
    ⟨hs.1, hs.2.1, hs.2.2, fun cs e => nots (.inl ⟨cs, e⟩), fun cs e => nots (.inr (.inl ⟨cs, e⟩)), fun t x j s e => nots (.inr (.inr ⟨t, x, j, s, e⟩))⟩
  cases v with
  | ptr o i j => obtain ⟨rfl, rfl⟩ := runs_ret.1 h; cases lent <;> exact ⟨rfl, rfl, fun cs e => by cases e⟩
  | fn f caps =>
    simp only [passQ1, runs_bind, runs_grd, runs_pure] at h
    obtain ⟨_, _, _, ⟨h1, rfl⟩, ⟨rfl, rfl⟩, rfl⟩ := h
    refine ⟨?_, rfl, fun cs e => by cases e⟩
    have : (do guardR ((caps.map denP).all fun c => match c with | .ptr .. => true | _ => false); pure (T.fn f (caps.map denP), []) : Rd (T × Src)).run (lkT G lk) = some ((T.fn f (caps.map denP), []), []) :=
      bind_some.2 ⟨(), [], [], guard_some.2 ⟨by rw [isPtr_den]; exact h1, rfl⟩, rfl, rfl⟩
    cases lent <;> exact this
  | win o full off len =>
    cases lent with
    | true => obtain ⟨rfl, rfl⟩ := runs_ret.1 h; exact ⟨rfl, rfl, fun cs e => by cases e⟩
    | false => exact view h (fun _ _ _ e => by cases e) (fun e => by cases e) (fun e => by cases e) (fun _ _ _ e => by cases e) (fun _ _ e => by cases e)
  | nil =>
    cases lent with
    | true => obtain ⟨rfl, rfl⟩ := runs_ret.1 h; exact ⟨rfl, rfl, fun cs e => by cases e⟩
    | false => exact view h (fun _ _ _ e => by cases e) (fun e => by cases e) (fun e => by cases e) (fun _ _ _ e => by cases e) (fun _ _ e => by cases e)
  | dead =>
    cases lent with
    | true => obtain ⟨rfl, rfl⟩ := runs_ret.1 h; exact ⟨rfl, rfl, fun cs e => by cases e⟩
    | false => exact view h (fun _ _ _ e => by cases e) (fun e => by cases e) (fun e => by cases e) (fun _ _ _ e => by cases e) (fun _ _ e => by cases e)
  | bp n c d => cases lent <;> cases n <;> exact view h (fun _ _ _ _ e => by cases e) (fun _ e => by cases e) (fun _ e => by cases e) (fun _ _ _ e => by cases e) (fun _ _ e => by cases e)
  | bb n x => cases lent <;> cases n <;> exact view h (fun _ _ _ _ e => by cases e) (fun _ e => by cases e) (fun _ e => by cases e) (fun _ _ _ e => by cases e) (fun _ _ e => by cases e)
  | agg cs => exact (nots (.inl ⟨_, rfl⟩)).elim
  | tup cs => exact (nots (.inr (.inl ⟨_, rfl⟩))).elim
  | rp t x j s => exact (nots (.inr (.inr ⟨_, _, _, _, rfl⟩))).elim
  | _ => cases lent <;> exact view h (fun _ _ _ _ e => by cases e) (fun _ e => by cases e) (fun _ e => by cases e) (fun _ _ _ e => by cases e) (fun _ _ e => by cases e)
theorem passT_not {lent : Bool} {t : T} (h : ∀ cs, t ≠ .agg cs) : passT lent t = pass1 lent t := by cases t <;> first | rfl | exact absurd rfl (h _)
theorem passQ_ok {lent : Bool} {v : V G.El} {r : V G.El × Src} {l : List Nat} (h : (passQ lent v).runs lk r l) : (passT lent (denV G v)).run (lkT G lk) = some ((denV G r.1, r.2), l) := by
  by_cases hv : ∃ cs, v = .agg cs
  · obtain ⟨cs, rfl⟩ := hv
    simp only [passQ, runs_bind, runs_pure] at h
    obtain ⟨ys, l1, _, h1, ⟨rfl, rfl⟩, rfl⟩ := h
    have := mapQ_ok (a := den1 G) (b := fun p : V G.El × Src => (den1 G p.1, p.2)) (fun x y l h => (passQ1_ok h).1) h1
    refine bind_some.2 ⟨_, l1, [], this, ?_, rfl⟩
    simp only [List.map_map, List.flatMap_map]
    refine pure_some.2 ⟨?_, rfl⟩
    simp [denV, denA, Function.comp]
  · have h2 : passQ lent v = passQ1 lent v := by cases v <;> first | rfl | exact absurd ⟨_, rfl⟩ hv
    rw [h2] at h
    obtain ⟨h3, h4, h5, h6, h7, h8⟩ := passQ1_ok h
    have hd : denV G v = den1 G v := by
      rw [denV_okA (by cases v <;> first | rfl | exact absurd rfl (h7 _) | exact absurd rfl (h8 _ _ _ _))]
      exact denA_not_agg h6
    rw [hd, passT_not (den1_agg v), denV_okA h4, denA_not_agg h5]
    exact h3
theorem passAllQ_ok : ∀ {ls : List Bool} {vs : List (V G.El)} {rs : List (V G.El × Src)} {l : List Nat}, (passAllQ ls vs).runs lk rs l → (passAll ls (vs.map (denV G))).run (lkT G lk) = some (rs.map fun p => (denV G p.1, p.2), l)
  | ls, [], rs, l, h => by
    have h : (Q.ret [] : Q G.El (List (V G.El × Src))).runs lk rs l := by cases ls <;> exact h
    obtain ⟨rfl, rfl⟩ := runs_ret.1 h
    cases ls <;> rfl
  | ls, v :: r, rs, l, h => by
    have h : (do let a ← passQ (ls.headD false) v; let s ← passAllQ ls.tail r; pure (a :: s) : Q G.El (List (V G.El × Src))).runs lk rs l := by cases ls <;> exact h
    simp only [runs_bind, runs_pure] at h
    obtain ⟨a, l1, _, h1, ⟨s, l3, _, h2, ⟨rfl, rfl⟩, rfl⟩, rfl⟩ := h
    have e : passAll ls ((v :: r).map (denV G)) = (do let a ← passT (ls.headD false) (denV G v); let s ← passAll ls.tail (r.map (denV G)); pure (a :: s) : Rd _) := by cases ls <;> rfl
    rw [e]
    exact bind_some.2 ⟨_, l1, _, passQ_ok h1, bind_some.2 ⟨_, l3, [], passAllQ_ok h2, rfl, rfl⟩, rfl⟩
theorem passOQ_ok {x : O G.El} {y : O G.El × Src} {l : List Nat} (h : (passOQ x).runs lk y l) : (passOb (denO G x)).run (lkT G lk) = some ((denO G y.1, y.2), l) ∧
    (if (denO G x).row then [] else (denO G y.1).xs.flatMap refs) = (cellsO y.1).flatMap refs1V ∧ y.1.born = true := by
  cases x with
  | row a m k v t xs last => obtain ⟨rfl, rfl⟩ := runs_ret.1 h; exact ⟨rfl, rfl, rfl⟩
  | gone => exact (runs_fail.1 h).elim
  | box a m v k g cs =>
    simp only [passOQ, runs_bind, runs_grd, runs_pure] at h
    obtain ⟨_, _, _, ⟨hg, rfl⟩, ⟨ys, l1, _, h1, ⟨rfl, rfl⟩, rfl⟩, rfl⟩ := h
    have h2 := mapQ_ok (a := den1 G) (b := fun p : V G.El × Src => (den1 G p.1, p.2)) (fun x y l h => (passQ1_ok h).1) h1
    have hlen := mapQ_len h1
    have hcells : ∀ c ∈ ys.map (·.1), (∀ l, den1 G c ≠ .agg l) := fun c _ l => den1_agg c l
    have hT : (passT true (wrapT g (cs.map (den1 G)))).run (lkT G lk) = some ((wrapT g ((ys.map (·.1)).map (den1 G)), ys.flatMap (·.2)), l1) := by
      cases g with
      | true =>
        refine bind_some.2 ⟨_, l1, [], h2, ?_, by simp⟩
        simp only [List.map_map, List.flatMap_map]
        exact pure_some.2 ⟨by simp [wrapT, Function.comp], rfl⟩
      | false =>
        match cs, hg, ys, hlen, h1, h2 with
        | [c], _, [y], _, h1, h2 =>
          simp only [mapQ, runs_bind] at h1
          obtain ⟨y', l3, l4, h3, ⟨zs, l5, l6, h4, h5, rfl⟩, rfl⟩ := h1
          obtain ⟨h6, rfl⟩ := runs_pure.1 h5
          obtain ⟨rfl, rfl⟩ := runs_ret.1 h4
          simp only [List.cons.injEq, and_true] at h6
          subst h6
          simp only [List.map_cons, List.map_nil, wrapT]
          rw [passT_not (den1_agg c)]
          have := (passQ1_ok h3).1
          simpa using this
    refine ⟨?_, ?_, rfl⟩
    · simp only [passOb, denO, Bool.false_eq_true, if_false, List.nil_append, List.append_nil]
      refine bind_some.2 ⟨[(wrapT g ((ys.map (·.1)).map (den1 G)), ys.flatMap (·.2))], l1, [], ?_, ?_, by simp⟩
      · exact bind_some.2 ⟨_, l1, [], hT, rfl, by simp⟩
      · exact pure_some.2 ⟨by simp, rfl⟩
    · have ho : oneOr g (ys.map (·.1)) = true := by
        simp only [oneOr, Bool.or_eq_true, beq_iff_eq, List.length_map] at hg ⊢
        rw [hlen]; exact hg
      simp only [denO, Bool.false_eq_true, if_false, cellsO, ho, List.flatMap_cons, List.flatMap_nil, List.append_nil]
      cases g with
      | true =>
        simp only [wrapT, refs, List.flatMap_map]
        exact flatMap_same fun c _ => refs1_den c.1
      | false =>
        match cs, hg, ys, hlen with
        | [c], _, [y], _ =>
          simp only [List.map_cons, List.map_nil, wrapT, List.flatMap_cons, List.flatMap_nil, List.append_nil]
          rw [← refs1_den]
          cases hd : den1 G y.1 with
          | agg l => exact absurd hd (den1_agg y.1 l)
          | tup l => exact absurd hd (den1_tup y.1 l)
          | _ => rfl
theorem reachQ_ok : ∀ {n : Nat} {os : List Nat} {done : List (Nat × O G.El)} {vs : Src} {r : List (Nat × O G.El) × Src} {l : List Nat}, (∀ p ∈ done, p.2.born = true) → (reachQ n os done vs).runs lk r l →
    (reach n os (denWr G done) vs).run (lkT G lk) = some ((denWr G r.1, r.2), l) ∧ ∀ p ∈ r.1, p.2.born = true
  | n, [], done, vs, r, l, hd, h => by
    have h : (Q.ret (done, vs) : Q G.El (List (Nat × O G.El) × Src)).runs lk r l := by cases n <;> exact h
    obtain ⟨rfl, rfl⟩ := runs_ret.1 h
    cases n <;> exact ⟨rfl, hd⟩
  | 0, o :: q, done, vs, r, l, hd, h => (runs_fail.1 h).elim
  | n + 1, o :: q, done, vs, r, l, hd, h => by
    have e : (denWr G done).any (fun p => p.1 == o) = done.any (fun p => p.1 == o) := by simp only [denWr, List.any_map]; rfl
    simp only [reachQ] at h
    simp only [reach]
    rw [e]
    split at h
    · rename_i hany
      rw [hany, if_pos rfl]
      exact reachQ_ok hd h
    · rename_i hany
      rw [hany, if_neg (by simp)]
      simp only [runs_bind, runs_get, runs_grd] at h
      obtain ⟨x, _, _, ⟨rfl, rfl⟩, ⟨_, _, _, ⟨hal, rfl⟩, ⟨y, l5, l6, h1, h2, rfl⟩, rfl⟩, rfl⟩ := h
      obtain ⟨h3, h4, h5⟩ := passOQ_ok h1
      have ih := reachQ_ok (fun p hp => by
        rcases List.mem_append.1 hp with hp | hp
        · exact hd p hp
        · obtain rfl := List.mem_singleton.1 hp; exact h5) h2
      refine ⟨?_, ih.2⟩
      refine bind_some.2 ⟨denO G (lk o), [o], _, obj_some.2 ⟨rfl, rfl⟩, bind_some.2 ⟨(), [], _, guard_some.2 ⟨by rw [alive_den]; exact hal, rfl⟩, bind_some.2 ⟨_, l5, l6, h3, ?_, rfl⟩, rfl⟩, rfl⟩
      rw [h4]
      have e2 : denWr G (done ++ [(o, y.1)]) = denWr G done ++ [(o, denO G y.1)] := by simp [denWr]
      rw [← e2]
      exact ih.1
end Go.Proofs.YtbfgmnjhikaagaaGreatDoor.PN
namespace Go.Proofs.YtbfgmnjhikaagaaGreatDoor.PN
open Go Go.Proofs.YtbfgmnjhikaagaaGreatDoor.PM
variable {G : Sg} {P : Program} {α β : Type} {lk : Nat → O G.El} {look : Nat → Ob} {C : Cert} {prim : FuncId → Option (List T → List Ob → Option (T × List Ob))}
structure EvOk (P : Program) (C : Cert) (prim : FuncId → Option (List T → List Ob → Option (T × List Ob))) (G : Sg) (E : Ev G.El) : Prop where
  lent : ∀ f, E.lent f = (C f).lent
  call : ∀ (f : FuncId) (args : List (V G.El)) (objs : List (O G.El)) (lk : Nat → O G.El) (r : V G.El × List (O G.El)) (l : List Nat), (E.call f args objs).runs lk r l →
    l = [] ∧ callT P C prim f (args.map (denV G)) (objs.map (denO G)) = some (denV G r.1, r.2.map (denO G))
theorem mem_zip {α : Type} : ∀ (l : List α) (n : Nat) (p : α × Nat), p ∈ l.zipIdx n → p.1 ∈ l
  | [], n, p, h => by cases h
  | a :: r, n, p, h => by
    rw [List.zipIdx_cons] at h
    rcases List.mem_cons.1 h with rfl | h
    · simp
    · exact List.mem_cons_of_mem _ (mem_zip r (n + 1) p h)
theorem callQ_ok (ok : SgOk P G) {E : Ev G.El} (hE : EvOk P C prim G E) {f : FuncId} {args : List (V G.El)} {base : Nat} {e : Ef G.El} {l : List Nat} (h : (callQ G E f args base).runs lk e l) :
    (callR (envT P C prim) f (args.map (denV G)) base).run (lkT G lk) = some (denE G e, l) := by
  simp only [callQ, runs_bind, runs_grd] at h
  obtain ⟨aas, l1, _, h1, ⟨lv, l3, _, h2, ⟨_, _, _, ⟨hS, rfl⟩, ⟨ro, l7, _, h3, ⟨_, _, _, ⟨hg, rfl⟩, h4, rfl⟩, rfl⟩, rfl⟩, rfl⟩, rfl⟩ := h
  obtain ⟨rfl, rfl⟩ := runs_pure.1 h4
  obtain ⟨rfl, hc⟩ := hE.call _ _ _ _ _ _ h3
  have h1' := passAllQ_ok h1
  obtain ⟨h2', hborn⟩ := reachQ_ok (fun p hp => by cases hp) h2
  rw [hE.lent] at h1'
  simp only [Bool.and_eq_true, decide_eq_true_eq] at hg
  obtain ⟨⟨⟨hm, hfl⟩, hmay⟩, hrb⟩ := hg
  simp only [callR]
  have eL : (denWr G lv.1).map (·.1) = lv.1.map (·.1) := by simp [denWr, Function.comp]
  have eS : (aas.map fun p => (denV G p.1, p.2)).flatMap (·.2) = aas.flatMap (·.2) := by simp [List.flatMap_map]
  have eR : (aas.map fun p => (denV G p.1, p.2)).map (·.1) = aas.map fun p => denV G p.1 := by simp
  have eF : ((aas.map fun p => (denV G p.1, p.2)).map (·.1)).flatMap refs = (aas.map (·.1)).flatMap refsV := by
    rw [eR]
    simp only [List.flatMap_map]
    exact flatMap_same fun p _ => refs_den p.1
  have eO : (denWr G lv.1).map (·.2) = (lv.1.map (·.2)).map (denO G) := by simp [denWr, Function.comp]
  refine bind_some.2 ⟨_, l1, _, h1', bind_some.2 ⟨(denWr G lv.1, lv.2), l3, [], by rw [eF]; exact h2', ?_, by simp⟩, rfl⟩
  simp only [eL, eS]
  refine bind_some.2 ⟨(), [], [], guard_some.2 ⟨hS, rfl⟩, bind_some.2 ⟨(denV G ro.1, ro.2.map (denO G)), [], [], opt_some.2 ⟨?_, rfl⟩, bind_some.2 ⟨(), [], [], guard_some.2 ⟨?_, rfl⟩, pure_some.2 ⟨?_, rfl⟩, rfl⟩, rfl⟩, rfl⟩
  · show callT P C prim f _ _ = _
    rw [← hc]
    congr 1
    · simp only [List.map_map]
      refine List.map_congr_left fun p _ => ?_
      simp only [Function.comp]
      exact (mapV_den p.1).symm
    · simp only [List.map_map, denWr]
      refine List.map_congr_left fun p hp => ?_
      simp only [Function.comp]
      rw [mapO_den, setVer_den _ _ (.inr rfl)]
  · simp only [List.length_map, Bool.and_eq_true, decide_eq_true_eq]
    simp only [List.length_map] at hm
    refine ⟨⟨hm, ?_⟩, ?_⟩
    · simp only [Bool.or_eq_true] at hfl ⊢
      rcases hfl with hfl | hfl
      · exact .inl hfl
      · right
        simp only [List.all_map, List.all_eq_true, Function.comp] at hfl ⊢
        exact fun x hx => flatO_den ok (hfl x hx)
    · simp only [List.all_map, List.all_eq_true, Function.comp] at hmay ⊢
      intro x hx
      rw [may_den, alive_den]
      exact hmay x hx
  · simp only [denE, List.length_map, eO, ← backSO_den]
    rw [Eff.mk.injEq]
    refine ⟨mapV_den ro.1, ?_⟩
    simp only [denWr, List.map_map, List.zipIdx_map]
    refine List.map_congr_left fun p hp => ?_
    have hb : p.1.born = true := List.all_eq_true.1 hrb _ (mem_zip _ _ _ hp)
    simp only [Function.comp, Prod.map, Prod.mk.injEq, true_and, id_eq]
    rw [keepAs_den]
    have hb2 : (mapVO (backN (lv.1.map (·.1)) base ro.2.length) (backSO (lv.1.map (·.1)) base (lv.1.map (·.2)) ro.2 (aas.flatMap (·.2) ++ lv.2)) p.1).born = true := by
      cases hp1 : p.1 with
      | gone => rw [hp1] at hb; cases hb
      | _ => rfl
    rw [setVer_den _ _ (.inl hb2), mapO_den, verOfO_den, ver_den, List.map_map]
theorem findK_map {γ δ : Type} (g : γ → δ) : ∀ (l : List (Nat × γ)) (i : Nat), findK (l.map fun p => (p.1, g p.2)) i = (findK l i).map g
  | [], i => rfl
  | (k, x) :: r, i => by
    simp only [List.map_cons, findK]
    split
    · rfl
    · exact findK_map g r i
def denS (G : Sg) (s : S G.El) : St := { tmps := (List.range s.n).map fun i => denV G (lookV s.tm s.df i), store := denWr G s.st, nx := s.nx, m := s.m }
theorem get_den (s : S G.El) (t : Nat) : denV G (s.get t) = ((denS G s).tmps[t]?).getD .dead := by
  simp only [S.get, denS, List.getElem?_map]
  by_cases h : t < s.n
  · rw [decide_eq_true h]; simp [List.getElem?_range h]
  · rw [decide_eq_false h]
    have : (List.range s.n)[t]? = none := by rw [List.getElem?_eq_none_iff, List.length_range]; omega
    rw [this]; rfl
theorem lift1_den (v : Value) : den1 G (lift1V v) = lift1 v := by
  cases v with
  | slice a l c => cases a <;> cases l <;> cases c <;> rfl
  | _ => rfl
theorem lift_den (v : Value) : denV G (liftV v) = lift v := by
  cases v with
  | agg cs =>
    simp only [liftV, denV, denA, lift, List.map_map]
    exact congrArg T.agg (List.map_congr_left fun c _ => lift1_den c)
  | slice a l c => cases a <;> cases l <;> cases c <;> rfl
  | _ => rfl
theorem eval_den (s : S G.El) (o : Operand) : denV G (evalV s o) = evalT (denS G s).tmps o := by
  cases o with
  | tmp t => exact get_den s t
  | const v => exact lift_den v
  | func f => rfl
  | global g => rfl
theorem lookIn_den : ∀ (st : List (Nat × O G.El)) (o : Nat), lookIn (denWr G st) o = denO G (lookO st o)
  | [], o => rfl
  | (k, x) :: r, o => by
    simp only [denWr, List.map_cons, lookIn, lookO]
    split
    · rfl
    · exact lookIn_den r o
theorem putIn_den : ∀ (st : List (Nat × O G.El)) (o : Nat) (x : O G.El), denWr G (putO st o x) = putIn (denWr G st) o (denO G x)
  | [], o, x => rfl
  | (k, y) :: r, o, x => by
    simp only [denWr, List.map_cons, putIn, putO]
    split
    · rfl
    · simp only [List.map_cons]
      exact congrArg _ (putIn_den r o x)
theorem putAll_den : ∀ (wr st : List (Nat × O G.El)), denWr G (putOs st wr) = putAll (denWr G st) (denWr G wr)
  | [], st => rfl
  | (o, x) :: r, st => by
    show denWr G (putOs (putO st o x) r) = putAll (putIn (denWr G st) o (denO G x)) (denWr G r)
    rw [putAll_den, putIn_den]
theorem lk_den (s : S G.El) : lkT G (lookO s.st) = lookIn (denS G s).store := by
  funext o; exact (lookIn_den s.st o).symm
theorem putT_den (s : S G.El) (dst : Option Tmp) (v : V G.El) : denS G (putV s dst v) = { denS G s with tmps := putT (denS G s).tmps dst (denV G v) } := by
  cases dst with
  | none => rfl
  | some d =>
    simp only [putV, putT]
    by_cases h : d < s.n
    · rw [decide_eq_true h]
      simp only [denS, St.mk.injEq, and_true]
      apply List.ext_getElem?
      intro i
      rw [List.getElem?_set, List.getElem?_map, List.getElem?_map]
      by_cases hi : i < s.n
      · rw [List.getElem?_range hi]
        by_cases hd : d = i
        · subst hd; simp [lookV, findK, h]
        · simp [hd, lookV, findK]
      · have : (List.range s.n)[i]? = none := by rw [List.getElem?_eq_none_iff, List.length_range]; omega
        rw [this]
        have hd : d ≠ i := fun e => hi (e ▸ h)
        simp [hd]
    · rw [decide_eq_false h]
      simp only [denS, St.mk.injEq, and_true]
      rw [List.set_eq_of_length_le]
      rw [List.length_map, List.length_range]; exact Nat.le_of_not_lt h
end Go.Proofs.YtbfgmnjhikaagaaGreatDoor.PN
namespace Go.Proofs.YtbfgmnjhikaagaaGreatDoor.PN
open Go Go.Proofs.YtbfgmnjhikaagaaGreatDoor.PM
variable {G : Sg} {P : Program} {α β : Type} {C : Cert} {prim : FuncId → Option (List T → List Ob → Option (T × List Ob))}
theorem vR {look : Nat → Ob} {r : Rd T} {t : T} {l : List Nat} (h : r.run look = some (t, l)) : (do pure ⟨← r, []⟩ : Rd Eff).run look = some (⟨t, []⟩, l) := bind_some.2 ⟨t, l, [], h, rfl, by simp⟩
theorem vQ {lk : Nat → O G.El} {q : Q G.El (V G.El)} {e : Ef G.El} {l : List Nat} (h : (do pure ⟨← q, []⟩ : Q G.El (Ef G.El)).runs lk e l) : q.runs lk e.val l ∧ e.wr = [] := by
  simp only [runs_bind, runs_pure] at h
  obtain ⟨w, l1, _, h1, ⟨rfl, rfl⟩, rfl⟩ := h
  exact ⟨by rw [List.append_nil]; exact h1, rfl⟩
theorem denE_v {e : Ef G.El} (h : e.wr = []) : denE G e = ⟨denV G e.val, []⟩ := by simp [denE, h, denWr]
theorem zip_mem {γ : Type} : ∀ (fs : List γ) (n f : Nat) (p : γ), fs[f]? = some p → (p, n + f) ∈ fs.zipIdx n
  | [], n, f, p, h => by simp at h
  | a :: r, n, 0, p, h => by simp at h; subst h; simp [List.zipIdx_cons]
  | a :: r, n, f + 1, p, h => by
    rw [List.zipIdx_cons]
    refine List.mem_cons_of_mem _ ?_
    have := zip_mem r (n + 1) f p (by simpa using h)
    rwa [Nat.add_assoc, Nat.add_comm 1 f] at this
theorem field_ok {t : TypeId} {fs : List (Nat × Nat)} {f : Nat} {p : Nat × Nat} (hk : KdOk P G t (.struct fs)) (h : fs[f]? = some p) : fieldT P t f = some p := by
  have h1 := List.all_eq_true.1 hk.1 (p, 0 + f) (zip_mem fs 0 f p h)
  simpa using h1
theorem wrapT_A (z : V G.El) (h : okA z = true) : wrapT (isAgg z) ((cellsV z).map (den1 G)) = denA G z := by
  cases z with
  | bp n c d => cases n <;> rfl
  | bb n x => cases n <;> rfl
  | _ => rfl
theorem u8_ok {kd : Kd} {t : TypeId} (hk : KdOk P G t kd) (h : isU8 kd = true) : P.underlying t = some (.int .u8) := by
  cases kd with
  | int k => cases k <;> first | exact hk | cases h
  | _ => cases h
theorem str_ok {kd : Kd} {t : TypeId} (hk : KdOk P G t kd) (h : isStrK kd = true) : P.underlying t = some .string := by
  cases kd <;> first | exact hk | cases h
theorem convQ_ok (ok : SgOk P G) {lk : Nat → O G.El} {base : Nat} {src dst : TypeId} {x : V G.El} {e : Ef G.El} {l : List Nat} {E : Env} {s : St} {o : Oper} (ho : ∃ xo, o.op = .convert src dst xo ∧ evalT s.tmps xo = denV G x) (h : (convQ G base src dst x).runs lk e l) :
    (opR P E s.tmps base o).run (lkT G lk) = some (denE G e, l) := by
  obtain ⟨xo, ho, hx⟩ := ho
  obtain ⟨d, op, ty, pos, af, gd⟩ := o
  simp only at ho
  subst ho
  simp only [opR, hx]
  simp only [convQ, runs_bind, runs_opt] at h
  obtain ⟨a, _, _, ⟨ha, rfl⟩, ⟨b, _, _, ⟨hb, rfl⟩, h2, rfl⟩, rfl⟩ := h
  have ka := (ok.ti _ _ ha).kd
  have kb := (ok.ti _ _ hb).kd
  split at h2
  · rename_i k1 k2 e1 e2
    rw [e1] at ka; rw [e2] at kb
    split at h2
    · rename_i k n la hi
      obtain ⟨rfl, rfl⟩ := runs_pure.1 h2
      rw [(intV_some hi).2, show P.underlying src = some (.int k1) from ka, show P.underlying dst = some (.int k2) from kb]
      refine (vR (opt_some.2 ⟨ev_conv k2 n, rfl⟩)).trans ?_
      simp [denE, denWr, mkI_den]
    · exact (runs_fail.1 h2).elim
  · rename_i e1 e2
    rw [e1] at ka; rw [e2] at kb
    split at h2
    · obtain ⟨rfl, rfl⟩ := runs_pure.1 h2
      rw [show P.underlying src = some .string from ka, show P.underlying dst = some .string from kb]; rfl
    · exact (runs_fail.1 h2).elim
  · rename_i e' ec e1 e2
    rw [e1] at ka; rw [e2] at kb
    split at h2
    · rename_i s
      simp only [runs_bind, runs_opt, runs_grd, runs_nd, runs_pure, Bool.and_eq_true, beq_iff_eq] at h2
      obtain ⟨ie, _, _, ⟨hie, rfl⟩, ⟨_, _, _, ⟨⟨⟨⟨hw, hu⟩, hk1⟩, hb1⟩, rfl⟩, ⟨_, _, _, ⟨hs, rfl⟩, ⟨xs, _, _, ⟨hxs, rfl⟩, ⟨rfl, rfl⟩, rfl⟩, rfl⟩, rfl⟩, rfl⟩ := h2
      have hie := ok.ti _ _ hie
      rw [show P.underlying src = some .string from ka, show P.underlying dst = some (.slice e') from kb]
      refine bind_some.2 ⟨(), [], [], guard_some.2 ⟨by rw [u8_ok hie.kd hu], rfl⟩, bind_some.2 ⟨(), [], [], guard_some.2 ⟨by rw [hie.sz, hie.by_, hk1, hb1]; simp [hs], rfl⟩, pure_some.2 ⟨?_, rfl⟩, rfl⟩, rfl⟩
      simp only [denE, denV, denA, den1, denWr, List.map_cons, List.map_nil, denO, rowsOf, ok.ofStr _ _ _ hxs, hw, N.v]
    · exact (runs_fail.1 h2).elim
  · rename_i e' ec e1 e2
    rw [e1] at ka; rw [e2] at kb
    simp only [runs_bind, runs_opt, runs_grd, runs_pure, Bool.and_eq_true, beq_iff_eq] at h2
    obtain ⟨ie, _, _, ⟨hie, rfl⟩, ⟨_, _, _, ⟨⟨⟨hw, hu⟩, hk1⟩, rfl⟩, ⟨ns, l9, _, hns, ⟨st, _, _, ⟨hst, rfl⟩, ⟨rfl, rfl⟩, rfl⟩, rfl⟩, rfl⟩, rfl⟩ := h2
    have hie := ok.ti _ _ hie
    rw [show P.underlying src = some (.slice e') from ka, show P.underlying dst = some .string from kb]
    have hN : (elemsR (denV G x)).run (lkT G lk) = some (ns.1.map (G.enc ec), l9) ∧ (scOf (denV G x)).isNone = true ∧ (∀ v, denV G x ≠ .sc v) := by
      rcases elemsQ_ok ok hns with ⟨h1, h2, ys, src, hx⟩ | ⟨h1, h2, ⟨o, a, b, hx⟩ | hx⟩ <;> exact ⟨h1, by rw [hx]; rfl, by rw [hx]; intro v e; cases e⟩
    have e0 : ([] ++ ([] ++ ([] ++ ([] ++ (l9 ++ ([] ++ []))))) : List Nat) = l9 := by simp
    simp only [List.nil_append, List.append_nil]
    generalize denV G x = t at hN
    have hwid : wid 1 (ns.1.map (G.enc ec)) = true := by rw [← hw]; exact wid_enc ok _ _
    have hU := u8_ok hie.kd hu
    have fin : (do
          guardR (match P.underlying e' with | some (.int .u8) => true | _ => false)
          let ns ← elemsR t
          let bs ← Rd.ofOption (bytesOf ns)
          guardR ((scOf t).isNone && wid 1 ns)
          pure ⟨.sc (.string ⟨bs.toArray⟩), []⟩ : Rd Eff).run (lkT G lk) = some (denE G ⟨.s st, []⟩, l9) := by
      refine bind_some.2 ⟨(), [], l9, guard_some.2 ⟨by rw [hU], rfl⟩, bind_some.2 ⟨_, l9, [], hN.1, bind_some.2 ⟨st.data.toList, [], [], opt_some.2 ⟨ok.toStr _ _ _ hst, rfl⟩, bind_some.2 ⟨(), [], [], guard_some.2 ⟨?_, rfl⟩, rfl, rfl⟩, rfl⟩, by simp⟩, rfl⟩
      rw [hN.2.1, hwid]; rfl
    cases t with
    | sc v => exact absurd rfl (hN.2.2 v)
    | _ => exact fin
  · exact (runs_fail.1 h2).elim
theorem min_run {ts : Array TypeId} {ty : TypeId} {look : Nat → Ob} {k : IntKind} {a b : Int} :
    (match ([T.sc (.int k a), T.sc (.int k b)]).mapM scOf with
      | some vs => if vs.all plainB then Rd.ofOption ((pureOf (Builtin.min_ ts ty vs.toArray)).bind scP) else .fail
      | none => .fail : Rd T).run look = some (.sc (.int k (minI a b)), []) :=
  opt_some.2 ⟨ev_min (ts := ts) (ty := ty) (k := k) (k' := k) (a := a) (b := b), rfl⟩
theorem max_run {ts : Array TypeId} {ty : TypeId} {look : Nat → Ob} {k : IntKind} {a b : Int} :
    (match ([T.sc (.int k a), T.sc (.int k b)]).mapM scOf with
      | some vs => if vs.all plainB then Rd.ofOption ((pureOf (Builtin.max_ ts ty vs.toArray)).bind scP) else .fail
      | none => .fail : Rd T).run look = some (.sc (.int k (maxI a b)), []) :=
  opt_some.2 ⟨ev_max (ts := ts) (ty := ty) (k := k) (k' := k) (a := a) (b := b), rfl⟩
theorem caps_den {caps : List (V G.El)} (h : caps.all isPtr = true) : caps.map denP = caps.map (denV G) := by
  refine List.map_congr_left fun c hc => ?_
  have := List.all_eq_true.1 h c hc
  cases c <;> first | rfl | cases this
theorem isPtr_V {v : V G.El} (h : isPtr v = true) : (match denV G v with | .ptr .. => true | _ => false) = true := by cases v <;> first | rfl | cases h
theorem opQ_ok (ok : SgOk P G) {E : Ev G.El} (hE : EvOk P C prim G E) {s : S G.El} {base : Nat} {o : Oper} {e : Ef G.El} {l : List Nat} (h : (opQ G E s base o).runs (lookO s.st) e l) :
    (opR P (envT P C prim) (denS G s).tmps base o).run (lkT G (lookO s.st)) = some (denE G e, l) := by
  obtain ⟨dst, op, ty, pos, af, gd⟩ := o
  have ev : ∀ x, evalT (denS G s).tmps x = denV G (evalV s x) := fun x => (eval_den s x).symm
  have evs : ∀ xs : List Operand, xs.map (evalT (denS G s).tmps) = (xs.map (evalV s)).map (denV G) := by
    intro xs; rw [List.map_map]; exact List.map_congr_left fun x _ => ev x
  have evp : ∀ ps : List (Nat × Operand), ps.map (fun p => (p.1, evalT (denS G s).tmps p.2)) = (ps.map fun p => (p.1, evalV s p.2)).map (fun p => (p.1, denV G p.2)) := by
    intro ps; rw [List.map_map]; exact List.map_congr_left fun p _ => by simp only [Function.comp, ev]
  have evo : ∀ x : Option Operand, x.map (evalT (denS G s).tmps) = (x.map (evalV s)).map (denV G) := by
    intro x; cases x with
    | none => rfl
    | some x => exact congrArg some (ev x)
  cases op with
  | move x => simp only [opQ] at h; obtain ⟨rfl, rfl⟩ := runs_ret.1 h; simp only [opR, ev]; rfl
  | assign x => simp only [opQ] at h; obtain ⟨rfl, rfl⟩ := runs_ret.1 h; simp only [opR, ev]; rfl
  | alloc t =>
    simp only [opQ, runs_bind, runs_opt, runs_grd, runs_pure] at h
    obtain ⟨inf, _, _, ⟨hi, rfl⟩, ⟨z, _, _, hz, ⟨_, _, _, ⟨h1, rfl⟩, ⟨rfl, rfl⟩, rfl⟩, rfl⟩, rfl⟩ := h
    have hi := ok.ti _ _ hi
    obtain ⟨rfl, hz1, hz2, hz3⟩ := zeroQ_ok hz
    simp only [opR]
    refine bind_some.2 ⟨denA G z, [], [], opt_some.2 ⟨hi.ze z hz1, rfl⟩, bind_some.2 ⟨inf.k, [], [], opt_some.2 ⟨hi.sz, rfl⟩, bind_some.2 ⟨(), [], [], guard_some.2 ⟨?_, rfl⟩, pure_some.2 ⟨?_, rfl⟩, rfl⟩, rfl⟩, rfl⟩
    · rw [okA_width hz2, hz3, denA_cells, all_cellT h1]; simp
    · simp only [denE, denV, denA, den1, denWr, List.map_cons, List.map_nil, denO]
      rw [wrapT_A z hz2]; rfl
  | box t x =>
    simp only [opQ, runs_bind, runs_opt] at h
    obtain ⟨inf, _, _, ⟨hi, rfl⟩, h2, rfl⟩ := h
    have hi := ok.ti _ _ hi
    simp only [opR, ev]
    cases hx : evalV s x with
    | agg cs =>
      rw [hx] at h2
      simp only [runs_bind, runs_grd, runs_pure, Bool.and_eq_true, beq_iff_eq] at h2
      obtain ⟨_, _, _, ⟨⟨h3, h4⟩, rfl⟩, ⟨rfl, rfl⟩, rfl⟩ := h2
      refine bind_some.2 ⟨inf.k, [], [], opt_some.2 ⟨hi.sz, rfl⟩, bind_some.2 ⟨(), [], [], guard_some.2 ⟨?_, rfl⟩, pure_some.2 ⟨rfl, rfl⟩, rfl⟩, rfl⟩
      show ((cs.map (den1 G)).length == inf.k && (cs.map (den1 G)).all cellT) = true
      rw [List.length_map, h3, all_cellT h4]; simp
    | _ =>
      rw [hx] at h2
      simp only [runs_bind, runs_grd, runs_pure, Bool.and_eq_true, beq_iff_eq] at h2
      obtain ⟨_, _, _, ⟨⟨h3, h4⟩, rfl⟩, ⟨rfl, rfl⟩, rfl⟩ := h2
      have hc := cellT_den1 (G := G) h3
      first
        | (cases h3; done)
        | (rw [denV_isCell h3]
           refine bind_some.2 ⟨inf.k, [], [], opt_some.2 ⟨hi.sz, rfl⟩, bind_some.2 ⟨(), [], [], guard_some.2 ⟨?_, rfl⟩, pure_some.2 ⟨rfl, rfl⟩, rfl⟩, rfl⟩
           show ((den1 G _).cells.length == inf.k && (den1 G _).cells.all cellT) = true
           rw [cells_den1, h4]; simp [hc])
  | build t ps =>
    simp only [opQ] at h
    obtain ⟨h1, h2⟩ := vQ h
    rw [denE_v h2]
    simp only [opR]
    refine vR ?_
    rw [show ps.toList.map (fun p => (p.1, evalT (denS G s).tmps p.2)) = (ps.toList.map fun p => (p.1, evalV s p.2)).map (fun p => (p.1, denV G p.2)) from evp ps.toList]
    exact buildQ_ok ok h1
  | buildSlice t n ps =>
    simp only [opQ] at h
    simp only [opR]
    rw [show ps.toList.map (fun p => (p.1, evalT (denS G s).tmps p.2)) = (ps.toList.map fun p => (p.1, evalV s p.2)).map (fun p => (p.1, denV G p.2)) from evp ps.toList]
    exact buildSliceQ_ok ok h
  | load t a =>
    by_cases ha : ∃ g, a = .global g
    · obtain ⟨g, rfl⟩ := ha
      simp only [opQ, runs_bind, runs_opt, runs_grd, runs_pure, Bool.and_eq_true, beq_iff_eq] at h
      obtain ⟨inf, _, _, ⟨hi, rfl⟩, ⟨_, _, _, ⟨⟨hk, hg⟩, rfl⟩, ⟨rfl, rfl⟩, rfl⟩, rfl⟩ := h
      have hi := ok.ti _ _ hi
      simp only [opR]
      refine vR ?_
      refine bind_some.2 ⟨0, [], [], opt_some.2 ⟨by rw [hi.sz, hk], rfl⟩, bind_some.2 ⟨true, [], [], opt_some.2 ⟨by rw [hi.ag, hg], rfl⟩, bind_some.2 ⟨(), [], [], guard_some.2 ⟨rfl, rfl⟩, rfl, rfl⟩, rfl⟩, rfl⟩
    · have e1 : opQ G E s base ⟨dst, .load t a, ty, pos, af, gd⟩ = (do pure ⟨← loadQ G t (evalV s a), []⟩) := by
        cases a <;> first | rfl | exact absurd ⟨_, rfl⟩ ha
      have e2 : opR P (envT P C prim) (denS G s).tmps base ⟨dst, .load t a, ty, pos, af, gd⟩ = (do pure ⟨← loadR P t (evalT (denS G s).tmps a), []⟩) := by
        cases a <;> first | rfl | exact absurd ⟨_, rfl⟩ ha
      rw [e1] at h
      rw [e2]
      obtain ⟨h1, h2⟩ := vQ h
      rw [denE_v h2, ev]
      obtain ⟨h3, h4⟩ := loadQ_ok ok h1
      rw [denV_okA h4]
      exact vR h3
  | store t a x =>
    simp only [opQ, runs_bind, runs_pure] at h
    obtain ⟨wr, l1, _, h1, ⟨rfl, rfl⟩, rfl⟩ := h
    simp only [opR, ev]
    exact bind_some.2 ⟨_, l1, [], storeQ_ok ok h1, rfl, rfl⟩
  | nilCheck x =>
    simp only [opQ] at h
    simp only [opR, ev]
    cases hx : evalV s x with
    | ptr o i j => rw [hx] at h; obtain ⟨rfl, rfl⟩ := runs_ret.1 h; rfl
    | rp t y j src => rw [hx] at h; obtain ⟨rfl, rfl⟩ := runs_ret.1 h; rfl
    | fn f c => rw [hx] at h; obtain ⟨rfl, rfl⟩ := runs_ret.1 h; rfl
    | _ => rw [hx] at h; exact (runs_fail.1 h).elim
  | binOp op t x y yt =>
    simp only [opQ] at h
    obtain ⟨h1, h2⟩ := vQ h
    rw [denE_v h2]
    have := binQ_ok (look := lkT G (lookO s.st)) ok h1
    rw [← ev, ← ev] at this
    exact vR this
  | unOp op t x =>
    simp only [opQ] at h
    obtain ⟨h1, h2⟩ := vQ h
    rw [denE_v h2]
    have := unQ_ok (look := lkT G (lookO s.st)) h1
    rw [← ev] at this
    exact vR this
  | convert src dst' x =>
    simp only [opQ] at h
    exact convQ_ok ok ⟨x, rfl, ev x⟩ h
  | makeFunc fn first caps =>
    cases fn with
    | func f =>
      simp only [opQ, runs_bind, runs_grd, runs_pure, Bool.and_eq_true, beq_iff_eq] at h
      obtain ⟨_, _, _, ⟨⟨h1, h2⟩, rfl⟩, ⟨rfl, rfl⟩, rfl⟩ := h
      simp only [opR]
      refine bind_some.2 ⟨(), [], [], guard_some.2 ⟨?_, rfl⟩, pure_some.2 ⟨?_, rfl⟩, rfl⟩
      · rw [evs, List.all_map]
        simp only [Bool.and_eq_true, beq_iff_eq, List.all_eq_true, Function.comp]
        exact ⟨h1, fun v hv => isPtr_V (List.all_eq_true.1 h2 v hv)⟩
      · rw [evs, ← caps_den h2]; rfl
    | _ => exact (runs_fail.1 h).elim
  | makeSlice t lv cv =>
    simp only [opQ] at h
    simp only [opR, ev]
    exact makeSliceQ_ok ok h
  | slice t x lo hi mx =>
    simp only [opQ] at h
    obtain ⟨h1, h2⟩ := vQ h
    rw [denE_v h2]
    simp only [opR, ev, evo]
    obtain ⟨h3, h4⟩ := sliceQ_ok ok h1
    rw [denV_okA (okA_isCell h4)]
    exact vR h3
  | fieldAddr t x f =>
    simp only [opQ, runs_bind, runs_opt] at h
    obtain ⟨inf, _, _, ⟨hi, rfl⟩, h2, rfl⟩ := h
    have hk := (ok.ti _ _ hi).kd
    split at h2
    · rename_i fs he
      rw [he] at hk
      simp only [runs_bind, runs_opt, runs_grd, fieldAt, decide_eq_true_eq] at h2
      obtain ⟨p, _, _, ⟨hp, rfl⟩, ⟨ie, _, _, ⟨hie, rfl⟩, ⟨_, _, _, ⟨hpos, rfl⟩, h3, rfl⟩, rfl⟩, rfl⟩ := h2
      have hf := field_ok hk hp
      simp only [opR, ev]
      have pre : ∀ t', (match denV G (evalV s x) with | .ptr o i j => pure (T.ptr o i (j + p.1)) | .rp x j src => pure (T.rp x (j + p.1) src) | _ => .fail : Rd T).run (lkT G (lookO s.st)) = some (t', []) → denE G e = ⟨t', []⟩ →
          (do pure ⟨← (do
            let ft ← Rd.ofOption (fieldT P t f)
            let n ← Rd.ofOption (szT P ft.2)
            guardR (decide (0 < n))
            match denV G (evalV s x) with
            | .ptr o i j => pure (.ptr o i (j + ft.1))
            | .rp x j src => pure (.rp x (j + ft.1) src)
            | _ => .fail : Rd T), []⟩ : Rd Eff).run (lkT G (lookO s.st)) = some (denE G e, []) := by
        intro t' h1 h2
        rw [h2]
        exact vR (bind_some.2 ⟨p, [], [], opt_some.2 ⟨hf, rfl⟩, bind_some.2 ⟨ie.k, [], [], opt_some.2 ⟨(ok.ti _ _ hie).sz, rfl⟩, bind_some.2 ⟨(), [], [], guard_some.2 ⟨by simp [hpos], rfl⟩, h1, rfl⟩, rfl⟩, rfl⟩)
      cases hx : evalV s x with
      | ptr o i j =>
        rw [hx] at h3; obtain ⟨rfl, rfl⟩ := runs_pure.1 h3
        rw [hx] at pre
        exact pre _ rfl rfl
      | rp t' y j src =>
        rw [hx] at h3; obtain ⟨rfl, rfl⟩ := runs_pure.1 h3
        rw [hx] at pre
        exact pre _ rfl rfl
      | _ => rw [hx] at h3; exact (runs_fail.1 h3).elim
    · exact (runs_fail.1 h2).elim
  | field t x f =>
    simp only [opQ, runs_bind, runs_opt] at h
    obtain ⟨inf, _, _, ⟨hi, rfl⟩, h2, rfl⟩ := h
    have hk := (ok.ti _ _ hi).kd
    split at h2
    · rename_i fs he
      rw [he] at hk
      simp only [runs_bind, runs_opt, fieldAt] at h2
      obtain ⟨p, _, _, ⟨hp, rfl⟩, ⟨ie, _, _, ⟨hie, rfl⟩, h3, rfl⟩, rfl⟩ := h2
      have hf := field_ok hk hp
      simp only [opR, ev]
      cases hx : evalV s x with
      | agg cs =>
        rw [hx] at h3
        obtain ⟨h4, h5⟩ := vQ h3
        obtain ⟨h6, h7, rfl, _⟩ := takeQ_ok (look := lkT G (lookO s.st)) (ok.ti _ _ hie) h4
        rw [denE_v h5, denV_okA h7]
        exact vR (bind_some.2 ⟨p, [], [], opt_some.2 ⟨hf, rfl⟩, h6, rfl⟩)
      | _ => rw [hx] at h3; exact (runs_fail.1 h3).elim
    · exact (runs_fail.1 h2).elim
  | indexAddr t x ix =>
    simp only [opQ] at h
    obtain ⟨h1, h2⟩ := vQ h
    rw [denE_v h2]
    simp only [opR, ev]
    exact vR (indexAddrQ_ok ok h1)
  | index t x ix =>
    simp only [opQ, runs_bind, runs_opt, runs_grd] at h
    obtain ⟨inf, _, _, ⟨hi, rfl⟩, ⟨_, _, _, ⟨hs, rfl⟩, h2, rfl⟩, rfl⟩ := h
    have hu := str_ok (ok.ti _ _ hi).kd hs
    simp only [opR, ev]
    cases hx : evalV s x with
    | s str =>
      rw [hx] at h2
      cases hix : intV (evalV s ix) with
      | none => rw [hix] at h2; exact (runs_fail.1 h2).elim
      | some q =>
        obtain ⟨k, i, li⟩ := q
        rw [hix] at h2
        simp only [runs_bind, runs_nd, runs_pure] at h2
        obtain ⟨_, l1, _, h3, ⟨_, _, _, ⟨h4, rfl⟩, ⟨rfl, rfl⟩, rfl⟩, rfl⟩ := h2
        have h5 : l1 = [] ∧ 0 ≤ i := by
          cases li with
          | true => have := runs_grd.1 h3; exact ⟨this.2, of_decide_eq_true this.1⟩
          | false => have := runs_nd.1 h3; exact ⟨this.2, this.1⟩
        obtain ⟨rfl, h5⟩ := h5
        rw [(intV_some hix).2, hu, denE_v rfl, mkI_den]
        refine vR ?_
        show (if 0 ≤ i then Rd.ofOption ((str[i.toNat]?).map fun b => T.sc (.int .u8 b.toNat)) else .fail : Rd T).run _ = _
        rw [if_pos h5]
        exact opt_some.2 ⟨byteAt_eq str i h5 h4, rfl⟩
    | _ => rw [hx] at h2; exact (runs_fail.1 h2).elim
  | extract x i =>
    simp only [opQ] at h
    simp only [opR, ev]
    cases hx : evalV s x with
    | tup ts =>
      rw [hx] at h
      simp only [runs_bind, runs_opt, runs_grd, runs_pure] at h
      obtain ⟨v, _, _, ⟨h1, rfl⟩, ⟨_, _, _, ⟨h2, rfl⟩, ⟨rfl, rfl⟩, rfl⟩, rfl⟩ := h
      rw [denE_v rfl, denV_okA h2]
      exact vR (opt_some.2 ⟨by rw [List.getElem?_map, h1]; rfl, rfl⟩)
    | _ => rw [hx] at h; exact (runs_fail.1 h).elim
  | call c =>
    obtain ⟨callee, args, ats⟩ := c
    cases callee with
    | invoke r m => exact (runs_fail.1 h).elim
    | value f =>
      simp only [opQ] at h
      simp only [opR, ev, evs]
      cases hf : evalV s f with
      | fn g caps =>
        rw [hf] at h
        simp only [runs_bind, runs_grd] at h
        obtain ⟨_, _, _, ⟨hc, rfl⟩, h1, rfl⟩ := h
        have := callQ_ok ok hE h1
        rw [List.map_append] at this
        simp only [denV, denA, den1, caps_den hc]
        exact this
      | _ => rw [hf] at h; exact (runs_fail.1 h).elim
    | builtin b =>
      cases b with
      | append =>
        simp only [opQ] at h
        simp only [opR, evs]
        split at h
        · rename_i a x he
          simp only [runs_bind, runs_grd, beq_iff_eq] at h
          obtain ⟨_, _, _, ⟨hs, rfl⟩, h1, rfl⟩ := h
          rw [he]
          simp only [List.map_cons, List.map_nil, if_pos hs]
          exact appendQ_ok ok h1
        · exact (runs_fail.1 h).elim
      | len =>
        simp only [opQ] at h
        simp only [opR, evs]
        split at h
        · rename_i x he
          obtain ⟨h1, h2⟩ := vQ h
          rw [he, denE_v h2]
          exact vR (lenQ_ok ok h1)
        · exact (runs_fail.1 h).elim
      | copy =>
        simp only [opQ] at h
        simp only [opR, evs]
        split at h
        · rename_i d x he
          rw [he]
          exact copyQ_ok ok h
        · exact (runs_fail.1 h).elim
      | min =>
        simp only [opQ] at h
        simp only [opR, evs]
        split at h
        · rename_i x y he
          obtain ⟨h1, h2⟩ := vQ h
          obtain ⟨rfl, k, a, b, hx, hy, hw⟩ := minQ_den h1
          rw [he, denE_v h2, hw]
          simp only [List.map_cons, List.map_nil, hx, hy, Bool.false_eq_true, if_false]
          exact vR min_run
        · exact (runs_fail.1 h).elim
      | max =>
        simp only [opQ] at h
        simp only [opR, evs]
        split at h
        · rename_i x y he
          obtain ⟨h1, h2⟩ := vQ h
          obtain ⟨rfl, k, a, b, hx, hy, hw⟩ := minQ_den h1
          rw [he, denE_v h2, hw]
          simp only [List.map_cons, List.map_nil, hx, hy, if_true]
          exact vR max_run
        · exact (runs_fail.1 h).elim
      | _ => exact (runs_fail.1 h).elim
  | _ => exact (runs_fail.1 h).elim
end Go.Proofs.YtbfgmnjhikaagaaGreatDoor.PN
namespace Go.Proofs.YtbfgmnjhikaagaaGreatDoor.PN
open Go Go.Proofs.YtbfgmnjhikaagaaGreatDoor.PM
variable {G : Sg} {P : Program} {α β L : Type} {C : Cert} {prim : FuncId → Option (List T → List Ob → Option (T × List Ob))}
def Tree.yields (R : L → Prop) : Tree L → Prop
  | .leaf x => R x
  | .fail => False
  | .need c _ k => ∃ h : c, (k h).yields R
  | .ite c _ t e => (∃ h : c, (t h).yields R) ∨ ∃ h : ¬ c, (e h).yields R
  | .call _ x k => ∃ r, x = some r ∧ (k r).yields R
  | .callc _ x _ k => ∃ e r h, (k e r h).yields R
  | .same _ x _ r k => ∃ e h, (k e h).yields R
  | .either _ _ x l r => match x with
    | .inl a => (l a).yields R
    | .inr b => (r b).yields R
variable {R : L → Prop}
theorem runQ_yields {lk : Nat → O G.El} : ∀ {q : Q G.El α} {h : H} {k : α → List Nat → H → Tree L}, (runQ lk q h k).yields R → ∃ a l h', q.runs lk a l ∧ (k a l h').yields R := by
  intro q
  induction q with
  | ret a => intro h k hy; exact ⟨a, [], h, ⟨rfl, rfl⟩, hy⟩
  | fail => intro h k hy; exact hy.elim
  | get o f ih =>
    intro h k hy
    obtain ⟨a, l, h', h1, h2⟩ := ih (lk o) hy
    exact ⟨a, o :: l, h', (says_mono (lk := lk) (q := f (lk o)) (fun a' l' hh => ⟨hh.1, by rw [hh.2]⟩) h1 : (f (lk o)).says lk fun a' l' => a' = a ∧ o :: l' = o :: l), h2⟩
  | need c d f ih =>
    intro h k hy
    obtain ⟨hc, hy⟩ := hy
    obtain ⟨a, l, h', h1, h2⟩ := ih hy
    exact ⟨a, l, h', ⟨hc, h1⟩, h2⟩
  | call ρ x f ih =>
    intro h k hy
    have plain : ∀ h, (Tree.call ρ x fun r => runQ lk (f r) h k).yields R → ∃ a l h', (Q.call ρ x f).runs lk a l ∧ (k a l h').yields R := by
      intro h hy
      obtain ⟨r, hr, hy⟩ := hy
      obtain ⟨a, l, h', h1, h2⟩ := ih r hy
      exact ⟨a, l, h', ⟨r, hr, h1⟩, h2⟩
    cases h with
    | bindr ρ' g =>
      obtain ⟨e, r, hr, hy⟩ := hy
      obtain ⟨a, l, h', h1, h2⟩ := ih (e ▸ r) hy
      exact ⟨a, l, h', ⟨_, hr, h1⟩, h2⟩
    | re ρ' r n =>
      obtain ⟨e, hr, hy⟩ := hy
      obtain ⟨a, l, h', h1, h2⟩ := ih (e ▸ r) hy
      exact ⟨a, l, h', ⟨_, hr, h1⟩, h2⟩
    | all => exact plain _ hy
    | both a b => exact plain _ hy
    | l a => exact plain _ hy
    | r a => exact plain _ hy
    | two a b => exact plain _ hy
    | skip n => exact plain _ hy
  | either β γ x f g ih1 ih2 =>
    intro h k hy
    have hy : ∃ h1 h2, (Tree.either β γ x (fun a => runQ lk (f a) h1 k) (fun b => runQ lk (g b) h2 k)).yields R := by
      cases h with
      | two h1 h2 => exact ⟨h1, h2, hy⟩
      | all => exact ⟨_, _, hy⟩
      | both a b => exact ⟨_, _, hy⟩
      | l a => exact ⟨_, _, hy⟩
      | r b => exact ⟨_, _, hy⟩
      | bindr ρ g => exact ⟨_, _, hy⟩
      | re ρ r n => exact ⟨_, _, hy⟩
      | skip n => exact ⟨_, _, hy⟩
    obtain ⟨h1, h2, hy⟩ := hy
    cases x with
    | inl a => exact ih1 a hy
    | inr b => exact ih2 b hy
theorem forkP_yields {c : Prop} {d : Decidable c} {h : H} {t e : H → Tree L} (hy : (forkP c d h t e).yields R) : (c ∧ ∃ h', (t h').yields R) ∨ (¬ c ∧ ∃ h', (e h').yields R) := by
  cases h with
  | all =>
    rcases hy with ⟨hc, hy⟩ | ⟨hc, hy⟩
    · exact .inl ⟨hc, _, hy⟩
    · exact .inr ⟨hc, _, hy⟩
  | both a b =>
    rcases hy with ⟨hc, hy⟩ | ⟨hc, hy⟩
    · exact .inl ⟨hc, _, hy⟩
    · exact .inr ⟨hc, _, hy⟩
  | l a => obtain ⟨hc, hy⟩ := hy; exact .inl ⟨hc, _, hy⟩
  | r b => obtain ⟨hc, hy⟩ := hy; exact .inr ⟨hc, _, hy⟩
  | two a b => exact hy.elim
  | bindr ρ g => exact hy.elim
  | re ρ r n => exact hy.elim
  | skip n => exact hy.elim
theorem fork_yields {v : V G.El} {h : H} {t e : H → Tree L} (hy : (fork v h t e).yields R) : ∃ b h', boolOf v = some b ∧ (if b = true then t h' else e h').yields R := by
  cases v with
  | bl b => cases b <;> exact ⟨_, h, rfl, hy⟩
  | bp n c d =>
    cases n with
    | false =>
      rcases forkP_yields hy with ⟨hc, h', hy⟩ | ⟨hc, h', hy⟩
      · exact ⟨true, h', by simp [boolOf, hc], hy⟩
      · exact ⟨false, h', by simp [boolOf, hc], hy⟩
    | true =>
      rcases forkP_yields hy with ⟨hc, h', hy⟩ | ⟨hc, h', hy⟩
      · exact ⟨false, h', by simp [boolOf, hc], hy⟩
      · exact ⟨true, h', by simp [boolOf, hc], hy⟩
  | bb n x =>
    cases n with
    | false =>
      rcases forkP_yields hy with ⟨hc, h', hy⟩ | ⟨hc, h', hy⟩
      · exact ⟨true, h', by simp [boolOf, hc], hy⟩
      · exact ⟨false, h', by simp at hc; simp [boolOf, hc], hy⟩
    | true =>
      rcases forkP_yields hy with ⟨hc, h', hy⟩ | ⟨hc, h', hy⟩
      · exact ⟨false, h', by simp [boolOf, hc], hy⟩
      · exact ⟨true, h', by simp at hc; simp [boolOf, hc], hy⟩
  | _ => exact hy.elim
theorem notV_ok {v w : V G.El} (h : notV v = some w) {b : Bool} (hb : boolOf w = some b) : boolOf v = some !b := by
  cases v with
  | bl x => obtain rfl := Option.some.inj h; obtain rfl := Option.some.inj hb; simp [boolOf]
  | bp n c d => obtain rfl := Option.some.inj h; obtain rfl := Option.some.inj hb; cases n <;> simp [boolOf]
  | bb n x => obtain rfl := Option.some.inj h; obtain rfl := Option.some.inj hb; cases n <;> simp [boolOf]
  | _ => cases h
theorem tmps_get {s : S G.El} {t : Nat} (h : t < s.n) : (denS G s).tmps[t]? = some (denV G (s.get t)) := by
  simp only [denS, List.getElem?_map, List.getElem?_range h, Option.map_some, S.get, decide_eq_true h]
theorem wantV_ok {ops : Array Oper} {s : S G.El} {o : Oper} {v : V G.El} {b : Bool} (h : wantV ops s o = some v) (hb : boolOf v = some b) : wantR ops (denS G s).tmps o = some b := by
  unfold wantV at h
  unfold wantR
  cases hg : o.guard with
  | none =>
    rw [hg] at h
    obtain rfl := Option.some.inj h
    exact hb
  | some p =>
    obtain ⟨j, want⟩ := p
    rw [hg] at h
    simp only at h ⊢
    cases hd : (ops[j]?).bind (·.dst) with
    | none => rw [hd] at h; cases h
    | some t =>
      rw [hd] at h
      simp only [Option.bind_some] at h ⊢
      by_cases ht : t < s.n
      · rw [tmps_get ht]
        by_cases hu : s.get t = .tup []
        · rw [hu] at h ⊢
          obtain rfl := Option.some.inj h
          obtain rfl := Option.some.inj hb
          rfl
        · have h' : wantB want (s.get t) = some v := by
            cases hs : s.get t with
            | tup ts =>
              rw [hs] at h
              cases ts with
              | nil => exact absurd hs hu
              | cons a r => exact h
            | _ => rw [hs] at h; exact h
          cases want with
          | true =>
            obtain rfl := Option.some.inj h'
            rw [(boolOf_some hb).1]; simp
          | false =>
            have := notV_ok h' hb
            rw [(boolOf_some this).1]; simp
      · have : s.get t = .dead := by simp [S.get, ht]
        rw [this] at h
        cases want with
        | true => obtain rfl := Option.some.inj h; cases hb
        | false => cases h
theorem wrOk_den (lk : Nat → O G.El) (base : Nat) (wr : List (Nat × O G.El)) : wrOk (lkT G lk) base (denWr G wr) = wrOkV lk base wr := by
  simp only [wrOk, wrOkV, denWr, List.all_map]
  congr 1
  funext p
  simp only [Function.comp]
  rw [born_den]
theorem stepN_ok (ok : SgOk P G) {E : Ev G.El} (hE : EvOk P C prim G E) {ops : Array Oper} {nx i : Nat} {o : Oper} {s : S G.El} {h : H} {k : S G.El → Log → H → Tree L} (hy : (stepN G E ops nx i o s h k).yields R) :
    ∃ s' lg h', stepR P (envT P C prim) ops nx i o (denS G s) = some (denS G s', lg) ∧ (k s' lg h').yields R := by
  unfold stepN at hy
  split at hy
  · exact hy.elim
  · rename_i v hv
    obtain ⟨b, h', hb, hy⟩ := fork_yields hy
    have hw := wantV_ok hv hb
    simp only [stepR, hw]
    cases b with
    | false =>
      simp only [Bool.false_eq_true, if_false] at hy
      exact ⟨putV s o.dst undV, _, h', by rw [putT_den]; rfl, hy⟩
    | true =>
      simp only [if_true] at hy
      by_cases hp : ∃ c a b, o.op = .pick c a b
      · obtain ⟨c, a, b, hp⟩ := hp
        rw [hp] at hy
        simp only at hy
        obtain ⟨bb, h'', hbb, hy⟩ := fork_yields hy
        have hev : evalT (denS G s).tmps c = .sc (.bool bb) := by rw [← eval_den]; exact (boolOf_some hbb).1
        have hop : ∀ base, (opR P (envT P C prim) (denS G s).tmps base o).run (lookIn (denS G s).store) = some (⟨if bb = true then evalT (denS G s).tmps a else evalT (denS G s).tmps b, []⟩, []) := by
          intro base
          obtain ⟨d, op, ty, pos, af, gd⟩ := o
          simp only at hp
          subst hp
          simp only [opR, hev]; rfl
        simp only [hop]
        cases bb with
        | true =>
          simp only [if_true] at hy ⊢
          refine ⟨putV s o.dst (evalV s a), _, h'', ?_, hy⟩
          rw [putT_den, eval_den]; simp [wrOk, putAll]
        | false =>
          simp only [Bool.false_eq_true, if_false] at hy ⊢
          refine ⟨putV s o.dst (evalV s b), _, h'', ?_, hy⟩
          rw [putT_den, eval_den]; simp [wrOk, putAll]
      · have hy : (runQ (lookO s.st) (opQ G E s (nx + room * i) o) h' fun e l h => match wrOkV (lookO s.st) (nx + room * i) e.wr with
            | true => k { putV s o.dst e.val with st := putOs s.st e.wr } ⟨i, l, e.wr.map (·.1)⟩ h
            | false => .fail).yields R := by
          cases ho : o.op with
          | pick c a b => exact absurd ⟨c, a, b, ho⟩ hp
          | _ => rw [ho] at hy; exact hy
        obtain ⟨e, l, h'', hr, hy⟩ := runQ_yields hy
        have hop := opQ_ok ok hE hr
        rw [lk_den] at hop
        simp only [hop]
        have hwr := wrOk_den (lookO s.st) (nx + room * i) e.wr
        rw [lk_den] at hwr
        cases hwo : wrOkV (lookO s.st) (nx + room * i) e.wr with
        | false => rw [hwo] at hy; exact hy.elim
        | true =>
          rw [hwo] at hy hwr
          refine ⟨_, _, h'', ?_, hy⟩
          simp only [denE, hwr, if_true]
          have hput := putT_den s o.dst e.val
          have h1 : denS G { putV s o.dst e.val with st := putOs s.st e.wr } = { denS G (putV s o.dst e.val) with store := denWr G (putOs s.st e.wr) } := rfl
          rw [h1, hput, putAll_den]
          simp [denWr, denS, Function.comp]
theorem runOpsN_ok (ok : SgOk P G) {E : Ev G.El} (hE : EvOk P C prim G E) {ops : Array Oper} {nx : Nat} : ∀ {l : List Oper} {i : Nat} {s : S G.El} {h : H} {k : S G.El → List Log → H → Tree L}, (runOpsN G E ops nx i l s h k).yields R →
    ∃ s' lgs h', runOps P (envT P C prim) ops nx i l (denS G s) = some (denS G s', lgs) ∧ (k s' lgs h').yields R
  | [], i, s, h, k, hy => ⟨s, [], h, rfl, hy⟩
  | o :: r, i, s, h, k, hy => by
    simp only [runOpsN] at hy
    obtain ⟨s1, l1, h1, hs, hy⟩ := stepN_ok ok hE hy
    obtain ⟨s2, l2, h2, hs2, hy⟩ := runOpsN_ok ok hE hy
    refine ⟨s2, l1 :: l2, h2, ?_, hy⟩
    simp only [runOps, hs, hs2]
theorem regionN_ok (ok : SgOk P G) {E : Ev G.El} (hE : EvOk P C prim G E) {ps : List (List Nat)} {ops : Array Oper} {draw : Bool} {s : S G.El} {h : H} {k : S G.El → H → Tree L} (hy : (regionN G E ps ops draw s h k).yields R) :
    ∃ s' h', regionR P (envT P C prim) ps ops draw (denS G s) = some (denS G s') ∧ (k s' h').yields R := by
  unfold regionN at hy
  obtain ⟨s1, l1, h1, hs, hy⟩ := runOpsN_ok ok hE hy
  have hnx : (denS G s).nx = s.nx := rfl
  cases hd : draw && !logsR ps (l1.filter fun l => !l.bare) with
  | true => rw [hd] at hy; exact hy.elim
  | false =>
    rw [hd] at hy
    refine ⟨_, h1, ?_, hy⟩
    simp only [regionR, hnx, hs, hd, Bool.false_eq_true, if_false]
    rfl
end Go.Proofs.YtbfgmnjhikaagaaGreatDoor.PN
namespace Go.Proofs.YtbfgmnjhikaagaaGreatDoor.PN
open Go Go.Proofs.YtbfgmnjhikaagaaGreatDoor.PM
variable {G : Sg} {P : Program} {α β γ : Type} {lk : Nat → O G.El}
theorem mapQ_nil {f : α → Q G.El β} (hf : ∀ x y l, (f x).runs lk y l → l = []) : ∀ {xs : List α} {ys : List β} {l : List Nat}, (mapQ f xs).runs lk ys l → l = []
  | [], ys, l, h => (runs_ret.1 h).2
  | x :: r, ys, l, h => by
    simp only [mapQ, runs_bind, runs_pure] at h
    obtain ⟨y, l1, l2, h1, ⟨zs, l3, l4, h2, ⟨_, rfl⟩, rfl⟩, rfl⟩ := h
    rw [hf x y l1 h1, mapQ_nil hf h2]; rfl
theorem mapQ_map {f : α → Q G.El β} {a : α → γ} {b : β → γ} (hf : ∀ x y l, (f x).runs lk y l → b y = a x) : ∀ {xs : List α} {ys : List β} {l : List Nat}, (mapQ f xs).runs lk ys l → ys.map b = xs.map a
  | [], ys, l, h => by obtain ⟨rfl, rfl⟩ := runs_ret.1 h; rfl
  | x :: r, ys, l, h => by
    simp only [mapQ, runs_bind, runs_pure] at h
    obtain ⟨y, l1, l2, h1, ⟨zs, l3, l4, h2, ⟨rfl, rfl⟩, rfl⟩, rfl⟩ := h
    rw [List.map_cons, List.map_cons, hf x y l1 h1, mapQ_map hf h2]
theorem canN_v (i : N) : (canN i).v = i.v := by
  unfold canN
  split
  · rename_i h; exact (is0_v h).symm
  · rfl
theorem l_v (n : Nat) : (N.l n).v = n := rfl
theorem d_v (m n : Nat) : (N.d m n).v = n := rfl
theorem denV_agg {v : V G.El} {l : List T} (h : denV G v = .agg l) : ∃ cs, v = .agg cs := by
  cases v with
  | agg cs => exact ⟨cs, rfl⟩
  | bp n c d => cases n <;> cases h
  | bb n x => cases n <;> cases h
  | _ => cases h
theorem canC_ok {nm : Nat} {look : Nat → O G.El} {v w : V G.El} {l : List Nat} (h : (canC nm look v).runs lk w l) : l = [] ∧ denV G w = denV G v ∧ den1 G w = den1 G v := by
  cases v with
  | bl b => obtain ⟨rfl, rfl⟩ := runs_ret.1 h; exact ⟨rfl, rfl, rfl⟩
  | bp n c d => cases n <;> · obtain ⟨rfl, rfl⟩ := runs_ret.1 h; exact ⟨rfl, rfl, rfl⟩
  | bb n x => cases n <;> · obtain ⟨rfl, rfl⟩ := runs_ret.1 h; exact ⟨rfl, rfl, rfl⟩
  | il k n => obtain ⟨rfl, rfl⟩ := runs_ret.1 h; exact ⟨rfl, rfl, rfl⟩
  | id k m n => obtain ⟨rfl, rfl⟩ := runs_ret.1 h; exact ⟨rfl, rfl, rfl⟩
  | ptr o i j =>
    obtain ⟨rfl, rfl⟩ := runs_ret.1 h
    refine ⟨rfl, ?_, ?_⟩ <;> simp [denV, denA, den1, canN_v]
  | win o full off len =>
    have two : ∀ {w : V G.El} {l : List Nat}, (Q.ret (.win o false (canN off) (.d 0 len.v)) : Q G.El (V G.El)).runs lk w l → l = [] ∧ denV G w = denV G (.win o full off len) ∧ den1 G w = den1 G (.win o full off len) := by
      intro w l h
      obtain ⟨rfl, rfl⟩ := runs_ret.1 h
      refine ⟨rfl, ?_, ?_⟩ <;> simp [denV, denA, den1, canN_v, l_v, d_v]
    simp only [canC] at h
    split at h
    · rename_i al mw kp ver t xs last hl
      split at h
      · rename_i hf
        simp only [Bool.and_eq_true] at hf
        simp only [runs_bind, runs_ndEq, runs_pure] at h
        obtain ⟨_, _, _, ⟨h1, rfl⟩, ⟨rfl, rfl⟩, rfl⟩ := h
        have h0 := is0_v hf.2
        refine ⟨rfl, ?_, ?_⟩ <;> simp [denV, denA, den1, rowsOf_length, h0, h1, l_v, d_v]
      · exact two h
    · exact two h
  | _ => obtain ⟨rfl, rfl⟩ := runs_ret.1 h; exact ⟨rfl, rfl, rfl⟩
theorem canA_ok {nm : Nat} {look : Nat → O G.El} {v w : V G.El} {l : List Nat} (h : (canA nm look v).runs lk w l) : l = [] ∧ denV G w = denV G v ∧ denA G w = denA G v := by
  by_cases hv : ∃ cs, v = .agg cs
  · obtain ⟨cs, rfl⟩ := hv
    simp only [canA, runs_bind, runs_pure] at h
    obtain ⟨ys, l1, _, h1, ⟨rfl, rfl⟩, rfl⟩ := h
    have h2 := mapQ_nil (fun x y l h => (canC_ok h).1) h1
    have h3 := mapQ_map (a := den1 G) (b := den1 G) (fun x y l h => by rw [(canC_ok h).2.2, den1_cell1]) h1
    subst h2
    exact ⟨rfl, congrArg T.agg h3, congrArg T.agg h3⟩
  · have e : canA nm look v = canC nm look v := by cases v <;> first | rfl | exact absurd ⟨_, rfl⟩ hv
    rw [e] at h
    obtain ⟨h1, h2, h3⟩ := canC_ok h
    refine ⟨h1, h2, ?_⟩
    have hw : ∀ cs, w ≠ .agg cs := by
      rintro cs rfl
      exact hv (denV_agg (h2.symm : denV G v = T.agg (cs.map (den1 G))))
    rw [denA_not_agg hw, denA_not_agg fun cs e => hv ⟨cs, e⟩, h3]
theorem canV_ok {look : Nat → O G.El} {v w : V G.El} {l : List Nat} (h : (canV look v).runs lk w l) : l = [] ∧ denV G w = denV G v := by
  by_cases hv : ∃ ts, v = .tup ts
  · obtain ⟨ts, rfl⟩ := hv
    simp only [canV, runs_bind, runs_pure] at h
    obtain ⟨ys, l1, _, h1, ⟨rfl, rfl⟩, rfl⟩ := h
    have h2 := mapQ_nil (fun x y l h => (canA_ok h).1) h1
    have h3 := mapQ_map (a := denA G) (b := denA G) (fun x y l h => (canA_ok h).2.2) h1
    subst h2
    exact ⟨rfl, congrArg T.tup h3⟩
  · have e : canV look v = canA 0 look v := by cases v <;> first | rfl | exact absurd ⟨_, rfl⟩ hv
    rw [e] at h
    exact ⟨(canA_ok h).1, (canA_ok h).2.1⟩
theorem canO_ok {nm : Nat → Nat} {look : Nat → O G.El} {x w : O G.El} {l : List Nat} (h : (canO nm look x).runs lk w l) : l = [] ∧ denO G w = denO G x := by
  cases x with
  | row a m k v t xs last => obtain ⟨rfl, rfl⟩ := runs_ret.1 h; exact ⟨rfl, rfl⟩
  | gone => obtain ⟨rfl, rfl⟩ := runs_ret.1 h; exact ⟨rfl, rfl⟩
  | box a m v k g cs =>
    simp only [canO, runs_bind, runs_pure] at h
    obtain ⟨ys, l1, _, h1, ⟨rfl, rfl⟩, rfl⟩ := h
    have h2 := mapQ_nil (fun x y l h => (canC_ok h).1) h1
    have h3 := mapQ_map (a := fun p : V G.El × Nat => den1 G p.1) (b := den1 G) (fun x y l h => by rw [(canC_ok h).2.2, den1_cell1]) h1
    subst h2
    have h4 : cs.zipIdx.map (fun p => den1 G p.1) = cs.map (den1 G) := by
      have : (fun p : V G.El × Nat => den1 G p.1) = den1 G ∘ Prod.fst := rfl
      rw [this, ← List.map_map, List.zipIdx_map_fst]
    refine ⟨rfl, ?_⟩
    simp only [denO, h3, h4]
variable {look : Nat → O G.El}
theorem refsBox {al mw : Bool} {ver k : Nat} {g : Bool} {cs : List (V G.El)} : [wrapT g (cs.map (den1 G))].flatMap refs = (cellsO (.box al mw ver k g cs : O G.El)).flatMap refs1V := by
  simp only [List.flatMap_cons, List.flatMap_nil, List.append_nil, cellsO]
  cases g with
  | true =>
    simp only [oneOr, Bool.true_or, wrapT, refs, List.flatMap_map]
    exact flatMap_same fun c _ => refs1_den c
  | false =>
    match cs with
    | [] => rfl
    | [c] =>
      show refs (den1 G c) = [c].flatMap refs1V
      simp only [List.flatMap_cons, List.flatMap_nil, List.append_nil]
      rw [← refs1_den]
      cases hd : den1 G c with
      | agg l => exact absurd hd (den1_agg c l)
      | tup l => exact absurd hd (den1_tup c l)
      | _ => rfl
    | _ :: _ :: _ => rfl
theorem reachO_den : ∀ (n : Nat) (os done : List Nat), reachN (lkT G look) n os done = reachO look n os done
  | 0, os, done => by cases os <;> rfl
  | n + 1, [], done => rfl
  | n + 1, o :: r, done => by
    simp only [reachN, reachO, lkT, alive_den]
    cases hc : done.contains o || !(look o).alive with
    | true => rw [if_pos rfl]; exact reachO_den n r done
    | false =>
      rw [if_neg (by simp)]
      have : (if (denO G (look o)).row then [] else (denO G (look o)).xs.flatMap refs) = (cellsO (look o)).flatMap refs1V := by
        cases hx : look o with
        | row a m k v t xs last => rfl
        | gone => rfl
        | box a m v k g cs => exact refsBox
      rw [this]
      exact reachO_den n _ _
theorem validO_den (src : Src) : validB (lkT G look) src = validO look src := by
  simp only [validB, validO, lkT, alive_den, ver_den]
theorem srcO_den (K : List Nat) : srcN K (lkT G look) (fun _ => 0) = srcO K look := by
  funext l
  simp only [srcN, srcO, validO_den]
  cases validO look l <;> rfl
def selT (look : Nat → Ob) (m : Bool) (t : T) : T := match m with
  | false => t
  | true => match t with
    | .nil => .sl [] []
    | .win o off len => let x := look o
      if x.alive && x.row && decide (off + len ≤ x.xs.length) then .sl ((x.xs.drop off).take len) (if x.may then [(o, x.ver)] else []) else .dead
    | t => t
theorem pickTmps_get {keep : List (Nat × Bool)} {look : Nat → Ob} : ∀ (l : List T) (j i : Nat), (pickTmps keep look j l)[i]? = (l[i]?).map fun t => match keep.find? (·.1 == j + i) with
    | none => .dead
    | some p => selT look p.2 t
  | [], j, i => by simp [pickTmps]
  | t :: r, j, 0 => by
    simp only [pickTmps, List.getElem?_cons_zero, Option.map_some, Nat.add_zero]
    cases keep.find? (·.1 == j) with
    | none => rfl
    | some p =>
      obtain ⟨q, m⟩ := p
      cases m with
      | false => rfl
      | true => cases t <;> rfl
  | t :: r, j, i + 1 => by
    simp only [pickTmps, List.getElem?_cons_succ]
    rw [pickTmps_get r (j + 1) i, Nat.add_assoc, Nat.add_comm 1 i]
theorem pickQ_ok {kt : Nat → Nat} {s : S G.El} : ∀ {keep : List (Nat × Nat)} {ts : List (Nat × V G.El)} {l : List Nat}, (pickQ look kt s keep).runs lk ts l →
    l = [] ∧ ts.map (fun p => (p.1, denV G p.2)) = keep.map (fun p => (p.1, selT (lkT G look) (p.2 == 1) (denV G (s.get p.1)))) ∧ ∀ p ∈ keep, p.1 < s.n
  | [], ts, l, h => by obtain ⟨rfl, rfl⟩ := runs_ret.1 h; exact ⟨rfl, rfl, fun p hp => by cases hp⟩
  | (q, m) :: r, ts, l, h => by
    simp only [pickQ, runs_bind, runs_grd, runs_pure, decide_eq_true_eq] at h
    obtain ⟨_, _, _, ⟨hq, rfl⟩, ⟨v, l3, _, hv, ⟨tl, l5, _, ht, ⟨rfl, rfl⟩, rfl⟩, rfl⟩, rfl⟩ := h
    obtain ⟨rfl, h1, h2⟩ := pickQ_ok ht
    have key : l3 = [] ∧ denV G v = selT (lkT G look) (m == 1) (denV G (s.get q)) := by
      cases hm : m == 1 with
      | false => rw [hm] at hv; obtain ⟨rfl, rfl⟩ := runs_pure.1 hv; exact ⟨rfl, rfl⟩
      | true =>
        rw [hm] at hv
        simp only at hv
        cases hg : s.get q with
        | nil => rw [hg] at hv; obtain ⟨rfl, rfl⟩ := runs_pure.1 hv; exact ⟨rfl, rfl⟩
        | win o full off len =>
          rw [hg] at hv
          simp only at hv
          have hT : ∀ r, (if (denO G (look o)).alive && (denO G (look o)).row && decide (off.v + len.v ≤ (denO G (look o)).xs.length) then T.sl (((denO G (look o)).xs.drop off.v).take len.v) (if (denO G (look o)).may then [(o, (denO G (look o)).ver)] else []) else .dead) = r → selT (lkT G look) true (denV G (.win o full off len)) = r := fun r h => h
          split at hv
          · rename_i mw kp ver t xs last hl
            simp only [runs_bind, runs_pure] at hv
            obtain ⟨ys, _, _, h4, ⟨rfl, rfl⟩, rfl⟩ := hv
            obtain ⟨rfl, h5, rfl⟩ := winQ_ok h4
            refine ⟨rfl, (hT _ ?_).symm⟩
            rw [hl, lenT, winT]
            simp only [denO, Bool.and_true, Bool.true_and, decide_eq_true h5, if_true]
            cases mw <;> rfl
          · rename_i hl
            obtain ⟨rfl, rfl⟩ := runs_pure.1 hv
            refine ⟨rfl, (hT _ ?_).symm⟩
            cases hx : look o with
            | row al mw kp ver t xs last =>
              cases al with
              | true => exact absurd hx (hl _ _ _ _ _ _)
              | false => simp [denO]; rfl
            | box al mw ver k g cs => simp [denO]; rfl
            | gone => simp [denO, Ob.gone]; rfl
        | bp n c d => rw [hg] at hv; obtain ⟨rfl, rfl⟩ := runs_pure.1 hv; cases n <;> exact ⟨rfl, rfl⟩
        | bb n x => rw [hg] at hv; obtain ⟨rfl, rfl⟩ := runs_pure.1 hv; cases n <;> exact ⟨rfl, rfl⟩
        | _ => rw [hg] at hv; obtain ⟨rfl, rfl⟩ := runs_pure.1 hv; exact ⟨rfl, rfl⟩
    obtain ⟨rfl, key⟩ := key
    refine ⟨rfl, ?_, ?_⟩
    · rw [List.map_cons, List.map_cons, h1, key]
    · intro p hp
      rcases List.mem_cons.1 hp with rfl | hp
      · exact hq
      · exact h2 p hp
theorem setTm_den (s : S G.El) (q : Nat) (v : V G.El) (h : q < s.n) (st : List (Nat × O G.El)) (nx : Nat) : denS G { s with tm := (q, v) :: s.tm, st := st, nx := nx } = { denS G s with tmps := (denS G s).tmps.set q (denV G v), store := denWr G st, nx := nx } := by
  have := putT_den s (some q) v
  simp only [putV, decide_eq_true h, putT] at this
  have h1 := congrArg St.tmps this
  simp only [denS] at h1 ⊢
  simp only [St.mk.injEq, and_true]
  exact h1
theorem den_nil {v : V G.El} (h : denV G v = .nil) : v = .nil := by
  cases v with
  | nil => rfl
  | bp n c d => cases n <;> cases h
  | bb n x => cases n <;> cases h
  | _ => cases h
theorem freshS_ok {kt : Nat → Nat} : ∀ {keep : List (Nat × Nat)} {s s' : S G.El} {l : List Nat}, (freshS G kt keep s).runs lk s' l → l = [] ∧ freshR keep (denS G s) = denS G s' ∧ s'.n = s.n ∧ s'.m = s.m
  | [], s, s', l, h => by obtain ⟨rfl, rfl⟩ := runs_ret.1 h; exact ⟨rfl, rfl, rfl, rfl⟩
  | (q, k) :: r, s, s', l, h => by
    simp only [freshS] at h
    simp only [freshR]
    by_cases hk : k < 2
    · rw [decide_eq_true hk] at h
      rw [if_pos hk]
      exact freshS_ok h
    · rw [decide_eq_false hk] at h
      rw [if_neg hk]
      have same : (∀ x, s.get q ≠ .nil ∨ x = ()) → s.get q ≠ .nil → fresh1 q (k - 2) (denS G s) = denS G s := by
        intro _ hne
        unfold fresh1
        by_cases hq : q < s.n
        · rw [tmps_get hq]
          split
          · rename_i he
            exact absurd (den_nil (Option.some.inj he)) hne
          · rfl
        · have : (denS G s).tmps[q]? = none := by
            rw [List.getElem?_eq_none_iff]; simp only [denS, List.length_map, List.length_range]; omega
          rw [this]
      simp only at h
      split at h
      · rename_i hg
        simp only [runs_bind, widthQ, runs_grd, beq_iff_eq] at h
        obtain ⟨_, _, _, ⟨hw, rfl⟩, h1, rfl⟩ := h
        have hq : q < s.n := by
          by_cases hq : q < s.n
          · exact hq
          · simp [S.get, hq] at hg
        obtain ⟨rfl, h2, h3, h4⟩ := freshS_ok h1
        refine ⟨rfl, ?_, h3, h4⟩
        rw [← h2, setTm_den s q _ hq, putAll_den]
        congr 1
        unfold fresh1
        rw [tmps_get hq, hg]
        simp only [denV, denA, den1, denWr, List.map_cons, List.map_nil, denO, rowsOf, hw, N.v]
        rfl
      · rename_i hg
        have := same (fun x => .inr rfl) (fun e => hg e)
        rw [this]
        exact freshS_ok h
end Go.Proofs.YtbfgmnjhikaagaaGreatDoor.PN
namespace Go.Proofs.YtbfgmnjhikaagaaGreatDoor.PN
open Go Go.Proofs.YtbfgmnjhikaagaaGreatDoor.PM
variable {G : Sg} {P : Program} {α β γ : Type} {lk : Nat → O G.El} {look : Nat → O G.El}
theorem findK_find {δ : Type} (g : Nat × γ → δ) : ∀ (l : List (Nat × γ)) (i : Nat), findK (l.map fun p => (p.1, g p)) i = (l.find? (fun p => p.1 == i)).map g
  | [], i => rfl
  | p :: r, i => by
    simp only [List.map_cons, findK, List.find?_cons]
    by_cases h : p.1 = i
    · simp [h]
    · have hb : (p.1 == i) = false := by simpa using h
      rw [if_neg h, hb]
      exact findK_find g r i
theorem find_map {δ : Type} (g : Nat × γ → δ) (l : List (Nat × γ)) (i : Nat) : (l.map fun p => (p.1, g p)).find? (fun p => p.1 == i) = (l.find? (fun p => p.1 == i)).map fun p => (p.1, g p) := by
  induction l with
  | nil => rfl
  | cons p r ih =>
    simp only [List.map_cons, List.find?_cons]
    cases hp : p.1 == i with
    | true => rfl
    | false => exact ih
theorem rising_keys : ∀ {l : List (Nat × Nat)} {p : Nat × Nat}, risingB (p :: l) = true → ∀ q ∈ l, p.1 < q.1
  | [], p, h, q, hq => by cases hq
  | a :: r, p, h, q, hq => by
    simp only [risingB, Bool.and_eq_true, decide_eq_true_eq] at h
    rcases List.mem_cons.1 hq with rfl | hq
    · exact h.1
    · exact Nat.lt_trans h.1 (rising_keys h.2 q hq)
theorem rising_tail {l : List (Nat × Nat)} {p : Nat × Nat} (h : risingB (p :: l) = true) : risingB l = true := by
  cases l with
  | nil => rfl
  | cons a r => simp only [risingB, Bool.and_eq_true] at h; exact h.2
theorem findK_none {δ : Type} : ∀ {l : List (Nat × δ)} {i : Nat}, (∀ p ∈ l, p.1 ≠ i) → findK l i = none
  | [], i, h => rfl
  | (k, x) :: r, i, h => by
    simp only [findK, if_neg (h (k, x) (by simp))]
    exact findK_none fun p hp => h p (by simp [hp])
theorem flat_keys {δ : Type} (f : δ → List Nat) : ∀ (n a : Nat) (keep : List (Nat × Nat)) (ts : List (Nat × δ)), ts.map (·.1) = keep.map (·.1) → risingB keep = true → (∀ p ∈ keep, a ≤ p.1 ∧ p.1 < a + n) →
    (List.range' a n).flatMap (fun i => match findK ts i with | some x => f x | none => []) = ts.flatMap fun p => f p.2
  | 0, a, keep, ts, hk, hr, hb => by
    cases keep with
    | nil => cases ts with
      | nil => rfl
      | cons t r => simp at hk
    | cons p r => have := hb p (by simp); omega
  | n + 1, a, keep, ts, hk, hr, hb => by
    rw [List.range'_succ, List.flatMap_cons]
    cases keep with
    | nil =>
      cases ts with
      | nil =>
        simp only [findK, List.nil_append, List.flatMap_nil]
        exact flat_keys f n (a + 1) [] [] rfl rfl fun p hp => by cases hp
      | cons t r => simp at hk
    | cons p r =>
      cases ts with
      | nil => simp at hk
      | cons t q =>
        obtain ⟨k, x⟩ := t
        simp only [List.map_cons, List.cons.injEq] at hk
        obtain ⟨rfl, hk⟩ := hk
        have hp := hb p (by simp)
        have hlt := rising_keys hr
        by_cases ha : p.1 = a
        · have h1 : findK ((p.1, x) :: q) a = some x := by simp [findK, ha]
          rw [h1, List.flatMap_cons]
          congr 1
          have h2 : (List.range' (a + 1) n).flatMap (fun i => match findK ((p.1, x) :: q) i with | some x => f x | none => []) = (List.range' (a + 1) n).flatMap (fun i => match findK q i with | some x => f x | none => []) := by
            refine flatMap_same fun i hi => ?_
            have : p.1 ≠ i := by have := (List.mem_range'_1.1 hi).1; omega
            simp only [findK, if_neg this]
          rw [h2]
          exact flat_keys f n (a + 1) r q hk (rising_tail hr) fun z hz => by have := hlt z hz; have := hb z (by simp [hz]); omega
        · have hge : a + 1 ≤ p.1 := by omega
          have h1 : findK ((p.1, x) :: q) a = none := by
            refine findK_none fun z hz => ?_
            rcases List.mem_cons.1 hz with rfl | hz
            · exact ha
            · have : z.1 ∈ r.map (·.1) := by rw [← hk]; exact List.mem_map_of_mem hz
              obtain ⟨y, hy, hyz⟩ := List.mem_map.1 this
              have := hlt y hy
              rw [← hyz]; omega
          rw [h1, List.nil_append]
          exact flat_keys f n (a + 1) (p :: r) ((p.1, x) :: q) (by simp [hk]) hr fun z hz => by
            have h3 := hb z hz
            rcases List.mem_cons.1 hz with rfl | hz
            · omega
            · have := hlt z hz; omega
theorem normS_ok {kt : Nat → Nat} {keep : List (Nat × Nat)} {s s' : S G.El} {l : List Nat} (h : (normS G kt keep s).runs lk s' l) : normR keep (denS G s) = denS G s' := by
  simp only [normS, runs_bind, runs_grd] at h
  obtain ⟨_, _, _, ⟨hr, rfl⟩, ⟨s1, _, _, h1, ⟨ts, _, _, h2, ⟨us, _, _, h3, ⟨os, _, _, h4, h5, rfl⟩, rfl⟩, rfl⟩, rfl⟩, rfl⟩ := h
  obtain ⟨rfl, rfl⟩ := runs_pure.1 h5
  obtain ⟨rfl, hf, hn, hm⟩ := freshS_ok h1
  obtain ⟨rfl, hts, hlt⟩ := pickQ_ok h2
  have hus : us.map (fun p => (p.1, denV G p.2)) = ts.map (fun p => (p.1, denV G p.2)) := by
    refine mapQ_map (a := fun p : Nat × V G.El => (p.1, denV G p.2)) (b := fun p : Nat × V G.El => (p.1, denV G p.2)) ?_ h3
    intro p q l hq
    simp only [runs_bind, runs_pure] at hq
    obtain ⟨v, l1, _, hv, ⟨rfl, rfl⟩, rfl⟩ := hq
    simp only [Prod.mk.injEq, true_and]
    cases hp : p.2 with
    | tup tt => rw [hp] at hv; obtain ⟨rfl, rfl⟩ := runs_pure.1 hv; rfl
    | _ => rw [hp] at hv; exact (canA_ok hv).2.1
  let st := denS G s1
  let keepB : List (Nat × Bool) := keep.map fun p => (p.1, p.2 == 1)
  let lT := lkT G (lookO s1.st)
  have hlT : lookIn st.store = lT := (lk_den s1).symm
  have hTS : pickTmps keepB lT 0 st.tmps = (List.range s1.n).map fun i => (findK (ts.map fun p => (p.1, denV G p.2)) i).getD .dead := by
    apply List.ext_getElem?
    intro i
    rw [pickTmps_get, List.getElem?_map]
    by_cases hi : i < s1.n
    · rw [tmps_get hi, List.getElem?_range hi]
      simp only [Option.map_some, Nat.zero_add]
      rw [hts, findK_find (fun p : Nat × Nat => selT (lkT G (lookO s1.st)) (p.2 == 1) (denV G (s1.get p.1))), find_map (fun p : Nat × Nat => p.2 == 1)]
      cases hfd : keep.find? (fun p => p.1 == i) with
      | none => rfl
      | some p =>
        have : p.1 = i := by simpa using List.find?_some hfd
        subst this
        rfl
    · have e1 : st.tmps[i]? = none := by rw [List.getElem?_eq_none_iff]; simp only [st, denS, List.length_map, List.length_range]; omega
      have e2 : (List.range s1.n)[i]? = none := by rw [List.getElem?_eq_none_iff, List.length_range]; omega
      rw [e1, e2]; rfl
  have hkeys : ts.map (·.1) = keep.map (·.1) := by
    have := congrArg (List.map Prod.fst) hts
    simpa [List.map_map, Function.comp_def] using this
  have hRefs : (pickTmps keepB lT 0 st.tmps).flatMap refs = ts.flatMap fun p => refsV p.2 := by
    rw [hTS, List.flatMap_map, List.range_eq_range']
    have h6 := flat_keys (fun v : V G.El => refsV v) s1.n 0 keep ts hkeys hr (fun p hp => ⟨Nat.zero_le _, by have := hlt p hp; omega⟩)
    rw [← h6]
    refine flatMap_same fun i _ => ?_
    rw [findK_map]
    cases findK ts i with
    | none => rfl
    | some v => exact refs_den v
  have hK : (List.range st.m ++ (reachN lT 64 (List.range st.m ++ (pickTmps keepB lT 0 st.tmps).flatMap refs) []).filter fun o => !decide (o < st.m)) =
      (List.range s1.m ++ (reachO (lookO s1.st) 64 (List.range s1.m ++ ts.flatMap fun p => refsV p.2) []).filter fun o => !decide (o < s1.m)) := by
    rw [hRefs, reachO_den]; rfl
  show normB keepB (freshR keep (denS G s)) = _
  rw [hf]
  show normB keepB st = _
  simp only [normB, hlT]
  rw [hK, srcO_den]
  generalize hKK : (List.range s1.m ++ (reachO (lookO s1.st) 64 (List.range s1.m ++ ts.flatMap fun p => refsV p.2) []).filter fun o => !decide (o < s1.m)) = K at h4 ⊢
  rw [hTS]
  have hmm : st.m = s1.m := rfl
  simp only [denS, St.mk.injEq, hmm]
  refine ⟨?_, ?_, trivial, trivial⟩
  · rw [List.map_map]
    refine List.map_congr_left fun i _ => ?_
    simp only [Function.comp]
    rw [← hus, findK_map, lookV, findK_map]
    cases findK us i with
    | none => rfl
    | some v => exact (mapV_den v).symm
  · have := mapQ_map (a := fun p : Nat × Nat => (p.2, ({ mapOb (posIn K) (srcO K (lookO s1.st)) (lT p.1) with ver := 0 } : Ob))) (b := fun p : Nat × O G.El => (p.1, denO G p.2)) ?_ h4
    · simp only [denWr]; rw [this]
    · intro p q l hq
      simp only [runs_bind, runs_pure] at hq
      obtain ⟨x, l1, _, hx, ⟨rfl, rfl⟩, rfl⟩ := hq
      obtain ⟨_, hx⟩ := canO_ok hx
      simp only [Prod.mk.injEq, true_and]
      rw [setVer_den _ _ (.inr rfl), mapO_den, hx]
theorem resQ_ok (ok : SgOk P G) {fn : Func} {s : S G.El} {v : V G.El} {l : List Nat} (h : (resQ G fn s).runs (lookO s.st) v l) : (resR P fn (denS G s)).run (lookIn (denS G s).store) = some (denV G v, l) := by
  simp only [resQ, runs_bind] at h
  obtain ⟨vs, l1, l2, h1, h2, rfl⟩ := h
  rw [← lk_den]
  have h3 : (mapR (fun r => match r with
    | .tmp t => Rd.ret (((denS G s).tmps[t]?).getD .dead)
    | .cell a t => loadR P t (((denS G s).tmps[a]?).getD .dead)) fn.results.toList).run (lkT G (lookO s.st)) = some (vs.map (denA G), l1) := by
    have := mapQ_ok (a := fun r : ResultVar => r) (b := denA G) (g := fun r => match r with
      | .tmp t => Rd.ret (((denS G s).tmps[t]?).getD .dead)
      | .cell a t => loadR P t (((denS G s).tmps[a]?).getD .dead)) (fun r y l hr => ?_) h1
    · rwa [List.map_id'] at this
    · cases r with
      | tmp t =>
        simp only [runs_bind, runs_grd, runs_pure] at hr
        obtain ⟨_, _, _, ⟨ha, rfl⟩, ⟨rfl, rfl⟩, rfl⟩ := hr
        show (Rd.ret (((denS G s).tmps[t]?).getD .dead)).run _ = _
        rw [← get_den, denV_okA ha]; rfl
      | cell a t =>
        obtain ⟨h4, h5⟩ := loadQ_ok ok hr
        show (loadR P t (((denS G s).tmps[a]?).getD .dead)).run _ = _
        rw [← get_den]; exact h4
  have hA : ∀ v ∈ vs, okA v = true := by
    refine mapQ_all (p := fun v => okA v = true) (fun r y l hr => ?_) h1
    cases r with
    | tmp t =>
      simp only [runs_bind, runs_grd, runs_pure] at hr
      obtain ⟨_, _, _, ⟨ha, rfl⟩, ⟨rfl, rfl⟩, rfl⟩ := hr
      exact ha
    | cell a t => exact (loadQ_ok ok hr).2
  simp only [resR]
  refine bind_some.2 ⟨_, l1, l2, h3, ?_, rfl⟩
  match vs, h2, hA with
  | [v1], h2, hA =>
    obtain ⟨rfl, rfl⟩ := runs_pure.1 h2
    rw [denV_okA (hA _ (by simp))]; rfl
  | [], h2, hA => obtain ⟨rfl, rfl⟩ := runs_pure.1 h2; rfl
  | a :: b :: r, h2, hA => obtain ⟨rfl, rfl⟩ := runs_pure.1 h2; rfl
def denOut (G : Sg) (p : V G.El × Nat × List (Nat × O G.El)) : T × Nat × List (Nat × Ob) := (denV G p.1, p.2.1, denWr G p.2.2)
theorem outCellQ_ok {own : Bool} {m : Nat} {k : Option Nat} {v : V G.El} {nx : Nat} {r : V G.El × Nat × List (Nat × O G.El)} {l : List Nat} (h : (outCellQ own m look k v nx).runs lk r l) :
    l = [] ∧ outCell own m (lkT G look) (k.map G.w) (denV G v) nx = some (denOut G r) ∧ isCell r.1 = true ∧ denV G v = den1 G v := by
  unfold outCellQ at h
  split at h
  · rename_i e
    cases own with
    | true => obtain ⟨rfl, rfl⟩ := runs_pure.1 h; exact ⟨rfl, rfl, rfl, rfl⟩
    | false => obtain ⟨rfl, rfl⟩ := runs_pure.1 h; exact ⟨rfl, rfl, rfl, rfl⟩
  · rename_i e o full off len
    cases ho : own || decide (o < m) with
    | true =>
      rw [ho] at h
      obtain ⟨rfl, rfl⟩ := runs_pure.1 h
      refine ⟨rfl, ?_, rfl, rfl⟩
      simp only [Option.map_some, denV, denA, den1, outCell, ho, if_true]; rfl
    | false =>
      rw [ho] at h
      simp only at h
      split at h
      · rename_i mw kp ver t xs last hl
        simp only [runs_bind, runs_pure] at h
        obtain ⟨ys, _, _, h4, ⟨rfl, rfl⟩, rfl⟩ := h
        obtain ⟨rfl, h5, rfl⟩ := winQ_ok h4
        refine ⟨rfl, ?_, rfl, rfl⟩
        simp only [Option.map_some, denV, denA, den1, outCell, ho, Bool.false_eq_true, if_false]
        simp only [lkT, hl, lenT, winT]
        simp only [denO, Bool.and_true, Bool.true_and, decide_eq_true h5, if_true]
        cases mw <;> rfl
      · exact (runs_fail.1 h).elim
  · rename_i e t xs src
    simp only [runs_bind, runs_grd, runs_pure] at h
    obtain ⟨_, _, _, ⟨h1, rfl⟩, ⟨rfl, rfl⟩, rfl⟩ := h
    refine ⟨rfl, ?_, rfl, rfl⟩
    simp only [Option.map_some, denV, denA, den1, outCell, validO_den, h1, if_true]; rfl
  · rename_i e src
    simp only [runs_bind, runs_grd, runs_pure] at h
    obtain ⟨_, _, _, ⟨h1, rfl⟩, ⟨rfl, rfl⟩, rfl⟩ := h
    refine ⟨rfl, ?_, rfl, rfl⟩
    simp only [Option.map_some, denV, denA, den1, outCell, validO_den, h1, if_true]; rfl
  · rename_i a b c
    obtain ⟨rfl, rfl⟩ := runs_pure.1 h; exact ⟨rfl, rfl, rfl, rfl⟩
  · obtain ⟨rfl, rfl⟩ := runs_pure.1 h; exact ⟨rfl, rfl, rfl, rfl⟩
  · obtain ⟨rfl, rfl⟩ := runs_pure.1 h; exact ⟨rfl, rfl, rfl, rfl⟩
  · rename_i a b c
    obtain ⟨rfl, rfl⟩ := runs_pure.1 h; cases a <;> exact ⟨rfl, rfl, rfl, rfl⟩
  · rename_i a b
    obtain ⟨rfl, rfl⟩ := runs_pure.1 h; cases a <;> exact ⟨rfl, rfl, rfl, rfl⟩
  · obtain ⟨rfl, rfl⟩ := runs_pure.1 h; exact ⟨rfl, rfl, rfl, rfl⟩
  · obtain ⟨rfl, rfl⟩ := runs_pure.1 h; exact ⟨rfl, rfl, rfl, rfl⟩
  · obtain ⟨rfl, rfl⟩ := runs_pure.1 h; exact ⟨rfl, rfl, rfl, rfl⟩
  · exact (runs_fail.1 h).elim
theorem outCellsQ_ok {own : Bool} {m : Nat} : ∀ {ks : List (Option Nat)} {vs : List (V G.El)} {nx : Nat} {r : List (V G.El) × Nat × List (Nat × O G.El)} {l : List Nat}, (outCellsQ own m look ks vs nx).runs lk r l →
    l = [] ∧ outCells own m (lkT G look) (ks.map (Option.map G.w)) (vs.map (den1 G)) nx = some (r.1.map (den1 G), r.2.1, denWr G r.2.2)
  | [], [], nx, r, l, h => by obtain ⟨rfl, rfl⟩ := runs_ret.1 h; exact ⟨rfl, rfl⟩
  | k :: ks, t :: ts, nx, r, l, h => by
    simp only [outCellsQ, runs_bind, runs_pure] at h
    obtain ⟨p, l1, _, h1, ⟨q, l3, _, h2, ⟨rfl, rfl⟩, rfl⟩, rfl⟩ := h
    obtain ⟨rfl, h3, h4, h5⟩ := outCellQ_ok h1
    obtain ⟨rfl, h6⟩ := outCellsQ_ok h2
    refine ⟨rfl, ?_⟩
    simp only [List.map_cons, outCells]
    rw [← h5, h3]
    simp only [denOut, h6]
    simp [denWr, denV_isCell h4]
  | [], _ :: _, nx, r, l, h => (runs_fail.1 h).elim
  | _ :: _, [], nx, r, l, h => (runs_fail.1 h).elim
theorem outOneQ_ok (ok : SgOk P G) {own : Bool} {m : Nat} {ty : TypeId} {v : V G.El} {nx : Nat} {r : V G.El × Nat × List (Nat × O G.El)} {l : List Nat} (h : (outOneQ G own m look ty v nx).runs lk r l) :
    l = [] ∧ outOne P own m (lkT G look) ty (denV G v) nx = some (denOut G r) ∧ okA r.1 = true ∧ denV G v = denA G v := by
  simp only [outOneQ, runs_bind, runs_opt] at h
  obtain ⟨inf, _, _, ⟨hi, rfl⟩, ⟨ks, _, _, ⟨hk, rfl⟩, h2, rfl⟩, rfl⟩ := h
  have hc := (ok.ti _ _ hi).cs _ hk
  unfold outOne
  rw [hc]
  simp only
  by_cases hv : ∃ cs, v = .agg cs
  · obtain ⟨cs, rfl⟩ := hv
    simp only [runs_bind, runs_pure] at h2
    obtain ⟨p, l1, _, h3, ⟨rfl, rfl⟩, rfl⟩ := h2
    obtain ⟨rfl, h4⟩ := outCellsQ_ok h3
    refine ⟨rfl, ?_, rfl, rfl⟩
    simp only [denV, denA, h4, Option.map_some]; rfl
  · have h3 : (out1Q own m look ks v nx).runs lk r l := by
      cases v with
      | agg cs => exact absurd ⟨cs, rfl⟩ hv
      | _ => exact h2
    match ks, h3, hc with
    | [k], h3, hc =>
      obtain ⟨rfl, h4, h5, h6⟩ := outCellQ_ok h3
      have hA : denV G v = denA G v := by rw [h6, denA_not_agg fun cs e => hv ⟨cs, e⟩]
      refine ⟨rfl, ?_, okA_isCell h5, hA⟩
      have : ∀ t, (∀ cs, t ≠ .agg cs) → (match t with | .agg cs => (outCells own m (lkT G look) ([k].map (Option.map G.w)) cs nx).map fun p => (T.agg p.1, p.2) | t => (match [k].map (Option.map G.w) with | [k] => outCell own m (lkT G look) k t nx | _ => none)) = outCell own m (lkT G look) (k.map G.w) t nx := by
        intro t ht
        cases t with
        | agg cs => exact absurd rfl (ht cs)
        | _ => rfl
      rw [← h4]
      exact this _ (by rw [h6]; exact den1_agg v)
    | [], h3, hc => exact (runs_fail.1 h3).elim
    | _ :: _ :: _, h3, hc => exact (runs_fail.1 h3).elim
theorem outManyQ_ok (ok : SgOk P G) {own : Bool} {m : Nat} : ∀ {tys : List TypeId} {vs : List (V G.El)} {nx : Nat} {r : List (V G.El) × Nat × List (Nat × O G.El)} {l : List Nat}, (outManyQ G own m look tys vs nx).runs lk r l →
    l = [] ∧ outMany P own m (lkT G look) tys (vs.map (denA G)) nx = some (r.1.map (denA G), r.2.1, denWr G r.2.2)
  | [], [], nx, r, l, h => by obtain ⟨rfl, rfl⟩ := runs_ret.1 h; exact ⟨rfl, rfl⟩
  | ty :: tys, t :: ts, nx, r, l, h => by
    simp only [outManyQ, runs_bind, runs_pure] at h
    obtain ⟨p, l1, _, h1, ⟨q, l3, _, h2, ⟨rfl, rfl⟩, rfl⟩, rfl⟩ := h
    obtain ⟨rfl, h3, h4, h5⟩ := outOneQ_ok ok h1
    obtain ⟨rfl, h6⟩ := outManyQ_ok ok h2
    refine ⟨rfl, ?_⟩
    simp only [List.map_cons, outMany]
    rw [← h5, h3]
    simp only [denOut, h6]
    simp [denWr, denV_okA h4]
  | [], _ :: _, nx, r, l, h => (runs_fail.1 h).elim
  | _ :: _, [], nx, r, l, h => (runs_fail.1 h).elim
theorem outAllQ_ok (ok : SgOk P G) {own : Bool} {m : Nat} {tys : List TypeId} {v : V G.El} {nx : Nat} {r : V G.El × Nat × List (Nat × O G.El)} {l : List Nat} (h : (outAllQ G own m look tys v nx).runs lk r l) :
    l = [] ∧ outAll P own m (lkT G look) tys (denV G v) nx = some (denOut G r) := by
  have many : ∀ tys : List TypeId, (outMQ G own m look tys v nx).runs lk r l →
      l = [] ∧ (match denV G v with | .tup rs => (outMany P own m (lkT G look) tys rs nx).map fun p => (T.tup p.1, p.2) | _ => none) = some (denOut G r) := by
    intro tys h
    cases v with
    | tup rs =>
      simp only [outMQ, runs_bind, runs_pure] at h
      obtain ⟨p, l1, _, h3, ⟨rfl, rfl⟩, rfl⟩ := h
      obtain ⟨rfl, h4⟩ := outManyQ_ok ok h3
      refine ⟨rfl, ?_⟩
      simp only [denV, h4, Option.map_some]; rfl
    | _ => exact (runs_fail.1 h).elim
  match tys, h with
  | [ty], h => obtain ⟨h1, h2, _⟩ := outOneQ_ok ok h; exact ⟨h1, h2⟩
  | [], h => exact many [] h
  | a :: b :: t, h => exact many _ h
theorem giveQ_ok (ok : SgOk P G) {fn : Func} {own : Bool} {m : Nat} {s : S G.El} {r : V G.El × List (O G.El)} {l : List Nat} (h : (giveQ G fn own m s).runs (lookO s.st) r l) :
    giveR P fn own m (denS G s) = some (denV G r.1, r.2.map (denO G)) := by
  simp only [giveQ, runs_bind] at h
  obtain ⟨v, l1, _, h1, ⟨q, l3, _, h2, ⟨w, l5, _, h3, ⟨os, l7, _, h4, h5, rfl⟩, rfl⟩, rfl⟩, rfl⟩ := h
  obtain ⟨rfl, rfl⟩ := runs_pure.1 h5
  have h1' := resQ_ok ok h1
  obtain ⟨rfl, h2'⟩ := outAllQ_ok ok h2
  obtain ⟨rfl, h3'⟩ := canV_ok h3
  simp only [giveR, h1']
  rw [lk_den] at h2'
  have hnx : (denS G s).nx = s.nx := rfl
  rw [hnx, h2']
  simp only [denOut]
  have hl : lookIn (putAll (denS G s).store (denWr G q.2.2)) = lkT G (lookO (putOs s.st q.2.2)) := by
    funext o
    have : putAll (denS G s).store (denWr G q.2.2) = denWr G (putOs s.st q.2.2) := (putAll_den q.2.2 s.st).symm
    rw [this]; exact lookIn_den _ o
  rw [hl, refs_den, reachO_den, srcO_den]
  generalize (List.range m ++ (reachO (lookO (putOs s.st q.2.2)) 64 (List.range m ++ refsV q.1) []).filter fun o => !decide (o < m)) = K at h4 ⊢
  simp only [Option.some.injEq, Prod.mk.injEq]
  refine ⟨by rw [mapV_den, h3'], ?_⟩
  refine (mapQ_map (a := fun o : Nat => ({ mapOb (posIn K) (srcO K (lookO (putOs s.st q.2.2))) (lkT G (lookO (putOs s.st q.2.2)) o) with ver := 0 } : Ob)) (b := denO G) ?_ h4).symm
  intro o x l hx
  simp only [runs_bind, runs_pure] at hx
  obtain ⟨y, l1, _, hy, ⟨rfl, rfl⟩, rfl⟩ := hx
  obtain ⟨_, hy⟩ := canO_ok hy
  rw [setVer_den _ _ (.inr rfl), mapO_den, hy]
end Go.Proofs.YtbfgmnjhikaagaaGreatDoor.PN
namespace Go.Proofs.YtbfgmnjhikaagaaGreatDoor.PN
open Go Go.Proofs.YtbfgmnjhikaagaaGreatDoor.PM
variable {P : Program} {C : Cert} {prim : FuncId → Option (List T → List Ob → Option (T × List Ob))} {β : Type}
noncomputable def atK (P : Program) (C : Cert) (prim : FuncId → Option (List T → List Ob → Option (T × List Ob))) (cert : FCert) (rid : Nat) : Code → St → (RS → β) → Option β
  | .region id ops draw, s, K => if id = rid then some (regionK P (envT P C prim) (cert.predsOf id) ops draw s K) else none
  | .seq a b, s, K => match atK P C prim cert rid a s (seqK P C prim cert b K) with
    | some r => some r
    | none => atK P C prim cert rid b s K
  | .cond _ a b, s, K => match atK P C prim cert rid a s K with
    | some r => some r
    | none => atK P C prim cert rid b s K
  | .block id b, s, K => atK P C prim cert rid b s (blockK id K)
  | .loop b, s, K => atK P C prim cert rid b s (nextK P C prim cert b K)
  | _, _, _ => none
def ids : Code → List Nat
  | .region id _ _ => [id]
  | .seq a b => ids a ++ ids b
  | .cond _ a b => ids a ++ ids b
  | .block _ b => ids b
  | .loop b => ids b
  | _ => []
def distinct : List Nat → Bool
  | [] => true
  | a :: r => !r.contains a && distinct r
theorem distinct_append : ∀ {a b : List Nat}, distinct (a ++ b) = true → distinct a = true ∧ distinct b = true ∧ ∀ x ∈ a, x ∉ b
  | [], b, h => ⟨rfl, h, fun x hx => by cases hx⟩
  | y :: r, b, h => by
    simp only [List.cons_append, distinct, Bool.and_eq_true, Bool.not_eq_true', List.contains_eq_mem] at h ⊢
    obtain ⟨h1, h2⟩ := h
    obtain ⟨h3, h4, h5⟩ := distinct_append h2
    simp only [List.mem_append, decide_eq_false_iff_not, not_or] at h1 ⊢
    refine ⟨⟨h1.1, h3⟩, h4, fun x hx => ?_⟩
    rcases List.mem_cons.1 hx with rfl | hx
    · exact h1.2
    · exact h5 x hx
theorem atK_none {cert : FCert} {rid : Nat} : ∀ {c : Code} {s : St} {K : RS → β}, rid ∉ ids c → atK P C prim cert rid c s K = none
  | .region id ops draw, s, K, h => by
    have : ¬ id = rid := fun e => h (by simp [ids, e])
    simp only [atK, if_neg this]
  | .seq a b, s, K, h => by
    simp only [ids, List.mem_append, not_or] at h
    simp only [atK, atK_none h.1, atK_none h.2]
  | .cond c a b, s, K, h => by
    simp only [ids, List.mem_append, not_or] at h
    simp only [atK, atK_none h.1, atK_none h.2]
  | .block id b, s, K, h => by simp only [atK]; exact atK_none h
  | .loop b, s, K, h => by simp only [atK]; exact atK_none h
  | .skip, s, K, h => rfl
  | .exit id, s, K, h => rfl
  | .ret, s, K, h => rfl
  | .rangeFunc _ _ _ _, s, K, h => rfl
  | .scope _, s, K, h => rfl
  | .label _, s, K, h => rfl
  | .goto _, s, K, h => rfl
  | .refuse _, s, K, h => rfl
theorem atK_some {cert : FCert} {rid : Nat} : ∀ {c : Code} {s : St} {K : RS → β}, rid ∈ ids c → ∃ r, atK P C prim cert rid c s K = some r
  | .region id ops draw, s, K, h => by
    have : id = rid := by simp only [ids, List.mem_singleton] at h; exact h.symm
    exact ⟨_, by simp only [atK, if_pos this]; rfl⟩
  | .seq a b, s, K, h => by
    simp only [ids, List.mem_append] at h
    by_cases ha : rid ∈ ids a
    · obtain ⟨r, hr⟩ := atK_some (cert := cert) (s := s) (K := seqK P C prim cert b K) ha
      exact ⟨r, by simp only [atK, hr]⟩
    · rcases h with h | h
      · exact absurd h ha
      · obtain ⟨r, hr⟩ := atK_some (cert := cert) (s := s) (K := K) h
        exact ⟨r, by simp only [atK, atK_none ha, hr]⟩
  | .cond c a b, s, K, h => by
    simp only [ids, List.mem_append] at h
    by_cases ha : rid ∈ ids a
    · obtain ⟨r, hr⟩ := atK_some (cert := cert) (s := s) (K := K) ha
      exact ⟨r, by simp only [atK, hr]⟩
    · rcases h with h | h
      · exact absurd h ha
      · obtain ⟨r, hr⟩ := atK_some (cert := cert) (s := s) (K := K) h
        exact ⟨r, by simp only [atK, atK_none ha, hr]⟩
  | .block id b, s, K, h => by simp only [atK]; exact atK_some h
  | .loop b, s, K, h => by simp only [atK]; exact atK_some h
  | .skip, s, K, h => by cases h
  | .exit id, s, K, h => by cases h
  | .ret, s, K, h => by cases h
  | .rangeFunc _ _ _ _, s, K, h => by cases h
  | .scope _, s, K, h => by cases h
  | .label _, s, K, h => by cases h
  | .goto _, s, K, h => by cases h
  | .refuse _, s, K, h => by cases h
section
variable {X : Cx} {body : Code} {K0 : RS → β} {OUT : β} {R : Lf X.G.El → Prop}
def Ctx (P : Program) (C : Cert) (prim : FuncId → Option (List T → List Ob → Option (T × List Ob))) (cert : FCert) (body : Code) (K0 : RS → β) (c : Code) (K : RS → β) : Prop :=
  ∀ rid s r, rid ∈ ids c → atK P C prim cert rid body s K0 = some r → atK P C prim cert rid c s K = some r
theorem exec_ok (ok : SgOk P X.G) (hE : EvOk P C prim X.G X.E) (hR : ∀ rid s, R (.at rid s) → atK P C prim X.cert rid body (denS X.G s) K0 = some OUT) :
    ∀ {c : Code} {K : RS → β} {s : S X.G.El} {h : H} {k : PN.K X}, distinct (ids c) = true → Ctx P C prim X.cert body K0 c K → (∀ ex s' h', (k ex s' h').yields R → K (some (ex, denS X.G s')) = OUT) →
      (exec X c s h k).yields R → execK P C prim X.cert c (denS X.G s) K = OUT
  | .skip, K, s, h, k, hd, hc, hk, hy => by rw [execK_skip]; exact hk _ _ _ hy
  | .region id ops draw, K, s, h, k, hd, hc, hk, hy => by
    rw [execK_region]
    simp only [exec] at hy
    cases hf : findK X.cert.keep id with
    | none =>
      rw [hf] at hy
      obtain ⟨s', h', hr, hy⟩ := regionN_ok ok hE hy
      rw [clearK_none, regionK_eq hr]
      exact hk _ _ _ hy
    | some kp =>
      rw [hf] at hy
      obtain ⟨s', l, h', hr, hy⟩ := runQ_yields hy
      have hn := normS_ok hr
      rw [clearK_some, hn]
      have h1 := hc id (denS X.G s') OUT (by simp [ids]) (hR id s' hy)
      simpa [atK] using h1
  | .seq a b, K, s, h, k, hd, hc, hk, hy => by
    rw [execK_seq]
    obtain ⟨d1, d2, d3⟩ := distinct_append hd
    have cb : Ctx P C prim X.cert body K0 b K := by
      intro rid st r hm hr
      have := hc rid st r (by simp [ids, hm]) hr
      simp only [atK] at this
      have hna : rid ∉ ids a := fun ha => d3 rid ha hm
      rw [atK_none hna] at this
      exact this
    have ca : Ctx P C prim X.cert body K0 a (seqK P C prim X.cert b K) := by
      intro rid st r hm hr
      have := hc rid st r (by simp [ids, hm]) hr
      simp only [atK] at this
      obtain ⟨r', hr'⟩ := atK_some (P := P) (C := C) (prim := prim) (cert := X.cert) (s := st) (K := seqK P C prim X.cert b K) hm
      rw [hr'] at this ⊢
      exact this
    refine exec_ok ok hE hR d1 ca (fun ex s' h' hy' => ?_) hy
    cases ex with
    | normal => rw [seqK_normal]; exact exec_ok ok hE hR d2 cb hk hy'
    | exit i => rw [seqK_exit]; exact hk _ _ _ hy'
    | ret => rw [seqK_ret]; exact hk _ _ _ hy'
  | .cond c a b, K, s, h, k, hd, hc, hk, hy => by
    rw [execK_cond]
    obtain ⟨d1, d2, d3⟩ := distinct_append hd
    have cb : Ctx P C prim X.cert body K0 b K := by
      intro rid st r hm hr
      have := hc rid st r (by simp [ids, hm]) hr
      simp only [atK] at this
      have hna : rid ∉ ids a := fun ha => d3 rid ha hm
      rw [atK_none hna] at this
      exact this
    have ca : Ctx P C prim X.cert body K0 a K := by
      intro rid st r hm hr
      have := hc rid st r (by simp [ids, hm]) hr
      simp only [atK] at this
      obtain ⟨r', hr'⟩ := atK_some (P := P) (C := C) (prim := prim) (cert := X.cert) (s := st) (K := K) hm
      rw [hr'] at this ⊢
      exact this
    obtain ⟨t, h', hb, hy⟩ := fork_yields hy
    have : evalT (denS X.G s).tmps c = .sc (.bool t) := by rw [← eval_den]; exact (boolOf_some hb).1
    rw [this, condK_bool]
    cases t with
    | true => rw [if_pos rfl] at hy ⊢; exact exec_ok ok hE hR d1 ca hk hy
    | false => rw [if_neg (by simp)] at hy ⊢; exact exec_ok ok hE hR d2 cb hk hy
  | .block id b, K, s, h, k, hd, hc, hk, hy => by
    rw [execK_block]
    refine exec_ok ok hE hR hd (fun rid st r hm hr => hc rid st r hm hr) (fun ex s' h' hy' => ?_) hy
    cases ex with
    | normal => rw [blockK_normal]; exact hk _ _ _ hy'
    | exit i => rw [blockK_exit]; exact hk _ _ _ hy'
    | ret => rw [blockK_ret]; exact hk _ _ _ hy'
  | .loop b, K, s, h, k, hd, hc, hk, hy => by
    rw [execK_next]
    refine exec_ok ok hE hR hd (fun rid st r hm hr => hc rid st r hm hr) (fun ex s' h' hy' => ?_) hy
    cases ex with
    | normal => exact hy'.elim
    | exit i => rw [nextK_exit]; exact hk _ _ _ hy'
    | ret => rw [nextK_ret]; exact hk _ _ _ hy'
  | .exit id, K, s, h, k, hd, hc, hk, hy => by rw [execK_exit]; exact hk _ _ _ hy
  | .ret, K, s, h, k, hd, hc, hk, hy => by rw [execK_ret]; exact hk _ _ _ hy
  | .rangeFunc _ _ _ _, K, s, h, k, hd, hc, hk, hy => hy.elim
  | .scope _, K, s, h, k, hd, hc, hk, hy => hy.elim
  | .label _, K, s, h, k, hd, hc, hk, hy => hy.elim
  | .goto _, K, s, h, k, hd, hc, hk, hy => hy.elim
  | .refuse _, K, s, h, k, hd, hc, hk, hy => hy.elim
theorem resume_none {rid : Nat} : ∀ {c : Code} {s : S X.G.El} {h : H} {k : PN.K X}, resume X rid c s h k = none → rid ∉ ids c
  | .region id ops draw, s, h, k, hn => by
    simp only [resume] at hn
    split at hn
    · cases hn
    · rename_i hne; simp only [ids, List.mem_singleton]; exact fun e => hne e.symm
  | .seq a b, s, h, k, hn => by
    simp only [resume] at hn
    split at hn
    · cases hn
    · rename_i ha
      simp only [ids, List.mem_append, not_or]
      exact ⟨resume_none ha, resume_none hn⟩
  | .cond c a b, s, h, k, hn => by
    simp only [resume] at hn
    split at hn
    · cases hn
    · rename_i ha
      simp only [ids, List.mem_append, not_or]
      exact ⟨resume_none ha, resume_none hn⟩
  | .block id b, s, h, k, hn => by simp only [resume] at hn; exact resume_none (c := b) hn
  | .loop b, s, h, k, hn => by simp only [resume] at hn; exact resume_none (c := b) hn
  | .skip, s, h, k, hn => by simp [ids]
  | .exit id, s, h, k, hn => by simp [ids]
  | .ret, s, h, k, hn => by simp [ids]
  | .rangeFunc _ _ _ _, s, h, k, hn => by simp [ids]
  | .scope _, s, h, k, hn => by simp [ids]
  | .label _, s, h, k, hn => by simp [ids]
  | .goto _, s, h, k, hn => by simp [ids]
  | .refuse _, s, h, k, hn => by simp [ids]
theorem resume_ok (ok : SgOk P X.G) (hE : EvOk P C prim X.G X.E) (hR : ∀ rid s, R (.at rid s) → atK P C prim X.cert rid body (denS X.G s) K0 = some OUT) {rid : Nat} :
    ∀ {c : Code} {K : RS → β} {s : S X.G.El} {h : H} {k : PN.K X} {t : Tree (Lf X.G.El)}, distinct (ids c) = true → Ctx P C prim X.cert body K0 c K → (∀ ex s' h', (k ex s' h').yields R → K (some (ex, denS X.G s')) = OUT) →
      resume X rid c s h k = some t → t.yields R → atK P C prim X.cert rid c (denS X.G s) K = some OUT
  | .region id ops draw, K, s, h, k, t, hd, hc, hk, ht, hy => by
    simp only [resume] at ht
    split at ht
    · rename_i hid
      obtain rfl := Option.some.inj ht
      obtain ⟨s', h', hr, hy⟩ := regionN_ok ok hE hy
      simp only [atK, if_pos hid]
      rw [regionK_eq hr]
      exact congrArg some (hk _ _ _ hy)
    · cases ht
  | .seq a b, K, s, h, k, t, hd, hc, hk, ht, hy => by
    obtain ⟨d1, d2, d3⟩ := distinct_append hd
    have cb : Ctx P C prim X.cert body K0 b K := by
      intro rid st r hm hr
      have := hc rid st r (by simp [ids, hm]) hr
      simp only [atK] at this
      have hna : rid ∉ ids a := fun ha => d3 rid ha hm
      rw [atK_none hna] at this
      exact this
    have ca : Ctx P C prim X.cert body K0 a (seqK P C prim X.cert b K) := by
      intro rid st r hm hr
      have := hc rid st r (by simp [ids, hm]) hr
      simp only [atK] at this
      obtain ⟨r', hr'⟩ := atK_some (P := P) (C := C) (prim := prim) (cert := X.cert) (s := st) (K := seqK P C prim X.cert b K) hm
      rw [hr'] at this ⊢
      exact this
    simp only [resume] at ht
    simp only [atK]
    split at ht
    · rename_i t' ha
      obtain rfl := Option.some.inj ht
      have := resume_ok ok hE hR (K := seqK P C prim X.cert b K) d1 ca (fun ex s' h' hy' => ?_) ha hy
      · rw [this]
      · cases ex with
        | normal => rw [seqK_normal]; exact exec_ok ok hE hR d2 cb hk hy'
        | exit i => rw [seqK_exit]; exact hk _ _ _ hy'
        | ret => rw [seqK_ret]; exact hk _ _ _ hy'
    · rename_i ha
      rw [atK_none (resume_none ha)]
      exact resume_ok ok hE hR d2 cb hk ht hy
  | .cond c a b, K, s, h, k, t, hd, hc, hk, ht, hy => by
    obtain ⟨d1, d2, d3⟩ := distinct_append hd
    have cb : Ctx P C prim X.cert body K0 b K := by
      intro rid st r hm hr
      have := hc rid st r (by simp [ids, hm]) hr
      simp only [atK] at this
      have hna : rid ∉ ids a := fun ha => d3 rid ha hm
      rw [atK_none hna] at this
      exact this
    have ca : Ctx P C prim X.cert body K0 a K := by
      intro rid st r hm hr
      have := hc rid st r (by simp [ids, hm]) hr
      simp only [atK] at this
      obtain ⟨r', hr'⟩ := atK_some (P := P) (C := C) (prim := prim) (cert := X.cert) (s := st) (K := K) hm
      rw [hr'] at this ⊢
      exact this
    simp only [resume] at ht
    simp only [atK]
    split at ht
    · rename_i t' ha
      obtain rfl := Option.some.inj ht
      rw [resume_ok ok hE hR d1 ca hk ha hy]
    · rename_i ha
      rw [atK_none (resume_none ha)]
      exact resume_ok ok hE hR d2 cb hk ht hy
  | .block id b, K, s, h, k, t, hd, hc, hk, ht, hy => by
    simp only [resume] at ht
    simp only [atK]
    refine resume_ok ok hE hR hd (fun rid st r hm hr => hc rid st r hm hr) (fun ex s' h' hy' => ?_) ht hy
    cases ex with
    | normal => rw [blockK_normal]; exact hk _ _ _ hy'
    | exit i => rw [blockK_exit]; exact hk _ _ _ hy'
    | ret => rw [blockK_ret]; exact hk _ _ _ hy'
  | .loop b, K, s, h, k, t, hd, hc, hk, ht, hy => by
    simp only [resume] at ht
    simp only [atK]
    have cb : Ctx P C prim X.cert body K0 b (nextK P C prim X.cert b K) := fun rid st r hm hr => hc rid st r hm hr
    refine resume_ok ok hE hR hd cb (fun ex s' h' hy' => ?_) ht hy
    cases ex with
    | normal =>
      rw [nextK_normal, execK_next]
      refine exec_ok ok hE hR hd cb (fun ex s'' h'' hy'' => ?_) hy'
      cases ex with
      | normal => exact hy''.elim
      | exit i => rw [nextK_exit]; exact hk _ _ _ hy''
      | ret => rw [nextK_ret]; exact hk _ _ _ hy''
    | exit i => rw [nextK_exit]; exact hk _ _ _ hy'
    | ret => rw [nextK_ret]; exact hk _ _ _ hy'
  | .skip, K, s, h, k, t, hd, hc, hk, ht, hy => by cases ht
  | .exit id, K, s, h, k, t, hd, hc, hk, ht, hy => by cases ht
  | .ret, K, s, h, k, t, hd, hc, hk, ht, hy => by cases ht
  | .rangeFunc _ _ _ _, K, s, h, k, t, hd, hc, hk, ht, hy => by cases ht
  | .scope _, K, s, h, k, t, hd, hc, hk, ht, hy => by cases ht
  | .label _, K, s, h, k, t, hd, hc, hk, ht, hy => by cases ht
  | .goto _, K, s, h, k, t, hd, hc, hk, ht, hy => by cases ht
  | .refuse _, K, s, h, k, t, hd, hc, hk, ht, hy => by cases ht
end
theorem lay_yields {Rr Lb L : Type} {f : Rr → L} {g : Lb → L} {D : Lb → Option Rr} {R : L → Prop} {r : Rr} (hf : R (f r)) (hg : ∀ x, D x = some r → R (g x)) : ∀ {t : PT Rr Lb}, t.run D = some r → (t.lay f g).yields R := by
  intro t
  induction t with
  | ret r' => intro h; obtain rfl := Option.some.inj h; exact hf
  | jump x => intro h; exact hg x h
  | fail => intro h; cases h
  | need c k ih =>
    intro h
    simp only [PT.run] at h
    split at h
    · rename_i hc; exact ⟨hc, ih hc h⟩
    · cases h
  | need' c' c hcc k ih =>
    intro h
    simp only [PT.run] at h
    split at h
    · rename_i hc; exact ⟨hcc.1 hc, ih _ h⟩
    · cases h
  | triv c hc k ih => intro h; exact ⟨hc, ih h⟩
  | ite c t e ih1 ih2 =>
    intro h
    simp only [PT.run] at h
    split at h
    · rename_i hc; exact .inl ⟨hc, ih1 hc h⟩
    · rename_i hc; exact .inr ⟨hc, ih2 hc h⟩
  | ite' c' c hcc t e ih1 ih2 =>
    intro h
    simp only [PT.run] at h
    split at h
    · rename_i hc; exact .inl ⟨hcc.1 hc, ih1 _ h⟩
    · rename_i hc; exact .inr ⟨fun hx => hc (hcc.2 hx), ih2 _ h⟩
  | call ρ x k ih =>
    intro h
    simp only [PT.run, Option.bind_eq_some_iff] at h
    obtain ⟨y, hy, h⟩ := h
    exact ⟨y, hy, ih y h⟩
  | call' ρ x' x hx k ih =>
    intro h
    simp only [PT.run, Option.bind_eq_some_iff] at h
    obtain ⟨y, hy, h⟩ := h
    exact ⟨y, hx ▸ hy, ih y h⟩
  | callh ρ x k ih =>
    intro h
    simp only [PT.run] at h
    cases x with
    | none => cases h
    | some a => exact ⟨rfl, a, rfl, ih a rfl h⟩
  | recall ρ x r hx k ih => intro h; exact ⟨rfl, hx, ih h⟩
  | either β γ x l r ih1 ih2 =>
    intro h
    cases x with
    | inl a => exact ih1 a h
    | inr b => exact ih2 b h
def startS {G : Sg} (n : Nat) (args : List (V G.El)) (objs : List (O G.El)) : S G.El := ⟨n, undV, args.zipIdx.map fun p => (p.2, p.1), objs.zipIdx.map fun p => (p.2, p.1), objs.length, objs.length⟩
theorem findK_zip {γ : Type} : ∀ (l : List γ) (j i : Nat), findK ((l.zipIdx j).map fun p => (p.2, p.1)) (j + i) = l[i]?
  | [], j, i => by simp [findK]
  | a :: r, j, 0 => by simp [List.zipIdx_cons, findK]
  | a :: r, j, i + 1 => by
    rw [List.zipIdx_cons, List.map_cons]
    simp only [findK]
    rw [if_neg (by omega)]
    have := findK_zip r (j + 1) i
    rw [show j + 1 + i = j + (i + 1) by omega] at this
    rw [this]; rfl
theorem startS_den {G : Sg} {n : Nat} {args : List (V G.El)} {objs : List (O G.El)} (hn : args.length ≤ n) : denS G (startS n args objs) =
    ⟨args.map (denV G) ++ List.replicate (n - (args.map (denV G)).length) undT, (objs.map (denO G)).zipIdx.map fun p => (p.2, p.1), (objs.map (denO G)).length, (objs.map (denO G)).length⟩ := by
  simp only [denS, startS, St.mk.injEq, List.length_map, and_self, and_true]
  constructor
  · apply List.ext_getElem?
    intro i
    rw [List.getElem?_map]
    have hz := findK_zip args 0 i
    rw [Nat.zero_add] at hz
    by_cases hi : i < n
    · rw [List.getElem?_range hi]
      simp only [Option.map_some, lookV, hz]
      by_cases ha : i < args.length
      · rw [List.getElem?_append_left (by simpa using ha), List.getElem?_map, List.getElem?_eq_getElem ha]; rfl
      · rw [List.getElem?_append_right (by simp; omega), List.getElem?_eq_none (by omega : args.length ≤ i), List.getElem?_replicate]
        simp only [List.length_map]
        rw [if_pos (by omega)]; rfl
    · have e1 : (List.range n)[i]? = none := by rw [List.getElem?_eq_none_iff, List.length_range]; omega
      rw [e1]
      symm
      rw [Option.map_none, List.getElem?_eq_none_iff]
      simp; omega
  · simp [denWr, List.zipIdx_map, Function.comp_def]
def outL {G : Sg} {Rr : Type} (o : Rr → V G.El × List (O G.El)) (r : Rr) : Lf G.El := .ret (o r).1 (o r).2
def jumpL {G : Sg} {Lb : Type} (st : Lb → Nat × S G.El) (x : Lb) : Lf G.El := .at (st x).1 (st x).2
theorem labels_ok {G : Sg} {f : FuncId} {fn : Func} {c : Code} {m : Nat} {Rr Lb : Type} {E : Nat → Ev G.El} {kt : Nat → Nat → Nat} {D : Nat → Lb → Option Rr} {blk : Nat → Lb → PT Rr Lb} {stt : Lb → Nat × S G.El} {hint : Lb → H} {o : Rr → V G.El × List (O G.El)}
    (ok : SgOk P G) (hE : ∀ k, EvOk P C prim G (E k)) (hids : distinct (ids c) = true) (D0 : ∀ x, D 0 x = none) (DS : ∀ k x, D (k + 1) x = (blk k x).run (D k))
    (hT : ∀ k x, resume ⟨G, E k, C f, kt⟩ (stt x).1 c (stt x).2 (hint x) (endK ⟨G, E k, C f, kt⟩ fn m) = some ((blk k x).lay (outL o) (jumpL stt))) (r : Rr) :
    ∀ k x, D k x = some r → atK P C prim (C f) (stt x).1 c (denS G (stt x).2) (giveK P fn (C f).own m) = some (some (denV G (o r).1, (o r).2.map (denO G))) := by
  intro k
  induction k with
  | zero => intro x h; rw [D0] at h; cases h
  | succ k ih =>
    intro x h
    rw [DS] at h
    let R : Lf G.El → Prop := fun lf => match lf with
      | .ret v os => some (denV G v, os.map (denO G)) = some (denV G (o r).1, (o r).2.map (denO G))
      | .at rid s => atK P C prim (C f) rid c (denS G s) (giveK P fn (C f).own m) = some (some (denV G (o r).1, (o r).2.map (denO G)))
    have hy : ((blk k x).lay (outL o) (jumpL stt)).yields R := lay_yields (R := R) rfl (fun y hy => ih y hy) h
    refine resume_ok (X := ⟨G, E k, C f, kt⟩) (body := c) (K0 := giveK P fn (C f).own m) (R := R) ok (hE k) (fun rid s hr => hr) hids (fun rid s r hm hr => hr) (fun ex s' h' hy' => ?_) (hT k x) hy
    have key : ∀ (hy : (runQ (lookO s'.st) (giveQ G fn (C f).own m s') h' fun p _ _ => .leaf (.ret p.1 p.2)).yields R), giveR P fn (C f).own m (denS G s') = some (denV G (o r).1, (o r).2.map (denO G)) := by
      intro hy
      obtain ⟨p, l, h'', hg, hy⟩ := runQ_yields hy
      rw [giveQ_ok ok hg]; exact hy
    cases ex with
    | normal => rw [giveK_normal]; exact key hy'
    | exit i => exact hy'.elim
    | ret => rw [giveK_ret]; exact key hy'
theorem fn_ok {G : Sg} {f : FuncId} {fn : Func} {c : Code} {Rr Lb : Type} {E : Nat → Ev G.El} {kt : Nat → Nat → Nat} {D : Nat → Lb → Option Rr} {blk : Nat → Lb → PT Rr Lb} {start : PT Rr Lb} {stt : Lb → Nat × S G.El} {hint : Lb → H} {h0 : H} {o : Rr → V G.El × List (O G.El)} {args : List (V G.El)} {objs : List (O G.El)} {s0 : S G.El} {k : Nat} {r : Rr}
    (ok : SgOk P G) (hE : ∀ k, EvOk P C prim G (E k)) (hp : prim f = none) (hf : P.funcs[f]? = some fn) (hb : fn.body = some c) (ho : okCode (C f) c = true) (hids : distinct (ids c) = true)
    (hs : s0 = startS fn.ntmps args objs) (hn : args.length ≤ fn.ntmps) (D0 : ∀ x, D 0 x = none) (DS : ∀ k x, D (k + 1) x = (blk k x).run (D k))
    (hT : ∀ k x, resume ⟨G, E k, C f, kt⟩ (stt x).1 c (stt x).2 (hint x) (endK ⟨G, E k, C f, kt⟩ fn objs.length) = some ((blk k x).lay (outL o) (jumpL stt)))
    (h0T : PN.exec ⟨G, E k, C f, kt⟩ c s0 h0 (endK ⟨G, E k, C f, kt⟩ fn objs.length) = start.lay (outL o) (jumpL stt)) (h : start.run (D k) = some r) :
    callT P C prim f (args.map (denV G)) (objs.map (denO G)) = some (denV G (o r).1, (o r).2.map (denO G)) := by
  have hL := labels_ok (P := P) (C := C) (prim := prim) ok hE hids D0 DS hT r
  rw [callK_eq hp hf hb ho, ← startS_den hn, ← hs, List.length_map]
  let R : Lf G.El → Prop := fun lf => match lf with
    | .ret v os => some (denV G v, os.map (denO G)) = some (denV G (o r).1, (o r).2.map (denO G))
    | .at rid s => atK P C prim (C f) rid c (denS G s) (giveK P fn (C f).own objs.length) = some (some (denV G (o r).1, (o r).2.map (denO G)))
  have hy : (start.lay (outL o) (jumpL stt)).yields R := lay_yields (R := R) rfl (fun y hy => hL k y hy) h
  rw [← h0T] at hy
  refine exec_ok (X := ⟨G, E k, C f, kt⟩) (body := c) (K0 := giveK P fn (C f).own objs.length) (R := R) ok (hE k) (fun rid s hr => hr) hids (fun rid s r hm hr => hr) (fun ex s' h' hy' => ?_) hy
  have key : ∀ (hy : (runQ (lookO s'.st) (giveQ G fn (C f).own objs.length s') h' fun p _ _ => .leaf (.ret p.1 p.2)).yields R), giveR P fn (C f).own objs.length (denS G s') = some (denV G (o r).1, (o r).2.map (denO G)) := by
    intro hy
    obtain ⟨p, l, h'', hg, hy⟩ := runQ_yields hy
    rw [giveQ_ok ok hg]; exact hy
  cases ex with
  | normal => rw [giveK_normal]; exact key hy'
  | exit i => exact hy'.elim
  | ret => rw [giveK_ret]; exact key hy'
end Go.Proofs.YtbfgmnjhikaagaaGreatDoor.PN
namespace Go.Proofs.YtbfgmnjhikaagaaGreatDoor.PN
open Go Go.Proofs.YtbfgmnjhikaagaaGreatDoor.PM
variable {P : Program} {C : Cert} {prim : FuncId → Option (List T → List Ob → Option (T × List Ob))} {G : Sg} {β : Type} {lk : Nat → O G.El} {r : β} {l : List Nat}
theorem argI_runs {k : IntKind} {v : V G.El} {f : Int → Q G.El β} (h : (argI k v f).runs lk r l) : ∃ a, denV G v = .sc (.int k a) ∧ (f a).runs lk r l := by
  cases v with
  | il k' n =>
    simp only [argI] at h
    by_cases hk : k' = k
    · subst hk; rw [decide_eq_true rfl] at h; exact ⟨n, rfl, h⟩
    · rw [decide_eq_false hk] at h; exact h.elim
  | id k' m n =>
    simp only [argI] at h
    by_cases hk : k' = k
    · subst hk; rw [decide_eq_true rfl] at h; exact ⟨n, rfl, h⟩
    · rw [decide_eq_false hk] at h; exact h.elim
  | _ => exact h.elim
theorem argB_runs {v : V G.El} {f : Bool → Q G.El β} (h : (argB v f).runs lk r l) : ∃ a, denV G v = .sc (.bool a) ∧ (f a).runs lk r l := by
  cases v with
  | bl b => exact ⟨b, rfl, h⟩
  | bp n c d => cases n <;> exact ⟨_, rfl, h⟩
  | bb n x => cases n <;> exact ⟨_, rfl, h⟩
  | _ => exact h.elim
theorem argS_runs {v : V G.El} {f : ByteArray → Q G.El β} (h : (argS v f).runs lk r l) : ∃ a, denV G v = .sc (.string a) ∧ (f a).runs lk r l := by
  cases v with
  | s x => exact ⟨x, rfl, h⟩
  | _ => exact h.elim
theorem argL_runs {e : Nat} {v : V G.El} {f : List (G.El e) → Q G.El β} (h : (argL e v f).runs lk r l) : ∃ xs, denV G v = .sl (List.map (G.enc e) xs) [] ∧ (f xs).runs lk r l := by
  cases v with
  | sl t xs src =>
    cases src with
    | nil =>
      simp only [argL] at h
      split at h
      · rename_i he; subst he; exact ⟨xs, rfl, h⟩
      · exact h.elim
    | cons a q => exact h.elim
  | s0 src =>
    cases src with
    | nil => exact ⟨[], rfl, h⟩
    | cons a q => exact h.elim
  | _ => exact h.elim
theorem argA_runs {v : V G.El} {f : List (V G.El) → Q G.El β} (h : (argA v f).runs lk r l) : ∃ cs, denV G v = .agg (cs.map (den1 G)) ∧ (f cs).runs lk r l := by
  cases v with
  | agg cs => exact ⟨cs, rfl, h⟩
  | _ => exact h.elim
theorem denV_cell1 (v : V G.El) : denV G (cell1 v) = den1 G v := by
  cases v with
  | bp n c d => cases n <;> rfl
  | bb n x => cases n <;> rfl
  | _ => rfl
theorem argH_runs {cs : List (V G.El)} {f : V G.El → List (V G.El) → Q G.El β} (h : (argH cs f).runs lk r l) : ∃ y q, cs.map (den1 G) = denV G y :: q.map (den1 G) ∧ (f y q).runs lk r l := by
  cases cs with
  | nil => exact h.elim
  | cons y q => exact ⟨cell1 y, q, by rw [denV_cell1]; rfl, h⟩
theorem lH_runs {γ : Type} {cs : List γ} {f : γ → List γ → Q G.El β} (h : (lH cs f).runs lk r l) : ∃ y q, cs = y :: q ∧ (f y q).runs lk r l := by
  cases cs with
  | nil => exact h.elim
  | cons y q => exact ⟨y, q, rfl, h⟩
theorem lT_runs {γ : Type} {cs : List γ} {f : Q G.El β} (h : (lT cs f).runs lk r l) : cs = [] ∧ f.runs lk r l := by
  cases cs with
  | nil => exact ⟨rfl, h⟩
  | cons y q => exact h.elim
theorem argPH_runs {cs : List (V G.El)} {f : V G.El → List (V G.El) → Q G.El β} (h : (argPH cs f).runs lk r l) : ∃ y q, cs.map denP = denV G y :: q.map denP ∧ (f y q).runs lk r l := by
  cases cs with
  | nil => exact h.elim
  | cons y q =>
    simp only [argPH] at h
    cases y with
    | ptr o i j => exact ⟨_, q, rfl, h⟩
    | _ => exact h.elim
theorem argR_runs {e : Nat} {x : O G.El} {f : List (G.El e) → Q G.El β} (h : (argR e x f).runs lk r l) : ∃ xs, denO G x = Ob.mkRow (G.w e) (List.map (G.enc e) xs) ∧ (f xs).runs lk r l := by
  cases x with
  | row a m k v t xs last =>
    cases a <;> cases m <;> first | exact h.elim | skip
    cases v with
    | succ n => exact h.elim
    | zero =>
      simp only [argR] at h
      split at h
      · rename_i he; subst he; exact ⟨_, rfl, h⟩
      · exact h.elim
  | _ => exact h.elim
theorem argW_runs {o n : Nat} {v : V G.El} {f : Q G.El β} (h : (argW o n v f).runs lk r l) : denV G v = .win o 0 n ∧ f.runs lk r l := by
  cases v with
  | win o' full off len =>
    simp only [argW] at h
    cases hb : o' == o && off.is0 with
    | false => rw [hb] at h; exact h.elim
    | true =>
      rw [hb] at h
      simp only [runs_bind, runs_nd] at h
      obtain ⟨_, _, _, ⟨hl, rfl⟩, h, rfl⟩ := h
      simp only [Bool.and_eq_true, beq_iff_eq] at hb
      refine ⟨?_, h⟩
      show T.win o' off.v len.v = _
      rw [hb.1, is0_v hb.2, hl]
  | _ => exact h.elim
theorem argP_runs {o : Nat} {v : V G.El} {f : Nat → Nat → Q G.El β} (h : (argP o v f).runs lk r l) : ∃ a b, denV G v = .win o a b ∧ (f a b).runs lk r l := by
  cases v with
  | win o' full off len =>
    simp only [argP] at h
    cases hb : o' == o with
    | false => rw [hb] at h; exact h.elim
    | true =>
      rw [hb] at h
      have : o' = o := by simpa using hb
      exact ⟨off.v, len.v, by rw [← this]; rfl, h⟩
  | _ => exact h.elim
theorem argQ_runs {o : Nat} {v : V G.El} {f : Nat → Q G.El β} (h : (argQ o v f).runs lk r l) : ∃ b, denV G v = .win o 0 b ∧ (f b).runs lk r l := by
  cases v with
  | win o' full off len =>
    simp only [argQ] at h
    cases hb : o' == o && off.is0 with
    | false => rw [hb] at h; exact h.elim
    | true =>
      rw [hb] at h
      simp only [Bool.and_eq_true, beq_iff_eq] at hb
      exact ⟨len.v, by rw [← hb.1]; show T.win o' off.v len.v = _; rw [is0_v hb.2], h⟩
  | _ => exact h.elim
theorem argNil_runs {v : V G.El} {f : Q G.El β} (h : (argNil v f).runs lk r l) : denV G v = .nil ∧ f.runs lk r l := by
  cases v with
  | nil => exact ⟨rfl, h⟩
  | _ => exact h.elim
theorem argDead_runs {v : V G.El} {f : Q G.El β} (h : (argDead v f).runs lk r l) : denV G v = .dead ∧ f.runs lk r l := by
  cases v with
  | dead => exact ⟨rfl, h⟩
  | _ => exact h.elim
theorem argV_runs {o j : Nat} {v : V G.El} {f : Q G.El β} (h : (argV o j v f).runs lk r l) : denV G v = .ptr o 0 j ∧ f.runs lk r l := by
  cases v with
  | ptr o' i j' =>
    simp only [argV] at h
    cases hb : o' == o && i.is0 && j' == j with
    | false => rw [hb] at h; exact h.elim
    | true =>
      rw [hb] at h
      simp only [Bool.and_eq_true, beq_iff_eq] at hb
      refine ⟨?_, h⟩
      show T.ptr o' i.v j' = _
      rw [hb.1.1, is0_v hb.1.2, hb.2]
  | _ => exact h.elim
theorem argE_runs {o j : Nat} {v : V G.El} {f : Nat → Q G.El β} (h : (argE o j v f).runs lk r l) : ∃ i, denV G v = .ptr o i j ∧ (f i).runs lk r l := by
  cases v with
  | ptr o' i j' =>
    simp only [argE] at h
    cases hb : o' == o && j' == j with
    | false => rw [hb] at h; exact h.elim
    | true =>
      rw [hb] at h
      simp only [Bool.and_eq_true, beq_iff_eq] at hb
      exact ⟨i.v, by rw [← hb.1, ← hb.2]; rfl, h⟩
  | _ => exact h.elim
theorem argF_runs {g : FuncId} {v : V G.El} {f : List (V G.El) → Q G.El β} (h : (argF g v f).runs lk r l) : ∃ cs : List (V G.El), denV G v = .fn g (cs.map denP) ∧ (f cs).runs lk r l := by
  cases v with
  | fn g' caps =>
    simp only [argF] at h
    cases hb : g' == g with
    | false => rw [hb] at h; exact h.elim
    | true =>
      rw [hb] at h
      have : g' = g := by simpa using hb
      exact ⟨caps, by rw [← this]; rfl, h⟩
  | _ => exact h.elim
theorem argX_runs {k : Nat} {agg : Bool} {x : O G.El} {f : List (V G.El) → Q G.El β} (h : (argX k agg x f).runs lk r l) : ∃ cs, denO G x = Ob.mkBox k (wrapT agg (cs.map (den1 G))) ∧ (f cs).runs lk r l := by
  cases x with
  | box a m v k' g cs =>
    cases a <;> cases m <;> first | exact h.elim | skip
    cases v with
    | succ n => exact h.elim
    | zero =>
      simp only [argX] at h
      cases hb : k' == k && (g == agg) && oneOr g cs with
      | false => rw [hb] at h; exact h.elim
      | true =>
        rw [hb] at h
        simp only [Bool.and_eq_true, beq_iff_eq] at hb
        obtain ⟨⟨rfl, rfl⟩, _⟩ := hb
        exact ⟨cs, rfl, h⟩
  | _ => exact h.elim
theorem call_runs {ρ : Type} {x : Option ρ} {f : ρ → Q G.El β} (h : (Q.call ρ x f).runs lk r l) : ∃ y, x = some y ∧ (f y).runs lk r l := h
def SumOk (P : Program) (C : Cert) (prim : FuncId → Option (List T → List Ob → Option (T × List Ob))) (G : Sg) (f : FuncId) (s : List (V G.El) → List (O G.El) → Q G.El (V G.El × List (O G.El))) : Prop :=
  ∀ (args : List (V G.El)) (objs : List (O G.El)) (lk : Nat → O G.El) (r : V G.El × List (O G.El)) (l : List Nat), (s args objs).runs lk r l →
    l = [] ∧ callT P C prim f (args.map (denV G)) (objs.map (denO G)) = some (denV G r.1, r.2.map (denO G))
def SumsOk (P : Program) (C : Cert) (prim : FuncId → Option (List T → List Ob → Option (T × List Ob))) (G : Sg) (l : List (Nat × (List (V G.El) → List (O G.El) → Q G.El (V G.El × List (O G.El))))) : Prop := ∀ f s, findU l f = some s → SumOk P C prim G f s
theorem sums_nil : SumsOk P C prim G [] := fun f s h => by cases h
theorem sums_cons {f : Nat} {s : List (V G.El) → List (O G.El) → Q G.El (V G.El × List (O G.El))} {l : List (Nat × (List (V G.El) → List (O G.El) → Q G.El (V G.El × List (O G.El))))} (h1 : SumOk P C prim G f s) (h2 : SumsOk P C prim G l) : SumsOk P C prim G ((f, s) :: l) := by
  intro g t h
  simp only [findU] at h
  split at h
  · rename_i he; subst he; obtain rfl := Option.some.inj h; exact h1
  · exact h2 g t h
theorem env_ok {l : List (Nat × (List (V G.El) → List (O G.El) → Q G.El (V G.El × List (O G.El))))} (h : SumsOk P C prim G l) : EvOk P C prim G (envOf C l) := by
  refine ⟨fun f => rfl, fun f args objs lk r q hr => ?_⟩
  simp only [envOf] at hr
  cases hf : findU l f with
  | none => rw [hf] at hr; exact hr.elim
  | some s => rw [hf] at hr; exact h f s hf args objs lk r q hr
theorem fn_ok0 {f : FuncId} {fn : Func} {c : Code} {Rr : Type} {E : Nat → Ev G.El} {kt : Nat → Nat → Nat} {start : PT Rr Empty} {h0 : H} {o : Rr → V G.El × List (O G.El)} {args : List (V G.El)} {objs : List (O G.El)} {s0 : S G.El} {k : Nat} {r : Rr}
    (ok : SgOk P G) (hE : ∀ k, EvOk P C prim G (E k)) (hp : prim f = none) (hf : P.funcs[f]? = some fn) (hb : fn.body = some c) (ho : okCode (C f) c = true) (hids : distinct (ids c) = true)
    (hs : s0 = startS fn.ntmps args objs) (hn : args.length ≤ fn.ntmps)
    (h0T : PN.exec ⟨G, E k, C f, kt⟩ c s0 h0 (endK ⟨G, E k, C f, kt⟩ fn objs.length) = start.lay (outL o) (jumpL (Empty.elim : Empty → Nat × S G.El))) (h : start.run (Empty.elim) = some r) :
    callT P C prim f (args.map (denV G)) (objs.map (denO G)) = some (denV G (o r).1, (o r).2.map (denO G)) :=
  fn_ok (D := fun _ => Empty.elim) (blk := fun _ => Empty.elim) (stt := Empty.elim) (hint := Empty.elim) ok hE hp hf hb ho hids hs hn (fun x => x.elim) (fun _ x => x.elim) (fun _ x => x.elim) h0T h
theorem cI_some {k : IntKind} {v : V G.El} {f : Int → Option β} (h : cI k v f = some r) : ∃ a, den1 G v = .sc (.int k a) ∧ f a = some r := by
  cases v with
  | il k' n =>
    simp only [cI] at h
    by_cases hk : k' = k
    · subst hk; rw [decide_eq_true rfl] at h; exact ⟨n, rfl, h⟩
    · rw [decide_eq_false hk] at h; cases h
  | id k' m n =>
    simp only [cI] at h
    by_cases hk : k' = k
    · subst hk; rw [decide_eq_true rfl] at h; exact ⟨n, rfl, h⟩
    · rw [decide_eq_false hk] at h; cases h
  | _ => cases h
theorem cS_some {v : V G.El} {f : ByteArray → Option β} (h : cS v f = some r) : ∃ a, den1 G v = .sc (.string a) ∧ f a = some r := by
  cases v with
  | s x => exact ⟨x, rfl, h⟩
  | _ => cases h
def TisOk (P : Program) (G : Sg) (l : List (Nat × TI G.El)) : Prop := ∀ t i, findK l t = some i → TiOk P G t i
theorem tis_nil : TisOk P G [] := fun t i h => by cases h
theorem tis_cons {t : Nat} {i : TI G.El} {l : List (Nat × TI G.El)} (h1 : TiOk P G t i) (h2 : TisOk P G l) : TisOk P G ((t, i) :: l) := by
  intro g j h
  simp only [findK] at h
  split at h
  · rename_i he; subst he; obtain rfl := Option.some.inj h; exact h1
  · exact h2 g j h
theorem some_all {α : Type} {a b : α} {p : α → Prop} (h : p a) (e : some a = some b) : p b := by obtain rfl := Option.some.inj e; exact h
theorem none_all {α : Type} {b : α} {p : Prop} (e : none = some b) : p := by cases e
theorem ofStr_u8 (s : ByteArray) : (bytesL s).map (fun x => T.sc (.int .u8 x)) = s.data.toList.map fun b => T.sc (.int .u8 (b.toNat : Int)) := by unfold bytesL; rw [List.map_map]; rfl
theorem toStr_u8 (xs : List Int) : bytesOf (xs.map (fun x => T.sc (.int .u8 x))) = some (strOf xs).data.toList := by
  have := bytesOf_map xs
  unfold strOf
  exact this
abbrev na {El : Nat → Type} {α β : Type} (cs : List (V El)) (g : V El → (α → Q El β) → Q El β) (f : α → List (V El) → Q El β) : Q El β := lH cs fun y q => g y fun a => f a q
abbrev nc {El : Nat → Type} {α β : Type} (cs : List (V El)) (g : V El → (α → Q El β) → Q El β) (f : α → List (V El) → Q El β) : Q El β := argH cs fun y q => g y fun a => f a q
abbrev na0 {El : Nat → Type} {β : Type} (cs : List (V El)) (g : V El → Q El β → Q El β) (f : List (V El) → Q El β) : Q El β := lH cs fun y q => g y (f q)
abbrev nc0 {El : Nat → Type} {β : Type} (cs : List (V El)) (g : V El → Q El β → Q El β) (f : List (V El) → Q El β) : Q El β := argH cs fun y q => g y (f q)
abbrev PT.t2 {R Lb : Type} {c : Prop} [d : Decidable c] (h : c) (k : PT R Lb) : PT R Lb := .th h (.th h k)
abbrev PT.t3 {R Lb : Type} {c : Prop} [d : Decidable c] (h : c) (k : PT R Lb) : PT R Lb := .th h (.t2 h k)
abbrev PT.t4 {R Lb : Type} {c : Prop} [d : Decidable c] (h : c) (k : PT R Lb) : PT R Lb := .th h (.t3 h k)
abbrev PT.t5 {R Lb : Type} {c : Prop} [d : Decidable c] (h : c) (k : PT R Lb) : PT R Lb := .th h (.t4 h k)
abbrev PT.t6 {R Lb : Type} {c : Prop} [d : Decidable c] (h : c) (k : PT R Lb) : PT R Lb := .th h (.t5 h k)
abbrev PT.t7 {R Lb : Type} {c : Prop} [d : Decidable c] (h : c) (k : PT R Lb) : PT R Lb := .th h (.t6 h k)
abbrev PT.t8 {R Lb : Type} {c : Prop} [d : Decidable c] (h : c) (k : PT R Lb) : PT R Lb := .th h (.t7 h k)
abbrev PT.t9 {R Lb : Type} {c : Prop} [d : Decidable c] (h : c) (k : PT R Lb) : PT R Lb := .th h (.t8 h k)
abbrev PT.t10 {R Lb : Type} {c : Prop} [d : Decidable c] (h : c) (k : PT R Lb) : PT R Lb := .th h (.t9 h k)
abbrev PT.t11 {R Lb : Type} {c : Prop} [d : Decidable c] (h : c) (k : PT R Lb) : PT R Lb := .th h (.t10 h k)
abbrev PT.t12 {R Lb : Type} {c : Prop} [d : Decidable c] (h : c) (k : PT R Lb) : PT R Lb := .th h (.t11 h k)
theorem argT2_runs {cs : List (V G.El)} {f : Q G.El β} (h : (argT cs f).runs lk r l) : cs.map (den1 G) = [] ∧ cs.map denP = [] ∧ f.runs lk r l := by
  cases cs with
  | nil => exact ⟨rfl, rfl, h⟩
  | cons y q => exact h.elim
theorem either_runs {γ δ : Type} {x : γ ⊕ δ} {f : γ → Q G.El β} {g : δ → Q G.El β} (h : (Q.either γ δ x f g).runs lk r l) : (∃ a, x = .inl a ∧ (f a).runs lk r l) ∨ ∃ a, x = .inr a ∧ (g a).runs lk r l := by
  cases x with
  | inl a => exact .inl ⟨a, rfl, h⟩
  | inr a => exact .inr ⟨a, rfl, h⟩
theorem sum_auto {f : FuncId} {s : List (V G.El) → List (O G.El) → Q G.El (V G.El × List (O G.El))} {α : Prop} (F : α) (h : α → SumOk P C prim G f s := by
    intro F ys os lk r l h
    with_reducible repeat (first
      | (replace h := lH_runs h; obtain ⟨_, _, rfl, h⟩ := h)
      | (replace h := lT_runs h; obtain ⟨rfl, h⟩ := h)
      | (replace h := argH_runs h; obtain ⟨_, _, _, h⟩ := h)
      | (replace h := argT2_runs h; obtain ⟨_, _, h⟩ := h)
      | (replace h := argL_runs h; obtain ⟨_, _, h⟩ := h)
      | (replace h := argI_runs h; obtain ⟨_, _, h⟩ := h)
      | (replace h := argS_runs h; obtain ⟨_, _, h⟩ := h)
      | (replace h := argB_runs h; obtain ⟨_, _, h⟩ := h)
      | (replace h := argA_runs h; obtain ⟨_, _, h⟩ := h)
      | (replace h := argR_runs h; obtain ⟨_, _, h⟩ := h)
      | (replace h := argX_runs h; obtain ⟨_, _, h⟩ := h)
      | (replace h := argW_runs h; obtain ⟨_, h⟩ := h)
      | (replace h := argV_runs h; obtain ⟨_, h⟩ := h)
      | (replace h := argP_runs h; obtain ⟨_, _, _, h⟩ := h)
      | (replace h := argQ_runs h; obtain ⟨_, _, h⟩ := h)
      | (replace h := argE_runs h; obtain ⟨_, _, h⟩ := h)
      | (replace h := argF_runs h; obtain ⟨_, _, h⟩ := h)
      | (replace h := argPH_runs h; obtain ⟨_, _, _, h⟩ := h)
      | (replace h := argNil_runs h; obtain ⟨_, h⟩ := h)
      | (replace h := argDead_runs h; obtain ⟨_, h⟩ := h))
    replace h := call_runs h
    obtain ⟨_, hz, h⟩ := h
    repeat' (first
      | (obtain ⟨rfl, rfl⟩ := runs_ret.1 h; exact ⟨rfl, by simp only [List.map_cons, List.map_nil, *] <;> exact F hz⟩)
      | (replace h := either_runs h; obtain ⟨_, rfl, h⟩ | ⟨_, rfl, h⟩ := h))) : SumOk P C prim G f s := h F
structure Pk (P : Program) (C : Cert) (prim : FuncId → Option (List T → List Ob → Option (T × List Ob))) (G : Sg) where
  n : Nat
  s : Nat → List (V G.El) → List (O G.El) → Q G.El (V G.El × List (O G.El))
  ok : ∀ k, SumOk P C prim G n (s k)
def evK (l : List (Pk P C prim G)) (k : Nat) : Ev G.El := envOf C (l.map fun p => (p.n, p.s k))
theorem evK_sums (k : Nat) : ∀ l : List (Pk P C prim G), SumsOk P C prim G (l.map fun p => (p.n, p.s k))
  | [] => sums_nil
  | p :: r => sums_cons (p.ok k) (evK_sums k r)
theorem evK_ok (l : List (Pk P C prim G)) (k : Nat) : EvOk P C prim G (evK l k) := env_ok (evK_sums k l)
end Go.Proofs.YtbfgmnjhikaagaaGreatDoor.PN
namespace Go.Proofs.YtbfgmnjhikaagaaGreatDoor.PM
open Go
theorem lookOf_nil (o : Nat) : lookOf [] o = Ob.gone := by simp [lookOf]
theorem exi_below {w w' : World} {g : Nat → Option Nat} {N : Nat → Prop} (hb : RowKit.Below w.heap.size w w') {v : Value} {t : T} (hv : FrV w' g (lookOf []) (NN (cxOf w g N []) w' g (lookOf [])) v t) : Exi w g N [] w' g [] v t := by
 have hg : ∀ o, lookOf [] o = Ob.gone := lookOf_nil
 exact ⟨hv, fun o ha => by rw [hg] at ha; exact absurd ha (by simp [Ob.gone]), fun o o' b h1 => by have := h1.1; rw [hg] at this; exact absurd this (by simp [Ob.gone]), fun o b ha => by rw [hg] at ha; exact absurd ha (by simp [Ob.gone]), fun b h _ => hb.block b h, hb.size, hb.os, hb.tape, hb.output, fun j hj => by simp at hj⟩
theorem exi_fresh {w w' : World} {g : Nat → Option Nat} {N : Nat → Prop} {args : List T} {vs : Array Value} (H : Ent w g N [] args vs) {b k cap : Nat} {ys : List T} {c' : Array Value} (hnew : w.heap.size ≤ b) (hR : RowC w' k b c') (hcs : cap * k ≤ c'.size) (hyl : ys.length ≤ cap)
 (hy : ∀ (i : Nat) y, ys[i]? = some y → y.width = k ∧ ∀ (j : Nat) t, y.cells[j]? = some t → ∃ v, c'[i * k + j]? = some v ∧ ShV w N v t) (hb : RowKit.Below w.heap.size w w') :
 Exi w g N [] w' (fun o => if o = 0 then some b else none) [Ob.mkRow k ys] (.slice (some ⟨b, 0, none⟩) ys.length cap) (.win 0 0 ys.length) := by
 obtain ⟨L, hL⟩ : ∃ L, L = lookOf [Ob.mkRow k ys] := ⟨_, rfl⟩
 obtain ⟨G, hG⟩ : ∃ G : Nat → Option Nat, G = (fun o => if o = 0 then some b else none) := ⟨_, rfl⟩
 have hg0 : G 0 = some b := by rw [hG]; exact if_pos rfl
 have l0 : L 0 = Ob.mkRow k ys := by rw [hL]; rfl
 have lg : ∀ q, 0 < q → L q = Ob.gone := fun q hq => by
  rw [hL]
  obtain ⟨q, rfl⟩ : ∃ p, q = p + 1 := ⟨q - 1, by omega⟩
  simp [lookOf]
 have hcz : csz w' b = c'.size := by obtain ⟨E, fr, h, _⟩ := hR; simp [csz, h]
 have z : ∀ o, (L o).alive = true → o = 0 := fun o h => by
  by_cases h0 : o = 0
  · exact h0
  · rw [lg o (by omega)] at h; simp [Ob.gone] at h
 have nn : ∀ q, N q → NN (cxOf w g N []) w' G L q ∧ w'.heap[q]? = w.heap[q]? := fun q hq => by
  have hq1 := H.n q hq
  refine ⟨⟨Nat.lt_of_lt_of_le hq1 hb.size, .inl hq, fun o ho => ?_⟩, hb.block q hq1⟩
  obtain rfl := z o ho.1
  rw [hg0]
  intro e
  have := Option.some.inj e
  omega
 rw [← hG]
 refine ⟨?_, fun o => ?_, fun o o' q h1 h2 _ _ => ?_, fun o q ha hg => ?_, fun q hq _ => hb.block q hq, hb.size, hb.os, hb.tape, hb.output, fun j hj => by simp at hj⟩
 ·
  rw [← hL]
  show WinV w' _ L 0 0 ys.length _
  exact ⟨by rw [l0], ⟨_, _, rfl, hyl, .inr ⟨_, _, rfl⟩⟩, fun _ => ⟨_, cap, rfl, hyl, .inr ⟨b, hg0, by rw [Nat.zero_mul], by rw [l0, hcz]; simpa using hcs⟩⟩⟩
 ·
  rw [← hL]
  intro ha
  obtain rfl := z o ha
  rw [l0]
  refine ⟨rfl, ?_⟩
  rw [hg0]
  obtain ⟨E, fr, h1, h2⟩ := hR
  refine ⟨c', E, fr, h1, h2, fun i y hyy => ⟨(hy i y hyy).1, fun j t ht => ?_⟩⟩
  obtain ⟨v, h3, h4⟩ := (hy i y hyy).2 j t ht
  exact ⟨v, h3, by rw [CellV, if_pos rfl]; exact h4.mono nn⟩
 ·
  rw [← hL] at h1 h2
  rw [z o h1.1, z o' h2.1]
 ·
  rw [← hL] at ha ⊢
  obtain rfl := z o ha
  obtain rfl : b = q := Option.some.inj (hg0.symm.trans hg)
  refine ⟨hR.lt, ?_⟩
  rw [l0, if_pos rfl]
  exact .inl hnew
theorem exi_put {w w' : World} {g : Nat → Option Nat} {N : Nat → Prop} {args : List T} {vs : Array Value} {x : Ob} (H : Ent w g N [x] args vs) (hxa : x.alive = true) (hxm : x.may = true) {b : Nat} (hb : g 0 = some b) {ys : List T} {c' : Array Value} (hR : RowC w' x.k b c') (hcs : c'.size = csz w b)
 (hy : ∀ (i : Nat) y, ys[i]? = some y → y.width = x.k ∧ ∀ (j : Nat) t, y.cells[j]? = some t → ∃ v, c'[i * x.k + j]? = some v ∧ ShV w N v t)
 (hkeep : ∀ q, q < w.heap.size → q ≠ b → w'.heap[q]? = w.heap[q]?) (hsz : w.heap.size ≤ w'.heap.size) (hos : w'.os = w.os) (htape : w'.tape = w.tape) (hout : w'.output = w.output) :
 Exi w g N [x] w' g [Ob.mkRow x.k ys] (.tuple #[]) (.tup []) := by
 obtain ⟨L, hL⟩ : ∃ L, L = lookOf [Ob.mkRow x.k ys] := ⟨_, rfl⟩
 have l0 : L 0 = Ob.mkRow x.k ys := by rw [hL]; rfl
 have lg : ∀ q, 0 < q → L q = Ob.gone := fun q hq => by
  rw [hL]
  obtain ⟨q, rfl⟩ : ∃ p, q = p + 1 := ⟨q - 1, by omega⟩
  simp [lookOf]
 have z : ∀ o, (L o).alive = true → o = 0 := fun o h => by
  by_cases h0 : o = 0
  · exact h0
  · rw [lg o (by omega)] at h; simp [Ob.gone] at h
 have own0 : Own (lookOf [x]) 0 := ⟨hxa, hxm⟩
 have hbs := H.blk 0 b hxa hb
 have hbn : ¬ N b := by have := hbs.2; rwa [show (lookOf [x] 0).may = true from hxm, if_pos rfl] at this
 have hcz : csz w' b = c'.size := by obtain ⟨E, fr, h, _⟩ := hR; simp [csz, h]
 have nn : ∀ q, N q → NN (cxOf w g N [x]) w' g L q ∧ w'.heap[q]? = w.heap[q]? := fun q hq => by
  have hq1 := H.n q hq
  have hqb : q ≠ b := fun e => hbn (e ▸ hq)
  refine ⟨⟨Nat.lt_of_lt_of_le hq1 hsz, .inl hq, fun o ho => ?_⟩, hkeep q hq1 hqb⟩
  obtain rfl := z o ho.1
  rw [hb]
  exact fun e => hqb (Option.some.inj e).symm
 refine ⟨⟨#[], rfl, rfl, fun i c hc => by simp at hc⟩, fun o => ?_, fun o o' q h1 h2 _ _ => ?_, fun o q ha hg => ?_, fun q hq hn => hkeep q hq fun e => hn ⟨0, own0, by rw [e]; exact hb⟩, hsz, hos, htape, hout, fun j hj => ?_⟩
 ·
  rw [← hL]
  intro ha
  obtain rfl := z o ha
  rw [l0]
  refine ⟨rfl, ?_⟩
  rw [hb]
  obtain ⟨E, fr, h1, h2⟩ := hR
  refine ⟨c', E, fr, h1, h2, fun i y hyy => ⟨(hy i y hyy).1, fun j t ht => ?_⟩⟩
  obtain ⟨v, h3, h4⟩ := (hy i y hyy).2 j t ht
  exact ⟨v, h3, by rw [CellV, if_pos rfl]; exact h4.mono nn⟩
 ·
  rw [← hL] at h1 h2
  rw [z o h1.1, z o' h2.1]
 ·
  rw [← hL] at ha ⊢
  obtain rfl := z o ha
  obtain rfl : b = q := Option.some.inj (hb.symm.trans hg)
  refine ⟨hR.lt, ?_⟩
  rw [l0, if_pos rfl]
  exact .inr ⟨0, own0, hb⟩
 ·
  obtain rfl : j = 0 := by simp at hj; omega
  rw [← hL, l0]
  exact ⟨rfl, fun _ => ⟨hxa, rfl, rfl, fun q hq => by obtain rfl : b = q := Option.some.inj (hb.symm.trans hq); rw [hcz, hcs]⟩⟩
theorem args_ext {vs : Array Value} {l : List Value} (hs : vs.size = l.length) (h : ∀ (q : Nat) v, l[q]? = some v → vs[q]? = some v) : vs = l.toArray := by
 apply Array.ext_getElem?
 intro q
 by_cases hq : q < l.length
 · rw [h q l[q] (List.getElem?_eq_getElem hq)]; simp [hq]
 · rw [Array.getElem?_eq_none (by omega)]; simp; omega
def pintV (s : ByteArray) : Int × Bool := match Lib.parseIntB 64 s.data.toList with
 | .ok v => (v, false)
 | .range => (Lib.intSat 64 s.data.toList, true)
 | _ => (0, true)
def pintD : List T → List Ob → Option (T × List Ob)
 | [.sc (.string s), .sc (.int .i64 a), .sc (.int .i64 b)], [] => if a = 10 ∧ b = 64 ∧ s.size ≤ 281474976710656 then some (.tup [.sc (.int .i64 (pintV s).1), .ifc (pintV s).2], []) else none
 | _, _ => none
def IfcV (b : Bool) (v : Value) : Prop := if b = true then ∃ u x, v = .iface u x else v = .nilIface
theorem pint_ok {P : Program} {f : FuncId} (hf : FnOk P f) (hc : ∀ (s : ByteArray) (w : World) (N : Nat → Prop), GlobOk P w N → s.size ≤ 281474976710656 → Calls P f #[.string s, .int .i64 10, .int .i64 64] w fun e w' => ∃ ev, e = .returned (.tuple #[.int .i64 (pintV s).1, ev]) ∧ IfcV (pintV s).2 ev ∧ RowKit.Below w.heap.size w w')
 {args : List T} {objs : List Ob} {r : T} {objs' : List Ob} (h : pintD args objs = some (r, objs')) : FnOk P f ∧ CallOk P f args objs r objs' := by
 unfold pintD at h
 split at h
 ·
  rename_i s a b
  split at h
  ·
   rename_i hg
   simp only [Option.some.injEq, Prod.mk.injEq] at h
   obtain ⟨rfl, rfl⟩ := h
   obtain ⟨rfl, rfl, hs⟩ := hg
   refine ⟨hf, fun w g N vs H G => ?_⟩
   obtain ⟨v0, h0, h1⟩ := H.args 0 _ rfl
   obtain ⟨v1, h2, h3⟩ := H.args 1 _ rfl
   obtain ⟨v2, h4, h5⟩ := H.args 2 _ rfl
   obtain ⟨rfl, _⟩ := frV_sc h1
   obtain ⟨rfl, _⟩ := frV_sc h3
   obtain ⟨rfl, _⟩ := frV_sc h5
   obtain rfl : vs = #[.string s, .int .i64 10, .int .i64 64] := args_ext (l := [.string s, .int .i64 10, .int .i64 64]) H.size fun q v hv => by
    match q with
    | 0 => simp at hv; subst hv; exact h0
    | 1 => simp at hv; subst hv; exact h2
    | 2 => simp at hv; subst hv; exact h4
    | q + 3 => simp at hv
   refine (hc s w N G hs).mono ?_
   rintro e w' ⟨ev, rfl, hi, hb⟩
   refine ⟨_, g, rfl, exi_below hb ⟨#[_, ev], rfl, rfl, fun i c hc => ?_⟩⟩
   match i with
   | 0 => simp at hc; subst hc; exact ⟨_, rfl, rfl, rfl⟩
   | 1 => simp at hc; subst hc; exact ⟨ev, rfl, hi⟩
   | i + 2 => simp at hc
  · cases h
 · cases h
def splV (s sep : ByteArray) : List ByteArray := Lib.splitB sep 0 (Lib.countB s sep) s
def splD : List T → List Ob → Option (T × List Ob)
 | [.sc (.string s), .sc (.string sep)], [] => if sep.size = 1 ∧ s.size ≤ 4194304 then some (.win 0 0 (splV s sep).length, [Ob.mkRow 1 ((splV s sep).map fun x => .sc (.string x))]) else none
 | _, _ => none
theorem spl_ok {P : Program} {f : FuncId} (hf : FnOk P f) (hc : ∀ (s sep : ByteArray) (w : World), sep.size = 1 → s.size ≤ 4194304 → Calls P f #[.string s, .string sep] w fun e w' => ∃ ty, e = .returned (.slice (some ⟨w.heap.size, 0, none⟩) (splV s sep).length (splV s sep).length) ∧ w' = w.alloc (.cells ((splV s sep).map Value.string).toArray ty))
 {args : List T} {objs : List Ob} {r : T} {objs' : List Ob} (h : splD args objs = some (r, objs')) : FnOk P f ∧ CallOk P f args objs r objs' := by
 unfold splD at h
 split at h
 ·
  rename_i s sep
  split at h
  ·
   rename_i hg
   simp only [Option.some.injEq, Prod.mk.injEq] at h
   obtain ⟨rfl, rfl⟩ := h
   obtain ⟨hp, hs⟩ := hg
   refine ⟨hf, fun w g N vs H _ => ?_⟩
   obtain ⟨v0, h0, h1⟩ := H.args 0 _ rfl
   obtain ⟨v1, h2, h3⟩ := H.args 1 _ rfl
   obtain ⟨rfl, _⟩ := frV_sc h1
   obtain ⟨rfl, _⟩ := frV_sc h3
   obtain rfl : vs = #[.string s, .string sep] := args_ext (l := [.string s, .string sep]) H.size fun q v hv => by
    match q with
    | 0 => simp at hv; subst hv; exact h0
    | 1 => simp at hv; subst hv; exact h2
    | q + 2 => simp at hv
   refine (hc s sep w hp hs).mono ?_
   rintro e w' ⟨ty, rfl, rfl⟩
   refine ⟨_, fun o => if o = 0 then some w.heap.size else none, rfl, ?_⟩
   have hh : (w.alloc (.cells ((splV s sep).map Value.string).toArray ty)).heap[w.heap.size]? = some (.cells ((splV s sep).map Value.string).toArray ty (0, 0)) := by show (w.heap.push _)[w.heap.size]? = _; simp
   have := exi_fresh (w' := w.alloc (.cells ((splV s sep).map Value.string).toArray ty)) (k := 1) (cap := (splV s sep).length) (ys := (splV s sep).map fun x => T.sc (.string x)) (c' := ((splV s sep).map Value.string).toArray) H (Nat.le_refl _)
    ⟨ty, (0, 0), hh, fun i _ => by simp only [World.frozen?, hh]; simp⟩ (by simp) (by simp) (fun i y hy => ?_) (RowKit.Below.alloc (RowKit.Below.refl _ _) (Nat.le_refl _) _)
   ·
    rw [List.length_map] at this
    exact this
   ·
    rw [List.getElem?_map, Option.map_eq_some_iff] at hy
    obtain ⟨x, hx, rfl⟩ := hy
    refine ⟨rfl, fun j t ht => ?_⟩
    match j with
    | 0 =>
     simp [T.cells] at ht
     subst ht
     exact ⟨.string x, by simp [hx], .sc rfl⟩
    | j + 1 => simp [T.cells] at ht
  · cases h
 · cases h
def intsT : List T → Option (List Int)
 | [] => some []
 | .sc (.int .i64 z) :: r => (intsT r).map (z :: ·)
 | _ :: _ => none
def tI (z : Int) : T := .sc (.int .i64 z)
theorem intsT_map : ∀ l : List Int, intsT (l.map tI) = some l
 | [] => rfl
 | z :: r => by simp only [List.map_cons, tI, intsT]; rw [show intsT (r.map tI) = some r from intsT_map r]; rfl
theorem intsT_eq : ∀ {xs : List T} {l : List Int}, intsT xs = some l → xs = l.map tI
 | [], l, h => by obtain rfl := Option.some.inj h; rfl
 | x :: r, l, h => by
  unfold intsT at h
  split at h
  · rename_i e; cases e
  ·
   rename_i z r' e
   injection e with e1 e2
   subst e1 e2
   simp only [Option.map_eq_some_iff] at h
   obtain ⟨l', h1, rfl⟩ := h
   rw [intsT_eq h1]
   rfl
  · cases h
def sortI (l : List Int) : List Int := l.mergeSort fun x y => decide (x ≤ y)
theorem sortI_length (l : List Int) : (sortI l).length = l.length := List.length_mergeSort _
def srtD : List T → List Ob → Option (T × List Ob)
 | [.win 0 0 n], [⟨true, true, true, true, 0, k, xs⟩] => match intsT xs with
  | some zs => if k = 1 ∧ n = xs.length ∧ 0 < n ∧ n ≤ 1073741824 then some (.tup [], [Ob.mkRow 1 ((sortI zs).map tI)]) else none
  | none => none
 | _, _ => none
theorem srt_ok {P : Program} {f : FuncId} (hf : FnOk P f) (hc : ∀ (blk cap : Nat) (zs : List Int) (w : World), Sort.Holds (Value.int .i64) w blk 0 zs.toArray → blk < w.heap.size → zs.length < 4611686018427387904 →
 Calls P f #[.slice (some ⟨blk, 0, none⟩) zs.length cap] w fun e w' => e = .returned (.tuple #[]) ∧ ∃ n os, w' = Sort.grow (Sort.putRow (Value.int .i64) (Sort.ahead w n) blk 0 (sortI zs).toArray) os)
 {args : List T} {objs : List Ob} {r : T} {objs' : List Ob} (h : srtD args objs = some (r, objs')) : FnOk P f ∧ CallOk P f args objs r objs' := by
 unfold srtD at h
 split at h
 ·
  rename_i n k xs
  split at h
  ·
   rename_i zs hzs
   split at h
   ·
    rename_i hg
    simp only [Option.some.injEq, Prod.mk.injEq] at h
    obtain ⟨rfl, rfl⟩ := h
    obtain ⟨rfl, hn, h0, hm⟩ := hg
    obtain rfl := intsT_eq hzs
    rw [List.length_map] at hn
    subst hn
    refine ⟨hf, fun w g N vs H _ => ?_⟩
    obtain ⟨v0, e0, f0⟩ := H.args 0 _ rfl
    obtain ⟨b, cap, C, hgb, rfl, hle, hR, hcap, hel⟩ := row_open H (o := 0) (x := Ob.mkRow 1 (zs.map tI)) rfl rfl rfl (by simp) f0 h0
    obtain rfl : vs = #[.slice (some ⟨b, 0, none⟩) zs.length cap] := args_ext (l := [.slice (some ⟨b, 0, none⟩) zs.length cap]) H.size fun q v hv => by
     match q with
     | 0 => simp at hv; subst hv; exact e0
     | q + 1 => simp at hv
    have hCz : zs.length ≤ C.size := Nat.le_trans hle (by simpa using hcap)
    have hcell : ∀ j, j < zs.length → C[j]? = some (.int .i64 zs[j]!) := fun j hj => by
     obtain ⟨v, h3, h4⟩ := (hel j (tI zs[j]) (by simp [hj])).2 0 (tI zs[j]) rfl
     have h3' : C[j * 1 + 0]? = some v := h3
     rw [Nat.mul_one, Nat.add_zero] at h3'
     cases h4
     rw [h3', getElem!_pos zs j hj]
    have hH : Sort.Holds (Value.int .i64) w b 0 zs.toArray := fun j hj => by
     have hj' : j < zs.length := by simpa using hj
     rw [Nat.zero_add]
     refine ⟨?_, ?_⟩
     ·
      rw [hR.cell, hcell j hj']
      simp [hj']
     ·
      obtain ⟨E, fr, _, hfr⟩ := hR
      exact hfr j (.inl (by omega))
    refine (hc b cap zs w hH hR.lt (by omega)).mono ?_
    rintro e w' ⟨rfl, n, os, rfl⟩
    refine ⟨_, g, rfl, ?_⟩
    obtain ⟨E, fr, hh, hfr⟩ := hR
    have hlt : b < w.heap.size := (Array.getElem?_eq_some_iff.1 hh).1
    have hh' : (Sort.grow (Sort.putRow (Value.int .i64) (Sort.ahead w n) b 0 (sortI zs).toArray) os).heap[b]? = some (.cells (Sort.putCells (Value.int .i64) 0 (sortI zs).toArray C) E fr) := by
     rw [Sort.heap_grow_old _ _ (by simpa using hlt)]
     simp [Sort.putRow, Sort.mapBlock, Sort.ahead, Array.getElem?_modify, hh, Sort.onCells]
    have hkeep : ∀ q, q < w.heap.size → q ≠ b → (Sort.grow (Sort.putRow (Value.int .i64) (Sort.ahead w n) b 0 (sortI zs).toArray) os).heap[q]? = w.heap[q]? := fun q hq hqb => by
     rw [Sort.heap_grow_old _ _ (by simpa using hq)]
     simp [Sort.putRow, Sort.mapBlock, Sort.ahead, Array.getElem?_modify, Ne.symm hqb]
    have hfz : ∀ i, (Sort.grow (Sort.putRow (Value.int .i64) (Sort.ahead w n) b 0 (sortI zs).toArray) os).frozen? ⟨b, i, none⟩ = w.frozen? ⟨b, i, none⟩ := fun i => by simp only [World.frozen?, hh', hh]
    have hsz : (Sort.putCells (Value.int .i64) 0 (sortI zs).toArray C).size = C.size := by simp [Sort.putCells]
    exact exi_put (x := Ob.mkRow 1 (zs.map tI)) (ys := (sortI zs).map tI) H rfl rfl hgb ⟨E, fr, hh', fun i hi => by rw [hfz]; exact hfr i (by rw [hsz] at hi; exact hi)⟩ (by rw [hsz]; simp [csz, hh]) (fun i y hy => by
     rw [List.getElem?_map, Option.map_eq_some_iff] at hy
     obtain ⟨x, hx, rfl⟩ := hy
     refine ⟨rfl, fun j t ht => ?_⟩
     match j with
     | 0 =>
      simp [T.cells, tI] at ht
      subst ht
      have hi : i < (sortI zs).length := (List.getElem?_eq_some_iff.1 hx).1
      have hi' : i < C.size := by rw [sortI_length] at hi; omega
      refine ⟨.int .i64 x, ?_, .sc rfl⟩
      show (Sort.putCells (Value.int .i64) 0 (sortI zs).toArray C)[i * 1 + 0]? = _
      rw [Nat.mul_one, Nat.add_zero]
      have h5 : (sortI zs)[i] = x := (List.getElem?_eq_some_iff.1 hx).2
      simp [Sort.putCells, hi', hi, h5]
     | j + 1 => simp [T.cells, tI] at ht) hkeep (by simp) rfl rfl rfl
   · cases h
  · cases h
 · cases h
end Go.Proofs.YtbfgmnjhikaagaaGreatDoor.PM
