/- Texts of this seat's claims, put together: EvI, EvJ, EvK, EvL, EvM -/
import Derived.Test.YthkepmicdpgbbaaGreatDoorPkYzB2
namespace Go.Proofs.YthkepmicdpgbbaaGreatDoor.E
open Go Go.RowKit Go.Proofs.YthkepmicdpgbbaaGreatDoorW.PrintWords
set_option linter.unusedVariables false
set_option linter.unusedSimpArgs false
section
variable {E : Env} {h : List Blk} {K : Kont}
theorem append0_ok {t t2 ty : Nat} {p q : PV} (hk : aAppend0 E h t t2 p q K) : Step E.P h (fun G w m => ∃ v x, Reps G w p v ∧ Reps G w q x ∧ m = Builtin.append_ #[t, t2] ty #[v, x]) K := by
 unfold aAppend0 at hk
 cases hl : look E.T t with
 | none => rw [hl] at hk; exact hk.elim
 | some i =>
  cases hl2 : look E.T t2 with
  | none => rw [hl, hl2] at hk; exact hk.elim
  | some i2 =>
   rw [hl, hl2] at hk
   simp only at hk
   have hf := Env.fact hl
   have hf2 := Env.fact hl2
   cases hik : i.k with
   | slice e =>
    rw [hik] at hk
    simp only at hk
    have ht : E.P.underlying t = some (.slice e) := by have := hf.2.1; rw [hik] at this; exact this
    cases hle : look E.T e with
    | none => rw [hle] at hk; exact hk.elim
    | some j =>
     rw [hle] at hk
     simp only at hk
     have hj := Env.fact hle
     obtain ⟨els2, rd, ⟨hz, hel, hk⟩, hsrc⟩ := src_ok hf2 ht hk
     have hs := hsrc ⟨hz, hel⟩
     cases p with
     | own id n =>
      simp only at hk
      cases hb : nthB h id with
      | none => rw [hb] at hk; exact hk.elim
      | some B =>
       rw [hb] at hk
       cases B with
       | box _ _ => exact hk.elim
       | tree _ _ _ _ => exact hk.elim
       | junk => exact hk.elim
       | arr sz ty' fz els =>
        cases fz with
        | true => exact hk.elim
        | false =>
         simp only at hk
         obtain ⟨k1, k2, k3, els', rfl, k4, k5, hk⟩ := hk
         subst k2 k3
         rw [List.length_append] at k4 k5 hk
         refine ⟨_, _, _, _, hk, fun x hx => nthB_putB_ne h id x _ (by simpa using hx), by rw [len_putB]; exact Nat.le_refl _, fun G w m hi hm hr => ?_⟩
         obtain ⟨v, x, hv, hx, rfl⟩ := hm
         have r := hr id (by simp)
         rw [hb] at r
         obtain ⟨v', w', G', a1, a2, a3, a4⟩ := append_core (ty := ty) hi ht hj rfl hz r k1 hv (hs G w x hi hx (fun id hid => hr id (.inl hid))) k5 k4
         refine ⟨v', w', G', a1, a2, a3, fun x hx => ?_⟩
         simp only [List.mem_singleton] at hx
         subst hx
         rw [nthB_putB_same _ hb]
         exact a4
     | nil =>
      simp only at hk
      obtain ⟨k4, k5, hk⟩ := hk
      refine ⟨_, _, _, _, hk, keeps_push h _, len_push h _, fun G w m hi hm hr => ?_⟩
      obtain ⟨v, x, hv, hx, rfl⟩ := hm
      simp only [Reps] at hv
      subst hv
      have h0 := none_at h (hr (len h) (by simp))
      have X0 := ext_name hi (len h) (j.size, 0, false) h0
      have hi0 := hi.ext X0
      obtain ⟨n1, n2⟩ := name_nil hi hz e h0
      obtain ⟨d2, news, s1, s2, s3, s4, s5, s6, s7⟩ := hs G w x hi hx (fun id hid => hr id (.inl hid))
      obtain ⟨v', w', G', a1, a2, a3, a4⟩ := append_core (ty := ty) (els := []) hi0 ht hj rfl hz n1 rfl n2 ⟨d2, news, s1, s2, s3, s4, s5, s6, RepE.mono (imm_old X0 hi) _ _ _ s7⟩ (by simpa using k5) (by simpa using k4)
      simp only [List.length_nil, Nat.zero_add, List.nil_append] at a3 a4
      refine ⟨v', w', G', a1, (Ext.trans hi X0 a2).mono (fun x hx => by simpa using hx), a3, fun x hx => ?_⟩
      simp only [List.mem_singleton] at hx
      subst hx
      rw [nthB_new]
      exact a4
     | _ => exact hk.elim
   | _ => rw [hik] at hk; exact hk.elim
theorem append_ok {t t2 ty : Nat} {p q : PV} (hk : aAppend E h t t2 p q K) : Step E.P h (fun G w m => ∃ v x, Reps G w p v ∧ Reps G w q x ∧ m = Builtin.append_ #[t, t2] ty #[v, x]) K := by
 unfold aAppend at hk
 split at hk
 ·rename_i p id n
  split at hk
  ·rename_i o sz ty' ty2 els hb
   unfold aAppTree at hk
   split at hk
   ·rename_i i i2 id3 n3 hl hl2
    have hf := Env.fact hl
    split at hk
    ·rename_i k e hik
     have ht : E.P.underlying t = some (.slice e) := by have := hf.2.1; rw [hik] at this; exact this
     split at hk
     ·rename_i j sz3 ty3 ty23 els3 hle hb3
      have hj := Env.fact hle
      obtain ⟨rfl, k1, hz, hn, hn3, rfl, rfl, rfl, rfl, els', rfl, k4, k5, hk⟩ := hk
      have hne : id3 ≠ id := fun e => by
       subst e
       rw [show Nat.beq id3 id3 = true from Nat.beq_refl id3] at k1
       cases k1
      rw [List.length_append] at k4 k5 hk
      have hb' : nthB (putB h id (.tree j.size ty' ty23 (els ++ els3))) id3 = nthB h id3 := nthB_putB_ne h id id3 _ hne
      refine ⟨_, _, _, _, hk, fun x hx => ?_, by rw [len_putB, len_putB]; exact Nat.le_refl _, fun G w m hi hm hr => ?_⟩
      ·simp only [List.mem_cons, List.not_mem_nil, or_false, not_or] at hx
       rw [nthB_putB_ne _ id3 x _ hx.2, nthB_putB_ne h id x _ hx.1]
      obtain ⟨v, x, hv, hx, rfl⟩ := hm
      have r := hr id (by simp)
      have r3 := hr id3 (by simp)
      rw [hb] at r
      rw [hb3] at r3
      subst hn3
      obtain ⟨v', w', G', a1, a2, a3, a4, a5⟩ := append_tree (ty := ty) hi ht hj rfl rfl hz hne r r3 hn hv hx k5 k4
      refine ⟨v', w', G', a1, a2, a3, fun x hx => ?_⟩
      simp only [List.mem_cons, List.not_mem_nil, or_false] at hx
      rcases hx with rfl | rfl
      ·rw [nthB_putB_ne _ id3 x _ (Ne.symm hne), nthB_putB_same _ hb]
       exact a4
      ·rw [nthB_putB_same _ (hb'.trans hb3)]
       exact a5
     ·exact hk.elim
    ·exact hk.elim
   ·exact hk.elim
  ·exact append0_ok hk
 ·exact append0_ok hk
theorem new_tree {G : Gh} {w : World} (hi : Inv G w) {id sz cap : Nat} (hsz : 0 < sz) (h0 : RelB G w id none) {els : List (List CV)} {vs : Array Value} {ty ty2 : TypeId} {f : Option Nat} (hin : TrIn h ty2 els.flatten f G w vs.toList) (hfr : ∀ a, f = some a → RelB G w a (nthB h a) ∧ a ≠ id)
  (hs : ∀ x ∈ els, x.length = sz) (hv : vs.size = cap * sz) (hl : els.length ≤ cap) (hc : cap ≤ maxLen) :
  ∃ G', Ext (id :: f.toList) G w G' (w.alloc (.cells vs ty)) ∧ Reps G' (w.alloc (.cells vs ty)) (.own id els.length) (.slice (some ⟨w.heap.size, 0, none⟩) els.length cap) ∧ RelB G' (w.alloc (.cells vs ty)) id (some (.tree sz ty ty2 els)) ∧ ∀ a, f = some a → RelB G' (w.alloc (.cells vs ty)) a (some .junk) := by
 have core : ∀ (G1 : Gh) (ids : List Nat), Ext ids G w G1 w → RelB G1 w id none ∨ (∀ b, G1.own b = some id → b < w.heap.size ∧ ¬ G1.top b) → G1.inf id = none → TrP G1 w id ty2 els.flatten vs.toList → (blkP els.flatten vs.toList).Nodup →
   Ext [id] G1 w (G1.put w.heap.size id (sz, els.length, false)) (w.alloc (.cells vs ty)) → 
   Reps (G1.put w.heap.size id (sz, els.length, false)) (w.alloc (.cells vs ty)) (.own id els.length) (.slice (some ⟨w.heap.size, 0, none⟩) els.length cap) ∧ RelB (G1.put w.heap.size id (sz, els.length, false)) (w.alloc (.cells vs ty)) id (some (.tree sz ty ty2 els)) := by
  intro G1 ids X0 hno hinf hT hN X1
  have hi1 := hi.ext X0
  have hold : ∀ b, G1.own b = some id → b < w.heap.size ∧ ¬ G1.top b := fun b hb => by
   rcases hno with a | a
   ·exact absurd hb (a.2 b)
   ·exact a b hb
  have hroot : (G1.put w.heap.size id (sz, els.length, false)).own w.heap.size = some id ∧ (G1.put w.heap.size id (sz, els.length, false)).top w.heap.size := ⟨put_own _ _ _ _, hi1.top _ (Nat.le_refl _)⟩
  refine ⟨?_, put_inf _ _ _ _, hsz, fun b b' e1 e2 e3 e4 => ?_, .inr ⟨w.heap.size, vs, hroot, heap_alloc_new w _, ?_, hs, ?_, hN⟩⟩
  ·simp only [Reps]
   exact ⟨_, _, _, put_inf _ _ _ _, hsz, rfl, .inr ⟨rfl, .inr ⟨w.heap.size, cap, vs, ty, rfl, hroot, heap_alloc_new w _, hv, hl, hc⟩⟩⟩
  ·have one : ∀ b, (G1.put w.heap.size id (sz, els.length, false)).own b = some id → (G1.put w.heap.size id (sz, els.length, false)).top b → b = w.heap.size := fun b e1 e2 => by
    simp only [Gh.put] at e1
    split at e1
    ·assumption
    ·exact absurd e2 (hold b e1).2
   rw [one b e1 e2, one b' e3 e4]
  ·rw [hv]
   exact Nat.mul_le_mul_right _ hl
  ·refine TrP.mono (fun l v q => ?_) hT
   rcases q with q | ⟨b', c, cs, h1, h2, h3, h4, h5⟩
   ·exact .inl q
   ·refine .inr ⟨b', c, cs, h1, ?_, h3, (Below.heap_alloc w _ b' (hi1.own b' id h2)).trans h4, h5.1, h5.2.1, h5.2.2.1, RepE.mono (fun _ _ _ e => e.elim) 1 l _ h5.2.2.2⟩
    simp only [Gh.put]
    rw [if_neg (own_lt hi1 h2)]
    exact h2
 cases f with
 | none =>
  obtain ⟨a1, a2⟩ := hin id
  have X1 := ext_alloc hi id (sz, els.length, false) h0 (.cells vs ty)
  obtain ⟨b1, b2⟩ := core G [] (Ext.refl hi []) (.inl h0) h0.1 a1 (by rw [a2]; exact List.nodup_nil) X1
  exact ⟨_, X1, b1, b2, fun a e => by cases e⟩
 | some a =>
  obtain ⟨⟨elsA, hA⟩, hT⟩ := hin
  obtain ⟨ra, hne⟩ := hfr a rfl
  rw [hA] at ra
  obtain ⟨a1, a2, a3⟩ := hT id hne
  have X0 := ext_absorb hi ra.1 hne
  have hi1 := hi.ext X0
  have hinf : (G.absorb a id).inf id = none := by
   simp only [Gh.absorb]
   rw [if_neg (Ne.symm hne)]
   exact h0.1
  have hold : ∀ b, (G.absorb a id).own b = some id → b < w.heap.size ∧ ¬ (G.absorb a id).top b := fun b hb => by
   refine ⟨hi1.own b id hb, fun ht => ?_⟩
   simp only [Gh.absorb] at hb
   rw [if_neg ht.1] at hb
   exact h0.2 b hb
  have X1 := ext_alloc2 hi1 id (sz, els.length, false) hinf (.cells vs ty)
  obtain ⟨b1, b2⟩ := core _ _ X0 (.inr hold) hinf a1 a2 X1
  refine ⟨_, (Ext.trans hi X0 X1).mono (fun y hy => by
   simp only [List.mem_append, List.mem_cons, List.not_mem_nil, or_false, Option.toList_some] at hy ⊢
   rcases hy with (hy | hy) | hy <;> simp [hy]), b1, b2, fun a' e => ?_⟩
  injection e with e
  subst e
  exact RelB.ext X1 hi1 (by simpa using hne) (junk_absorb ra.1)
theorem rep_repl {I : Nat → Prop} {w : World} {cvs : List CV} {zs : List Value} (h1 : RepP I w cvs zs) (hl : zs.length = cvs.length) : ∀ (n : Nat) (vs : List Value), (∀ q, q < n * cvs.length → vs[q]? = zs[q % cvs.length]?) → RepE I w cvs.length (List.replicate n cvs) vs
 | 0, vs, _ => by simp [RepE]
 | n + 1, vs, hv => by
  simp only [List.replicate_succ, RepE]
  refine ⟨by simp, ?_, rep_repl h1 hl n _ fun q hq => ?_⟩
  ·have e1 : vs.take cvs.length = zs := by
    apply List.ext_getElem?
    intro q
    rw [List.getElem?_take]
    split
    ·rename_i hq
     rw [hv q (by rw [Nat.add_mul, Nat.one_mul]; omega), Nat.mod_eq_of_lt hq]
    ·rw [List.getElem?_eq_none]
     omega
   rw [← e1] at h1
   exact h1.of_take _
  ·rw [List.getElem?_drop, hv _ (by rw [Nat.add_mul, Nat.one_mul]; omega), Nat.add_mod_left]
theorem makeSlice_ok {t : Nat} {p q : PV} (hk : aMakeSlice E h t p q K) : Step E.P h (fun G w m => ∃ v x, Reps G w p v ∧ Reps G w q x ∧ m = Instr.makeSlice t v x) K := by
 unfold aMakeSlice at hk
 split at hk
 ·rename_i i k1 n k2 c hl
  have hf := Env.fact hl
  split at hk
  ·rename_i e hik
   have ht : E.P.underlying t = some (.slice e) := by have := hf.2.1; rw [hik] at this; exact this
   cases hle : look E.T e with
   | none => rw [hle] at hk; exact hk.elim
   | some j =>
    rw [hle] at hk
    simp only at hk
    have hj := Env.fact hle
    cases hc : pcells (ofV j.zero) with
    | none => rw [hc] at hk; exact hk.elim
    | some z =>
     rw [hc] at hk
     simp only at hk
     obtain ⟨cvs, f, ⟨rfl, rfl, z1, z2, z3, z4, z5, els', rfl, hk⟩, f1, f2, f3⟩ := toCs_ok hk
     rw [List.length_replicate] at hk
     refine ⟨_, _, _, _, hk, keeps_push h _, len_push h _, fun G w m hi hm hr => ?_⟩
     obtain ⟨v, x, hv, hx, rfl⟩ := hm
     simp only [Reps, RepC] at hv hx
     subst hv hx
     obtain ⟨N, rfl⟩ := Int.eq_ofNat_of_zero_le z1
     obtain ⟨inf, i1, i2, i3, i4⟩ := hj.info
     obtain ⟨q1, q2⟩ := pcells_ok hc (ofV_ok G w j.zero)
     have hz := q1.length
     rw [Array.length_toList] at hz
     have hN : N ≤ 9223372036854775807 := by omega
     have hw : IntKind.i64.wrap (N : Int) = N := by simp [IntKind.wrap, IntKind.signed, IntKind.bits]; omega
     have h0 := none_at h (hr (len h) (by simp))
     have hcv := f3 G w _ [] hi q1 (fun id hid => by cases hid) (fun id hid => by cases hid)
     have hG : G.frz [] = G := by simp [Gh.frz]
     rw [hG] at hcv
     have hrun := run_make (P := E.P) w t e inf j.zero ht i1 i4 k1 k2 (N : Int) (N : Int) z1 (Int.le_refl _) (by rw [i3]; exact z2) z3
     rw [Int.toNat_natCast, i2] at hrun
     have hcs : (madeCells j.zero.cells (N * j.size)).size = N * j.size := size_madeCells _ _
     have hrep : RepE G.imm w j.size (List.replicate N cvs) (madeCells j.zero.cells (N * j.size)).toList := by
      have := rep_repl hcv (by rw [Array.length_toList, hz, f2]) N (madeCells j.zero.cells (N * j.size)).toList (fun q hq => ?_)
      ·rw [f2, ← z5] at this
       exact this
      ·rw [f2, ← z5] at hq
       have h3 : 0 < j.zero.cells.size := by omega
       have hq2 : q % j.zero.cells.size < j.zero.cells.size := Nat.mod_lt _ h3
       rw [f2, ← hz, Array.getElem?_toList, Array.getElem?_toList]
       simp [madeCells, hq, hq2]
     obtain ⟨x1, x2, x3⟩ := new_arr hi z4 h0 (ty := e) hrep hcs (by rw [List.length_replicate]; exact Nat.le_refl _) (by simp only [maxLen]; omega)
     rw [List.length_replicate] at x1 x2
     refine ⟨_, _, _, hrun, x1, x2, fun y hy => ?_⟩
     simp only [List.mem_singleton] at hy
     subst hy
     rw [nthB_new]
     rw [List.length_replicate] at x3
     exact x3
  ·exact hk.elim
 ·exact hk.elim
theorem fold_put : ∀ (l : List Value) (k off : Nat) (cells : Array Value), off + k + l.length ≤ cells.size →
  ((l.zipIdx k).foldl (fun (cs : Array Value) (x : Value × Nat) => cs.setIfInBounds (off + x.2) x.1) cells).toList = cells.toList.take (off + k) ++ l ++ cells.toList.drop (off + k + l.length)
 | [], k, off, cells, _ => by simp
 | v :: r, k, off, cells, hl => by
  simp only [List.length_cons] at hl
  simp only [List.zipIdx_cons, List.foldl_cons]
  rw [fold_put r (k + 1) off _ (by simp; omega)]
  have h1 : (cells.setIfInBounds (off + k) v).toList = cells.toList.take (off + k) ++ v :: cells.toList.drop (off + k + 1) := by
   rw [Array.toList_setIfInBounds, List.set_eq_take_append_cons_drop, if_pos (by simp; omega)]
  rw [h1]
  have e1 : off + (k + 1) = (cells.toList.take (off + k)).length + 1 := by simp; omega
  have e2 : off + (k + 1) + r.length = (cells.toList.take (off + k)).length + (1 + r.length) := by simp; omega
  rw [e2, e1, List.take_length_add_append, List.drop_length_add_append]
  simp only [List.take_succ_cons, List.take_zero, List.length_cons]
  rw [Nat.add_comm 1 r.length, List.drop_succ_cons, List.drop_drop]
  simp only [List.append_assoc, List.cons_append, List.nil_append]
  congr 4
  omega
theorem fill_ok {G : Gh} {w : World} {pl : Nat → Option (Nat × Nat)} : ∀ {parts : List (Nat × PV)} {vs : List (Nat × Value)} {cs cs' : List PV} {cells : Array Value}, fillP pl cs parts = some cs' → RepsL G w cs cells.toList →
  (∀ u ∈ cells.toList, u.oneCell' = true) → parts.map (·.1) = vs.map (·.1) → RepsL G w (parts.map (·.2)) (vs.map (·.2)) →
  ∃ cells', Instr.fill pl cells vs = some cells' ∧ RepsL G w cs' cells'.toList ∧ cells'.size = cells.size ∧ ∀ u ∈ cells'.toList, u.oneCell' = true
 | [], vs, cs, cs', cells, hf, hr, h1, hi, hp => by
  cases vs with
  | cons v r => simp at hi
  | nil =>
   simp only [fillP, Option.some.injEq] at hf
   subst hf
   exact ⟨cells, rfl, hr, rfl, h1⟩
 | x :: parts, [], cs, cs', cells, hf, hr, h1, hi, hp => by simp at hi
 | x :: parts, v :: vs, cs, cs', cells, hf, hr, h1, hi, hp => by
  simp only [List.map_cons, List.cons.injEq] at hi
  simp only [List.map_cons, RepsL] at hp
  obtain ⟨u, us, hu, hp1, hp2⟩ := hp
  injection hu with hu1 hu2
  subst hu1 hu2
  simp only [fillP] at hf
  rw [hi.1] at hf
  cases hpl : pl v.1 with
  | none => rw [hpl] at hf; cases hf
  | some q =>
   cases hc : pcells x.2 with
   | none => rw [hpl, hc] at hf; cases hf
   | some ds =>
    rw [hpl, hc] at hf
    simp only at hf
    cases hb : (Nat.beq (len ds) q.2 && Nat.ble (q.1 + len ds) (len cs)) with
    | false => rw [hb] at hf; cases hf
    | true =>
     rw [hb, cond_true] at hf
     rw [Bool.and_eq_true] at hb
     have b1 := Nat.eq_of_beq_eq_true hb.1
     have b2 := Nat.le_of_ble_eq_true hb.2
     rw [len_eq] at b1 b2
     rw [len_eq] at b2
     obtain ⟨p1, p2⟩ := pcells_ok hc hp1
     have l1 := p1.length
     have l2 := hr.length
     rw [Array.length_toList] at l1 l2
     have hfold := fold_put v.2.cells.toList 0 q.1 cells (by rw [Array.length_toList]; omega)
     simp only [Nat.add_zero] at hfold
     let cells2 : Array Value := v.2.cells.zipIdx.foldl (fun (cs : Array Value) (x : Value × Nat) => cs.setIfInBounds (q.1 + x.2) x.1) cells
     have hc2 : cells2.toList = cells.toList.take q.1 ++ v.2.cells.toList ++ cells.toList.drop (q.1 + v.2.cells.toList.length) := by
      rw [← hfold]
      simp only [cells2]
      rw [← Array.foldl_toList, Array.toList_zipIdx]
     have hsz : cells2.size = cells.size := by
      rw [← Array.length_toList, hc2]
      simp only [List.length_append, List.length_take, List.length_drop, Array.length_toList]
      omega
     obtain ⟨cells', r1, r2, r3, r4⟩ := fill_ok (cells := cells2) hf (by rw [hc2]; exact hr.put_list q.1 p1) (fun z hz => by
      rw [hc2] at hz
      simp only [List.mem_append] at hz
      rcases hz with (hz | hz) | hz
      ·exact h1 z (List.mem_of_mem_take hz)
      ·exact p2 z hz
      ·exact h1 z (List.mem_of_mem_drop hz)) hi.2 hp2
     refine ⟨cells', ?_, r2, r3.trans hsz, r4⟩
     obtain ⟨a, b⟩ := v
     obtain ⟨q1, q2⟩ := q
     simp only [Instr.fill]
     rw [hpl]
     simp only
     rw [if_neg]
     ·exact r1
     ·simp only [ne_eq, gt_iff_lt, Bool.or_eq_true, decide_eq_true_eq, not_or, Decidable.not_not, Nat.not_lt]
      simp only at l1 b1 b2
      omega
theorem nthF_eq : ∀ (fs : List (Nat × Nat)) (n : Nat), nthF fs n = fs[n]?
 | [], _ => rfl
 | _ :: _, 0 => rfl
 | _ :: r, n + 1 => by simpa [nthF] using nthF_eq r n
theorem places_of (P : Program) : ∀ (l : List Field) (fs : List (Nat × Nat)), (l.map fun f => (f.offset, f.type)).map (fun x => (x.1, (P.info? x.2).map (·.size))) = fs.map (fun x => (x.1, some x.2)) →
  l.mapM (fun f => (P.info? f.type).map fun i => (f.offset, i.size)) = some fs
 | [], [], _ => rfl
 | [], _ :: _, h => by simp at h
 | _ :: _, [], h => by simp at h
 | f :: l, y :: fs, h => by
  simp only [List.map_cons, List.cons.injEq, Prod.mk.injEq] at h
  have ih := places_of P l fs h.2
  obtain ⟨i, h1, h2⟩ := Option.map_eq_some_iff.1 h.1.2
  simp only [List.mapM_cons, ih, h1]
  simp [h.1.1, h2]
theorem build_ok {t : Nat} {parts : List (Nat × PV)} (hk : aBuild E h t parts K) : Step E.P h (fun G w m => ∃ vs : List (Nat × Value), parts.map (·.1) = vs.map (·.1) ∧ RepsL G w (parts.map (·.2)) (vs.map (·.2)) ∧ m = Instr.build t vs.toArray) K := by
 unfold aBuild at hk
 cases hl : look E.T t with
 | none => rw [hl] at hk; exact hk.elim
 | some i =>
  rw [hl] at hk
  simp only at hk
  have hf := Env.fact hl
  cases hc : pcells (ofV i.zero) with
  | none => rw [hc] at hk; exact hk.elim
  | some z =>
   rw [hc] at hk
   simp only at hk
   cases hik : i.k with
   | struct fs =>
    rw [hik] at hk
    simp only at hk
    cases hfp : fillP (nthF fs) z parts with
    | none => rw [hfp] at hk; exact hk.elim
    | some cs =>
     rw [hfp] at hk
     refine Step.pure hk fun G w m hi hm => ?_
     obtain ⟨vs, v1, v2, rfl⟩ := hm
     obtain ⟨q1, q2⟩ := pcells_ok hc (ofV_ok G w i.zero)
     obtain ⟨cells', r1, r2, r3, r4⟩ := fill_ok hfp q1 q2 v1 v2
     refine ⟨.agg cells', ?_, by simp only [Reps]; exact ⟨cells', rfl, r2⟩⟩
     obtain ⟨fields, u1, u2⟩ := hf.struct hik
     obtain ⟨inf, i1, i2, i3, i4⟩ := hf.info
     have hp := places_of E.P fields.toList fs u2
     have hfun : nthF fs = fun x => fs[x]? := funext (nthF_eq fs)
     rw [hfun] at r1
     simp [Instr.build, run_underlying u1, typeInfo, zeroValue, i1, i4, Array.mapM_eq_mapM_toList, run_places w _ _ hp, r1]
   | array n e =>
    rw [hik] at hk
    simp only at hk
    have h2 := hf.2.1
    rw [hik] at h2
    cases parts with
    | cons _ _ => exact hk.elim
    | nil =>
     cases hle : look E.T e with
     | none => rw [hle] at hk; exact hk.elim
     | some y =>
      rw [hle] at hk
      refine Step.pure hk fun G w m hi hm => ?_
      obtain ⟨vs, v1, v2, rfl⟩ := hm
      obtain rfl : vs = [] := by
       cases vs with
       | nil => rfl
       | cons _ _ => simp at v1
      obtain ⟨q1, q2⟩ := pcells_ok hc (ofV_ok G w i.zero)
      refine ⟨.agg i.zero.cells, ?_, by simp only [Reps]; exact ⟨_, rfl, q1⟩⟩
      obtain ⟨inf, i1, i2, i3, i4⟩ := hf.info
      simp [Instr.build, Instr.fill, run_underlying h2, typeInfo, zeroValue, i1, i4, (Env.fact hle).sizeOf w]
   | _ => rw [hik] at hk; exact hk.elim
theorem chunks_rep {I : Nat → Prop} {w : World} {sz : Nat} : ∀ (n : Nat) {cvs : List CV} {vs : List Value}, RepP I w cvs vs → cvs.length = n * sz → RepE I w sz (chunks sz n cvs) vs
 | 0, cvs, vs, _, _ => by simp [chunks, RepE]
 | n + 1, cvs, vs, hr, hl => by
  rw [Nat.add_mul, Nat.one_mul] at hl
  simp only [chunks, RepE]
  exact ⟨by rw [List.length_take]; omega, (RepP.take sz hr).of_take _, chunks_rep n (hr.drop sz) (by rw [List.length_drop]; omega)⟩
theorem zeros_rep {G : Gh} {w : World} {z : List PV} {zs : List Value} (hr : RepsL G w z zs) : ∀ (n : Nat) (vs : List Value), vs.length = n * zs.length → (∀ q, q < n * zs.length → vs[q]? = zs[q % zs.length]?) → RepsL G w (zeros z n) vs
 | 0, vs, hl, _ => by
  have : vs = [] := List.eq_nil_of_length_eq_zero (by simpa using hl)
  subst this
  simp [zeros, RepsL]
 | n + 1, vs, hl, hv => by
  rw [Nat.add_mul, Nat.one_mul] at hl
  simp only [zeros]
  have e1 : vs.take zs.length = zs := by
   apply List.ext_getElem?
   intro q
   rw [List.getElem?_take]
   split
   ·rename_i hq
    rw [hv q (by rw [Nat.add_mul, Nat.one_mul]; omega), Nat.mod_eq_of_lt hq]
   ·rw [List.getElem?_eq_none]
    omega
  have h2 := zeros_rep hr n (vs.drop zs.length) (by rw [List.length_drop]; omega) (fun q hq => by
   rw [List.getElem?_drop, hv _ (by rw [Nat.add_mul, Nat.one_mul]; omega), Nat.add_mod_left])
  have h3 := hr.append h2
  have e2 : zs ++ vs.drop zs.length = vs := by
   conv => lhs; lhs; rw [← e1]
   exact List.take_append_drop _ _
  rw [e2] at h3
  exact h3
theorem chunks_length {α : Type} (sz : Nat) : ∀ (n : Nat) (l : List α), (chunks sz n l).length = n
 | 0, _ => rfl
 | n + 1, l => by simp [chunks, chunks_length sz n]
theorem buildSlice_ok {t n : Nat} {parts : List (Nat × PV)} (hk : aBuildSlice E h t n parts K) : Step E.P h (fun G w m => ∃ vs : List (Nat × Value), parts.map (·.1) = vs.map (·.1) ∧ RepsL G w (parts.map (·.2)) (vs.map (·.2)) ∧ m = Instr.buildSlice t n vs.toArray) K := by
 unfold aBuildSlice at hk
 cases hl : look E.T t with
 | none => rw [hl] at hk; exact hk.elim
 | some i =>
  rw [hl] at hk
  simp only at hk
  have hf := Env.fact hl
  split at hk
  ·rename_i e hik
   have ht : E.P.underlying t = some (.slice e) := by have := hf.2.1; rw [hik] at this; exact this
   cases hle : look E.T e with
   | none => rw [hle] at hk; exact hk.elim
   | some j =>
    rw [hle] at hk
    simp only at hk
    have hj := Env.fact hle
    cases hc : pcells (ofV j.zero) with
    | none => rw [hc] at hk; exact hk.elim
    | some z =>
     rw [hc] at hk
     simp only at hk
     cases hfp : fillP (fun q => some (q * j.size, j.size)) (zeros z n) parts with
     | none => rw [hfp] at hk; exact hk.elim
     | some cs =>
      rw [hfp] at hk
      simp only at hk
      obtain ⟨cvs, f, ⟨k1, k2, els', rfl, hk⟩, f1, f2, f3⟩ := toCs_ok hk
      rw [chunks_length] at hk
      have hfl : ∀ x ∈ f, x < len h := fun x hx => by
       have a := f1 x hx
       cases hb : nthB h x with
       | none => rw [hb] at a; exact a.elim
       | some B => exact nthB_lt hb
      refine ⟨_, _, _, _, hk, fun x hx => ?_, by rw [len_append, len_frz]; omega, fun G w m hi hm hr => ?_⟩
      ·simp only [List.mem_cons, not_or] at hx
       rw [nthB_push _ _ _ (by rw [len_frz]; exact hx.1), nthB_frz, if_neg hx.2]
      obtain ⟨vs, v1, v2, rfl⟩ := hm
      obtain ⟨q1, q2⟩ := pcells_ok hc (ofV_ok G w j.zero)
      obtain ⟨inf, i1, i2, i3, i4⟩ := hj.info
      have hz := q1.length
      rw [Array.length_toList] at hz
      have hzs : j.zero.cells.size = j.size := hj.2.2
      have hzero : RepsL G w (zeros z n) (madeCells j.zero.cells (n * j.size)).toList := by
       refine zeros_rep q1 n _ ?_ fun q hq => ?_
       ·rw [Array.length_toList, size_madeCells, Array.length_toList, hzs]
       ·rw [Array.length_toList, hzs] at hq
        have hq2 : q % j.zero.cells.size < j.zero.cells.size := Nat.mod_lt _ (by omega)
        rw [Array.getElem?_toList, Array.getElem?_toList, Array.length_toList]
        simp [madeCells, hq, hq2]
      have hone : ∀ u ∈ (madeCells j.zero.cells (n * j.size)).toList, u.oneCell' = true := fun u hu => by
       simp only [madeCells, Array.toList_map, List.mem_map] at hu
       obtain ⟨q, hq, rfl⟩ := hu
       have hq2 : q % j.zero.cells.size < j.zero.cells.size := Nat.mod_lt _ (by omega)
       have e1 : j.zero.cells[q % j.zero.cells.size]! = j.zero.cells[q % j.zero.cells.size] := by simp [hq2]
       rw [e1]
       exact q2 _ (by simp)
      obtain ⟨cells', r1, r2, r3, r4⟩ := fill_ok hfp hzero hone v1 v2
      have hrun : (Instr.buildSlice t n vs.toArray).run E.P w = .ok (.slice (some ⟨w.heap.size, 0, none⟩) n n) (w.alloc (.cells cells' e)) := by
       have hs : ¬ 2 ^ 24 < n * inf.size := by rw [i2]; omega
       by_cases hn : n = 0
       ·subst hn
        simp only [Nat.zero_mul] at r1
        have hm0 : madeCells j.zero.cells 0 = #[] := by simp [madeCells]
        rw [hm0] at r1
        have hm1 : Array.map (fun _ : Nat => (default : Value)) (Array.range 0) = #[] := by simp
        simp [Instr.buildSlice, run_underlying ht, sizeOf, typeInfo, i1, i2, hm1, r1, newRow]
       ·have hnz : ¬ (n * j.size = 0) := by
         intro e0
         rcases Nat.mul_eq_zero.1 e0 with e0 | e0 <;> omega
        have r1' : Instr.fill (fun q => some (q * j.size, j.size)) (Array.map (fun x => j.zero.cells[x % j.zero.cells.size]!) (Array.range (n * j.size))) vs = some cells' := r1
        simp [Instr.buildSlice, run_underlying ht, sizeOf, typeInfo, zeroValue, i1, i2, i4, hnz, r1', newRow, k1]
      have X0 := ext_frz hi f
      have hi0 := hi.ext X0
      have hrf : ∀ j ∈ f, RelB G w j (nthB h j) := fun j hj => hr j (by simp [hj])
      have h0 : RelB (G.frz f) w (len h) none := RelB.ext X0 hi (fun hx => absurd (hfl _ hx) (by omega)) (none_at h (hr (len h) (by simp)))
      have hcv := f3 G w _ f hi r2 hrf (fun j hj => hj)
      have hcl := r2.length
      rw [Array.length_toList, r3, size_madeCells] at hcl
      have hlc : (chunks j.size n cvs).length = n := chunks_length j.size n cvs
      obtain ⟨x1, x2, x3⟩ := new_arr (els := chunks j.size n cvs) (cap := n) hi0 k2 h0 (ty := e) (chunks_rep n hcv (by rw [f2, ← hcl])) (by rw [r3, size_madeCells]) (by rw [hlc]; exact Nat.le_refl _) (by
       have : n ≤ n * j.size := Nat.le_mul_of_pos_right n k2
       simp only [maxLen]
       omega)
      rw [hlc] at x1 x2
      refine ⟨_, _, _, hrun, (Ext.trans hi X0 x1).mono (fun x hx => by
       simp only [List.mem_append, List.mem_singleton] at hx
       rcases hx with hx | hx <;> simp [hx]), x2, fun y hy => ?_⟩
      by_cases hy' : y = len h
      ·subst hy'
       rw [show len h = len (frz f h) from (len_frz f h).symm, nthB_new, len_frz]
       rw [hlc] at x3
       exact x3
      ·have hyf : y ∈ f := by
        rcases List.mem_cons.1 hy with hy | hy
        ·exact absurd hy hy'
        ·exact hy
       rw [nthB_push _ _ _ (by rw [len_frz]; exact hy')]
       exact RelB.ext x1 hi0 (by simpa using hy') (frz_rel hi hrf f1 y hyf)
  ·exact hk.elim
theorem chunks_flat {sz : Nat} : ∀ (n : Nat) (cvs : List CV), cvs.length = n * sz → (chunks sz n cvs).flatten = cvs ∧ ∀ x ∈ chunks sz n cvs, x.length = sz
 | 0, cvs, h => by
  have : cvs = [] := List.eq_nil_of_length_eq_zero (by simpa using h)
  subst this
  simp [chunks]
 | n + 1, cvs, h => by
  have hm : (n + 1) * sz = n * sz + sz := by rw [Nat.add_mul, Nat.one_mul]
  obtain ⟨a, b⟩ := chunks_flat (sz := sz) n (cvs.drop sz) (by rw [List.length_drop]; omega)
  simp only [chunks, List.flatten_cons, a, List.take_append_drop, true_and]
  intro x hx
  rcases List.mem_cons.1 hx with rfl | hx
  ·rw [List.length_take]; omega
  ·exact b x hx
theorem tr_repl {G : Gh} {w : World} {ty2 : TypeId} {cvs : List CV} {zs : List Value} (h : ∀ d, TrP G w d ty2 cvs zs ∧ blkP cvs zs = []) (hl : zs.length = cvs.length) : ∀ (n : Nat) (vs : List Value), (∀ q, q < n * cvs.length → vs[q]? = zs[q % cvs.length]?) →
  ∀ d, TrP G w d ty2 (List.replicate n cvs).flatten vs ∧ blkP (List.replicate n cvs).flatten vs = []
 | 0, vs, _, d => by simp [TrP, blkP]
 | n + 1, vs, hv, d => by
  have e1 : vs.take cvs.length = zs := by
   apply List.ext_getElem?
   intro q
   rw [List.getElem?_take]
   split
   ·rename_i hq
    rw [hv q (by rw [Nat.add_mul, Nat.one_mul]; omega), Nat.mod_eq_of_lt hq]
   ·rw [List.getElem?_eq_none]
    omega
  obtain ⟨a, b⟩ := tr_repl h hl n (vs.drop cvs.length) (fun q hq => by rw [List.getElem?_drop, hv _ (by rw [Nat.add_mul, Nat.one_mul]; omega), Nat.add_mod_left]) d
  obtain ⟨c1, c2⟩ := h d
  have e2 : vs = zs ++ vs.drop cvs.length := by rw [← e1, List.take_append_drop]
  rw [e2, List.replicate_succ, List.flatten_cons]
  exact ⟨c1.append hl a, by rw [blkP_append hl, c2, b]; rfl⟩
theorem buildTree_ok {t n ty2 : Nat} {parts : List (Nat × PV)} (hk : aBuildTree E h t n parts ty2 K) : Step E.P h (fun G w m => ∃ vs : List (Nat × Value), parts.map (·.1) = vs.map (·.1) ∧ RepsL G w (parts.map (·.2)) (vs.map (·.2)) ∧ m = Instr.buildSlice t n vs.toArray) K := by
 unfold aBuildTree at hk
 cases hl : look E.T t with
 | none => rw [hl] at hk; exact hk.elim
 | some i =>
  rw [hl] at hk
  simp only at hk
  have hf := Env.fact hl
  split at hk
  ·rename_i e hik
   have ht : E.P.underlying t = some (.slice e) := by have := hf.2.1; rw [hik] at this; exact this
   cases hle : look E.T e with
   | none => rw [hle] at hk; exact hk.elim
   | some j =>
    rw [hle] at hk
    simp only at hk
    have hj := Env.fact hle
    cases hc : pcells (ofV j.zero) with
    | none => rw [hc] at hk; exact hk.elim
    | some z =>
     rw [hc] at hk
     simp only at hk
     cases hfp : fillP (fun q => some (q * j.size, j.size)) (zeros z n) parts with
     | none => rw [hfp] at hk; exact hk.elim
     | some cs =>
      rw [hfp] at hk
      simp only at hk
      obtain ⟨cvs, f, ⟨k1, k2, els', rfl, hk⟩, f1, f2, f3⟩ := toTr_ok hk
      rw [chunks_length] at hk
      have main : ∀ (G : Gh) (w : World) (m : Sem Value), Inv G w → (∃ vs : List (Nat × Value), parts.map (·.1) = vs.map (·.1) ∧ RepsL G w (parts.map (·.2)) (vs.map (·.2)) ∧ m = Instr.buildSlice t n vs.toArray) → RelB G w (len h) (nthB h (len h)) → (∀ a, f = some a → RelB G w a (nthB h a)) →
        ∃ w' G', m.run E.P w = .ok (.slice (some ⟨w.heap.size, 0, none⟩) n n) w' ∧ Ext (len h :: f.toList) G w G' w' ∧ Reps G' w' (.own (len h) n) (.slice (some ⟨w.heap.size, 0, none⟩) n n) ∧ RelB G' w' (len h) (some (.tree j.size e ty2 (chunks j.size n cvs))) ∧ ∀ a, f = some a → RelB G' w' a (some .junk) := by
       intro G w m hi hm hr0 hra
       obtain ⟨vs, v1, v2, rfl⟩ := hm
       obtain ⟨q1, q2⟩ := pcells_ok hc (ofV_ok G w j.zero)
       obtain ⟨inf, i1, i2, i3, i4⟩ := hj.info
       have hz := q1.length
       rw [Array.length_toList] at hz
       have hzs : j.zero.cells.size = j.size := hj.2.2
       have hzero : RepsL G w (zeros z n) (madeCells j.zero.cells (n * j.size)).toList := by
        refine zeros_rep q1 n _ ?_ fun q hq => ?_
        ·rw [Array.length_toList, size_madeCells, Array.length_toList, hzs]
        ·rw [Array.length_toList, hzs] at hq
         have hq2 : q % j.zero.cells.size < j.zero.cells.size := Nat.mod_lt _ (by omega)
         rw [Array.getElem?_toList, Array.getElem?_toList, Array.length_toList]
         simp [madeCells, hq, hq2]
       have hone : ∀ u ∈ (madeCells j.zero.cells (n * j.size)).toList, u.oneCell' = true := fun u hu => by
        simp only [madeCells, Array.toList_map, List.mem_map] at hu
        obtain ⟨q, hq, rfl⟩ := hu
        have hq2 : q % j.zero.cells.size < j.zero.cells.size := Nat.mod_lt _ (by omega)
        have e1 : j.zero.cells[q % j.zero.cells.size]! = j.zero.cells[q % j.zero.cells.size] := by simp [hq2]
        rw [e1]
        exact q2 _ (by simp)
       obtain ⟨cells', r1, r2, r3, r4⟩ := fill_ok hfp hzero hone v1 v2
       have hrun : (Instr.buildSlice t n vs.toArray).run E.P w = .ok (.slice (some ⟨w.heap.size, 0, none⟩) n n) (w.alloc (.cells cells' e)) := by
        have hs : ¬ 2 ^ 24 < n * inf.size := by rw [i2]; omega
        by_cases hn : n = 0
        ·subst hn
         simp only [Nat.zero_mul] at r1
         have hm0 : madeCells j.zero.cells 0 = #[] := by simp [madeCells]
         rw [hm0] at r1
         have hm1 : Array.map (fun _ : Nat => (default : Value)) (Array.range 0) = #[] := by simp
         simp [Instr.buildSlice, run_underlying ht, sizeOf, typeInfo, i1, i2, hm1, r1, newRow]
        ·have hnz : ¬ (n * j.size = 0) := by
          intro e0
          rcases Nat.mul_eq_zero.1 e0 with e0 | e0 <;> omega
         have r1' : Instr.fill (fun q => some (q * j.size, j.size)) (Array.map (fun x => j.zero.cells[x % j.zero.cells.size]!) (Array.range (n * j.size))) vs = some cells' := r1
         simp [Instr.buildSlice, run_underlying ht, sizeOf, typeInfo, zeroValue, i1, i2, i4, hnz, r1', newRow, k1]
       have hcl := r2.length
       rw [Array.length_toList, r3, size_madeCells] at hcl
       have hlc : (chunks j.size n cvs).length = n := chunks_length j.size n cvs
       obtain ⟨c1, c2⟩ := chunks_flat n cvs (by rw [f1, ← hcl] : cvs.length = n * j.size)
       have hin := f3 G w _ r2 hra
       rw [← c1] at hin
       obtain ⟨G', x1, x2, x3, x4⟩ := new_tree (cap := n) hi k2 (none_at h hr0) (ty := e) hin (fun a ha => ⟨hra a ha, fun e0 => by
        obtain ⟨els0, h0⟩ := f2 a ha
        rw [e0, nthB_ge h _ (Nat.le_refl _)] at h0
        cases h0⟩) c2 (by rw [r3, size_madeCells]) (by rw [hlc]; exact Nat.le_refl _) (by
        have : n ≤ n * j.size := Nat.le_mul_of_pos_right n k2
        simp only [maxLen]
        omega)
       rw [hlc] at x2
       exact ⟨_, G', hrun, x1, x2, x3, x4⟩
      cases f with
      | none =>
       refine ⟨_, _, _, _, hk, keeps_push h _, len_push h _, fun G w m hi hm hr => ?_⟩
       obtain ⟨w', G', b1, b2, b3, b4, b5⟩ := main G w m hi hm (hr _ (by simp)) (fun a e0 => by cases e0)
       refine ⟨_, w', G', b1, b2, b3, fun y hy => ?_⟩
       simp only [List.mem_singleton] at hy
       subst hy
       rw [nthB_new]
       exact b4
      | some a =>
       obtain ⟨els0, h0⟩ := f2 a rfl
       have hlt := nthB_lt h0
       have hlen : len (putB h a .junk) = len h := len_putB h a _
       refine ⟨_, _, _, _, hk, fun y hy => ?_, by rw [len_append, hlen]; omega, fun G w m hi hm hr => ?_⟩
       ·simp only [List.mem_cons, List.not_mem_nil, or_false, not_or] at hy
        rw [nthB_push _ _ _ (by rw [hlen]; exact hy.1), nthB_putB_ne h a y _ hy.2]
       obtain ⟨w', G', b1, b2, b3, b4, b5⟩ := main G w m hi hm (hr _ (by simp)) (fun a' e0 => by injection e0 with e0; subst e0; exact hr _ (by simp))
       refine ⟨_, w', G', b1, b2, b3, fun y hy => ?_⟩
       simp only [List.mem_cons, List.not_mem_nil, or_false] at hy
       rcases hy with rfl | rfl
       ·have := nthB_new (.tree j.size e ty2 (chunks j.size n cvs)) [] (putB h a .junk)
        rw [hlen] at this
        rw [this]
        exact b4
       ·rw [nthB_push _ _ _ (by rw [hlen]; omega), nthB_putB_same _ h0]
        exact b5 y rfl
  ·exact hk.elim
theorem makeTree_ok {t ty2 : Nat} {p q : PV} (hk : aMakeTree E h t p q ty2 K) : Step E.P h (fun G w m => ∃ v x, Reps G w p v ∧ Reps G w q x ∧ m = Instr.makeSlice t v x) K := by
 unfold aMakeTree at hk
 split at hk
 ·rename_i i k1 n k2 c hl
  have hf := Env.fact hl
  split at hk
  ·rename_i e hik
   have ht : E.P.underlying t = some (.slice e) := by have := hf.2.1; rw [hik] at this; exact this
   cases hle : look E.T e with
   | none => rw [hle] at hk; exact hk.elim
   | some j =>
    rw [hle] at hk
    simp only at hk
    have hj := Env.fact hle
    cases hc : pcells (ofV j.zero) with
    | none => rw [hc] at hk; exact hk.elim
    | some z =>
     rw [hc] at hk
     simp only at hk
     obtain ⟨cvs, f, ⟨rfl, rfl, z1, z2, z3, z4, z5, els', rfl, hk⟩, f2, f1, f3⟩ := toTr_ok hk
     rw [List.length_replicate] at hk
     refine ⟨_, _, _, _, hk, keeps_push h _, len_push h _, fun G w m hi hm hr => ?_⟩
     obtain ⟨v, x, hv, hx, rfl⟩ := hm
     simp only [Reps, RepC] at hv hx
     subst hv hx
     obtain ⟨N, rfl⟩ := Int.eq_ofNat_of_zero_le z1
     obtain ⟨inf, i1, i2, i3, i4⟩ := hj.info
     obtain ⟨q1, q2⟩ := pcells_ok hc (ofV_ok G w j.zero)
     have hz := q1.length
     rw [Array.length_toList] at hz
     have h0 := none_at h (hr (len h) (by simp))
     have hcv : ∀ d, TrP G w d ty2 cvs j.zero.cells.toList ∧ blkP cvs j.zero.cells.toList = [] := f3 G w _ q1 (fun a e0 => by cases e0)
     have hrun := run_make (P := E.P) w t e inf j.zero ht i1 i4 k1 k2 (N : Int) (N : Int) z1 (Int.le_refl _) (by rw [i3]; exact z2) z3
     rw [Int.toNat_natCast, i2] at hrun
     have hcs : (madeCells j.zero.cells (N * j.size)).size = N * j.size := size_madeCells _ _
     have hrep := tr_repl hcv (by rw [Array.length_toList, hz, f2]) N (madeCells j.zero.cells (N * j.size)).toList (fun q hq => by
      rw [f2, ← z5] at hq
      have h3 : 0 < j.zero.cells.size := by omega
      have hq2 : q % j.zero.cells.size < j.zero.cells.size := Nat.mod_lt _ h3
      rw [f2, ← hz, Array.getElem?_toList, Array.getElem?_toList]
      simp [madeCells, hq, hq2])
     obtain ⟨G', x1, x2, x3, x4⟩ := new_tree (h := h) (f := none) (cap := N) hi z4 h0 (ty := e) (ty2 := ty2) (els := List.replicate N cvs) (sz := j.size) hrep (fun a e0 => by cases e0) (fun y hy => by rw [(List.mem_replicate.1 hy).2, f2, z5]) hcs (by rw [List.length_replicate]; exact Nat.le_refl _) (by simp only [maxLen]; omega)
     rw [List.length_replicate] at x2
     refine ⟨_, _, _, hrun, x1, x2, fun y hy => ?_⟩
     simp only [List.mem_singleton] at hy
     subst hy
     rw [nthB_new, Int.toNat_natCast]
     exact x3
  ·exact hk.elim
 ·exact hk.elim
end
end Go.Proofs.YthkepmicdpgbbaaGreatDoor.E

namespace Go.Proofs.YthkepmicdpgbbaaGreatDoor.E
open Go Go.RowKit Go.Proofs.YthkepmicdpgbbaaGreatDoorW.PrintWords
set_option linter.unusedVariables false
set_option linter.unusedSimpArgs false
section
variable {E : Env} {h : List Blk} {K : Kont}
theorem own_val {G : Gh} {w : World} {id n : Nat} {v : Value} (r : Reps G w (.own id n) v) (hr : ∃ sz f, G.inf id = some (sz, n, f)) : ∃ A c, v = .slice A n c := by
 obtain ⟨sz, fz, r1⟩ := hr
 simp only [Reps] at r
 obtain ⟨sz', m, f, p1, _, _, p2⟩ := r
 rw [r1] at p1
 injection p1 with p1
 injection p1 with p1 p3
 injection p3 with p3 p4
 rcases p2 with p2 | ⟨_, p2⟩
 ·omega
 ·rcases p2 with ⟨rfl, p2⟩ | ⟨b, c, cs, ty', rfl, _⟩
  ·exact ⟨none, 0, by rw [p2]⟩
  ·exact ⟨_, c, rfl⟩
theorem len_ok {t ty : Nat} {p : PV} (hk : aLen E t h p K) : Step E.P h (fun G w m => ∃ v, Reps G w p v ∧ m = Builtin.len_ #[t] ty #[v]) K := by
 unfold aLen at hk
 cases hl : look E.T t with
 | none => rw [hl] at hk; exact hk.elim
 | some i =>
  rw [hl] at hk
  simp only at hk
  have h2 := (Env.fact hl).2.1
  split at hk
  ·rename_i k q e id n hik
   rw [hik] at h2
   split at hk
   ·rename_i sz ty' fz els hb
    obtain ⟨hn, ⟨_, rfl, hk⟩⟩ := hk
    rw [← hn] at hk
    refine Step.reads hk fun G w m hi hm hr => ?_
    obtain ⟨v, hv, rfl⟩ := hm
    have r := hr id (by simp)
    rw [hb] at r
    obtain ⟨A, c, rfl⟩ := own_val hv ⟨sz, fz, by rw [hn]; exact r.1⟩
    exact ⟨.int .i64 (n), by simp [Builtin.len_, run_underlying h2, goInt], by simp [Reps, RepC]⟩
   ·rename_i sz ty' ty2' els hb
    obtain ⟨hn, ⟨_, rfl, hk⟩⟩ := hk
    rw [← hn] at hk
    refine Step.reads hk fun G w m hi hm hr => ?_
    obtain ⟨v, hv, rfl⟩ := hm
    have r := hr id (by simp)
    rw [hb] at r
    obtain ⟨A, c, rfl⟩ := own_val hv ⟨sz, false, by rw [hn]; exact r.1⟩
    exact ⟨.int .i64 (n), by simp [Builtin.len_, run_underlying h2, goInt], by simp [Reps, RepC]⟩
   ·exact hk.elim
  ·rename_i k q e l hik
   rw [hik] at h2
   obtain ⟨_, rfl, hk⟩ := hk
   refine Step.pure hk fun G w m hi hm => ?_
   obtain ⟨v, hv, rfl⟩ := hm
   simp only [Reps, RepC] at hv
   obtain ⟨A, c, rfl, _⟩ := hv
   exact ⟨.int .i64 (l.length), by simp [Builtin.len_, run_underlying h2, goInt], by simp [Reps, RepC]⟩
  ·rename_i k q e hik
   rw [hik] at h2
   refine Step.pure hk fun G w m hi hm => ?_
   obtain ⟨v, hv, rfl⟩ := hm
   simp only [Reps] at hv
   subst hv
   exact ⟨.int .i64 (0), by simp [Builtin.len_, run_underlying h2, goInt], by simp [Reps, RepC]⟩
  ·rename_i k q x hik
   rw [hik] at h2
   refine Step.pure hk fun G w m hi hm => ?_
   obtain ⟨v, hv, rfl⟩ := hm
   simp only [Reps, RepC] at hv
   subst hv
   exact ⟨.int .i64 (x.size), by simp [Builtin.len_, run_underlying h2, goInt], by simp [Reps, RepC]⟩
  ·exact hk.elim
theorem bt_eq (y : ByteArray) (j : Int) (h0 : 0 ≤ j) (h1 : j < (y.size : Int)) : ∃ hh : j.toNat < y.size, bt y j = ((y[j.toNat]'hh).toNat : Int) := by
 have hh : j.toNat < y.size := by omega
 exact ⟨hh, by unfold bt; rw [dif_pos hh]⟩
theorem index_ok {t : Nat} {p x : PV} (hk : aIndex E h t p x K) : Step E.P h (fun G w m => ∃ v u, Reps G w p v ∧ Reps G w x u ∧ m = Instr.index t v u) K := by
 unfold aIndex at hk
 cases hl : look E.T t with
 | none => rw [hl] at hk; exact hk.elim
 | some i =>
  rw [hl] at hk
  simp only at hk
  have h2 := (Env.fact hl).2.1
  split at hk
  ·rename_i k q r y k2 j hik
   rw [hik] at h2
   obtain ⟨k3, k4, hk⟩ := hk
   refine Step.pure hk fun G w m hi hm => ?_
   obtain ⟨v, u, hv, hu, rfl⟩ := hm
   simp only [Reps, RepC] at hv hu
   subst hv hu
   obtain ⟨hh, hb⟩ := bt_eq y j k3 k4
   have hg : y[j.toNat]? = some (y[j.toNat]'hh) := by simp [hh]
   exact ⟨.int .u8 ((y[j.toNat]'hh).toNat : Int), by simp [Instr.index, run_underlying h2, asIntOf, k3, hg], by simp [Reps, RepC, hb]⟩
  ·exact hk.elim
theorem indexAddr_ok {t : Nat} {p x : PV} (hk : aIndexAddr E h t p x K) : Step E.P h (fun G w m => ∃ v u, Reps G w p v ∧ Reps G w x u ∧ m = Instr.indexAt t v u) K := by
 unfold aIndexAddr at hk
 split at hk
 ·rename_i i k j hl
  have h2 := (Env.fact hl).2.1
  split at hk
  ·rename_i e hik
   rw [hik] at h2
   cases hle : look E.T e with
   | none => rw [hle] at hk; exact hk.elim
   | some y =>
    rw [hle] at hk
    simp only at hk
    have hy := Env.fact hle
    split at hk
    ·rename_i id n
     split at hk
     ·rename_i sz ty fz els hb
      obtain ⟨k1, k2, k3, hn, hk⟩ := hk
      refine Step.reads hk fun G w m hi hm hr => ?_
      obtain ⟨v, u, hv, hu, rfl⟩ := hm
      have r := hr id (by simp)
      rw [hb] at r
      simp only [Reps, RepC] at hu
      subst hu
      simp only [Reps] at hv
      obtain ⟨sz', m, f, p1, _, _, p2⟩ := hv
      have p1' := p1
      rw [r.1] at p1'
      injection p1' with p1'
      injection p1' with p3 p4
      injection p4 with p4 p5
      subst p3 p4
      rcases p2 with p2 | ⟨_, p2⟩
      ·omega
      ·rcases p2 with ⟨rfl, p2⟩ | ⟨b, c, cs, ty', rfl, p6, p7, p8, p9, p10⟩
       ·omega
       ·refine ⟨.pointer (some ⟨b, j.toNat * y.size, none⟩), ?_, ?_⟩
        ·have k3' : j < (n : Int) := k3
         simp [Instr.indexAt, run_underlying h2, asIntOf, k2, k3', hy.sizeOf w, Addr.add_mid]
        ·simp only [Reps]
         exact ⟨_, _, _, p1, rfl, .inr ⟨by omega, b, by simp [k1], p6⟩⟩
     ·rename_i sz ty ty2 els hb
      obtain ⟨k1, k2, k3, hn, hk⟩ := hk
      refine Step.reads hk fun G w m hi hm hr => ?_
      obtain ⟨v, u, hv, hu, rfl⟩ := hm
      have r := hr id (by simp)
      rw [hb] at r
      simp only [Reps, RepC] at hu
      subst hu
      simp only [Reps] at hv
      obtain ⟨sz', m, f, p1, _, _, p2⟩ := hv
      have p1' := p1
      rw [r.1] at p1'
      injection p1' with p1'
      injection p1' with p3 p4
      injection p4 with p4 p5
      subst p3 p4
      rcases p2 with p2 | ⟨_, p2⟩
      ·omega
      ·rcases p2 with ⟨rfl, p2⟩ | ⟨b, c, cs, ty', rfl, p6, p7, p8, p9, p10⟩
       ·omega
       ·refine ⟨.pointer (some ⟨b, j.toNat * y.size, none⟩), ?_, ?_⟩
        ·have k3' : j < (n : Int) := k3
         simp [Instr.indexAt, run_underlying h2, asIntOf, k2, k3', hy.sizeOf w, Addr.add_mid]
        ·simp only [Reps]
         exact ⟨_, _, _, p1, rfl, .inr ⟨by omega, b, by simp [k1], p6⟩⟩
     ·exact hk.elim
    ·rename_i l
     obtain ⟨k1, el, k2, k3, hk⟩ := hk
     refine Step.pure hk fun G w m hi hm => ?_
     obtain ⟨v, u, hv, hu, rfl⟩ := hm
     simp only [Reps, RepC] at hv hu
     subst hu
     obtain ⟨A, c, rfl, q1, q2, q3⟩ := hv
     have hlt : j.toNat < l.length := (List.getElem?_eq_some_iff.1 k2).1
     rcases q3 with rfl | ⟨b, o, sz, cs, ty, fr, rfl, q4, q5, q6, q7⟩
     ·simp at k2
     ·obtain ⟨a1, a2⟩ := q7.at _ el k2
      have hj : j < (l.length : Int) := by omega
      have hsz : sz = y.size := a1.symm.trans k3
      subst hsz
      refine ⟨.pointer (some ⟨b, o + j.toNat * y.size, none⟩), ?_, ?_⟩
      ·have hs := hy.sizeOf w
       simp [Instr.indexAt, run_underlying h2, asIntOf, k1, hj, hs, Addr.add_mid]
      ·simp only [Reps]
       rw [List.drop_drop] at a2
       exact ⟨b, _, cs, ty, fr, rfl, q4, q5, a2⟩
    ·exact hk.elim
  ·rename_i n e hik
   rw [hik] at h2
   split at hk
   ·rename_i y id o hle
    have hy := Env.fact hle
    split at hk
    ·rename_i ty cs hb
     obtain ⟨q, rfl, k2, hk⟩ := hk
     refine Step.reads hk fun G w m hi hm hr => ?_
     obtain ⟨v, u, hv, hu, rfl⟩ := hm
     have r := hr id (by simp)
     rw [hb] at r
     obtain ⟨b, vs, rfl, h3, _⟩ := r.box_at hv
     simp only [Reps, RepC] at hu
     subst hu
     refine ⟨.pointer (some ⟨b, o + q * y.size, none⟩), ?_, ?_⟩
     ·have k2' : (q : Int) < (n : Int) := by omega
      simp [Instr.indexAt, run_underlying h2, asIntOf, Instr.sureAddr, k2', hy.sizeOf w, Addr.add_mid]
      omega
     ·simp only [Reps]
      exact ⟨_, _, _, r.1, rfl, .inr ⟨rfl, b, by simp, h3, r.top_box h3⟩⟩
    ·exact hk.elim
   ·exact hk.elim
  ·exact hk.elim
 ·exact hk.elim
theorem run_fieldAt {w : World} {t f b o : Nat} {i : TI} {fs : List (Nat × Nat)} {q : Nat × Nat} (hf : TyFact E.P t i) (hik : i.k = .struct fs) (hq : nthF fs f = some q) (h0 : 0 < q.2) :
  (Instr.fieldAt t (.pointer (some ⟨b, o, none⟩)) f).run E.P w = .ok (.pointer (some ⟨b, o + q.1, none⟩)) w := by
 obtain ⟨fields, u1, u2⟩ := hf.struct hik
 obtain ⟨x, x1, x2, x3⟩ := nthF_map (α := Unit) E.P fs _ f q u2 hq
 rw [List.getElem?_map] at x1
 obtain ⟨fl, y1, rfl⟩ := Option.map_eq_some_iff.1 x1
 simp only at x2 x3
 obtain ⟨inf, z1, z2⟩ := Option.map_eq_some_iff.1 x3
 rw [Array.getElem?_toList] at y1
 have hne : ¬ inf.size = 0 := by omega
 simp [Instr.fieldAt, run_underlying u1, y1, Instr.sureAddr, fieldPlace, sizeOf, typeInfo, z1, hne, Addr.add_mid, x2]
theorem fieldAddr_ok {t f : Nat} {p : PV} (hk : aFieldAddr E h t p f K) : Step E.P h (fun G w m => ∃ v, Reps G w p v ∧ m = Instr.fieldAt t v f) K := by
 unfold aFieldAddr at hk
 cases hl : look E.T t with
 | none => rw [hl] at hk; exact hk.elim
 | some i =>
  rw [hl] at hk
  simp only at hk
  have hf := Env.fact hl
  split at hk
  ·rename_i fs hik
   cases hq : nthF fs f with
   | none => rw [hq] at hk; exact hk.elim
   | some q =>
    rw [hq] at hk
    obtain ⟨h0, hk⟩ := hk
    split at hk
    ·rename_i id o
     split at hk
     ·rename_i ty cs hb
      refine Step.reads hk fun G w m hi hm hr => ?_
      obtain ⟨v, hv, rfl⟩ := hm
      have r := hr id (by simp)
      rw [hb] at r
      obtain ⟨b, vs, rfl, h3, _⟩ := r.box_at hv
      refine ⟨_, run_fieldAt hf hik hq h0, ?_⟩
      simp only [Reps]
      exact ⟨_, _, _, r.1, rfl, .inr ⟨rfl, b, by simp, h3, r.top_box h3⟩⟩
     ·exact hk.elim
    ·rename_i id n e o
     split at hk
     ·rename_i sz ty fz els hb
      obtain ⟨hn, he, hk⟩ := hk
      refine Step.reads hk fun G w m hi hm hr => ?_
      obtain ⟨v, hv, rfl⟩ := hm
      have r := hr id (by simp)
      rw [hb] at r
      obtain ⟨b, vs, rfl, h3, _⟩ := r.arr_at hn he hv
      refine ⟨_, run_fieldAt hf hik hq h0, ?_⟩
      simp only [Reps]
      exact ⟨_, _, _, r.1, rfl, .inr ⟨hn, b, by simp [Nat.add_assoc], h3, r.top_arr h3⟩⟩
     ·rename_i sz ty ty2 els hb
      obtain ⟨hn, he, hk⟩ := hk
      refine Step.reads hk fun G w m hi hm hr => ?_
      obtain ⟨v, hv, rfl⟩ := hm
      have r := hr id (by simp)
      rw [hb] at r
      obtain ⟨b, vs, rfl, h3, _⟩ := r.tree_at hn he hv
      refine ⟨_, run_fieldAt hf hik hq h0, ?_⟩
      simp only [Reps]
      exact ⟨_, _, _, r.1, rfl, .inr ⟨hn, b, by simp [Nat.add_assoc], h3.1, h3.2⟩⟩
     ·exact hk.elim
    ·rename_i cs
     refine Step.pure hk fun G w m hi hm => ?_
     obtain ⟨v, hv, rfl⟩ := hm
     simp only [Reps] at hv
     obtain ⟨b, o, vs, ty, fr, rfl, q4, q5, q6⟩ := hv
     refine ⟨_, run_fieldAt hf hik hq h0, ?_⟩
     simp only [Reps]
     refine ⟨b, _, vs, ty, fr, rfl, q4, q5, ?_⟩
     have := q6.drop q.1
     rw [List.drop_drop] at this
     exact this
    ·exact hk.elim
  ·exact hk.elim
theorem wr_eq (k : IntKind) (n : Int) : wr k n = k.wrap n := by
 cases k <;> simp [wr, IntKind.wrap_i64, IntKind.wrap_u8, wrap64]
theorem p2_eq (y : Int) : p2 y = 2 ^ y.toNat := by simp [p2]
theorem bin_ok {op : BinOp} {xt : Nat} {x y : Operand} {p q : PV} (hk : aBin h op p q K) : Step E.P h (fun G w m => ∃ v u, Reps G w p v ∧ Reps G w q u ∧ m = (do eqGuard op xt x y v u; binOp op xt v u)) K := by
 unfold aBin at hk
 simp only [wrK_eq] at hk
 split at hk
 ·rename_i k a k' b
  have main : ∀ (r : CV), K (.v r) h [] [] → (∀ G w, ∃ u, ((do eqGuard op xt x y (.int k a) (.int k' b); binOp op xt (.int k a) (.int k' b) : Sem Value)).run E.P w = .ok u w ∧ Reps G w (.v r) u) → Step E.P h (fun G w m => ∃ v u, Reps G w (.v (.i k a)) v ∧ Reps G w (.v (.i k' b)) u ∧ m = (do eqGuard op xt x y v u; binOp op xt v u)) K := fun r hk' hr =>
   Step.pure hk' fun G w m hi hm => by
    obtain ⟨v, u, hv, hu, rfl⟩ := hm
    simp only [Reps, RepC] at hv hu
    subst hv hu
    exact hr G w
  cases op <;> simp only at hk
  case add => obtain ⟨rfl, hk⟩ := hk; exact main _ hk fun G w => ⟨_, by simp [eqGuard, binOp, Op.intArith]; rfl, by simp [Reps, RepC, wr_eq]⟩
  case sub => obtain ⟨rfl, hk⟩ := hk; exact main _ hk fun G w => ⟨_, by simp [eqGuard, binOp, Op.intArith]; rfl, by simp [Reps, RepC, wr_eq]⟩
  case mul => obtain ⟨rfl, hk⟩ := hk; exact main _ hk fun G w => ⟨_, by simp [eqGuard, binOp, Op.intArith]; rfl, by simp [Reps, RepC, wr_eq]⟩
  case quo => obtain ⟨rfl, hn, hk⟩ := hk; exact main _ hk fun G w => ⟨_, by simp [eqGuard, binOp, Op.intDiv, hn]; rfl, by simp [Reps, RepC, wr_eq]⟩
  case rem => obtain ⟨rfl, hn, hk⟩ := hk; exact main _ hk fun G w => ⟨_, by simp [eqGuard, binOp, Op.intDiv, hn]; rfl, by simp [Reps, RepC]⟩
  case and => obtain ⟨rfl, hk⟩ := hk; exact main _ hk fun G w => ⟨_, by simp [eqGuard, binOp, intBits_and]; rfl, by simp [Reps, RepC]⟩
  case or => obtain ⟨rfl, hk⟩ := hk; exact main _ hk fun G w => ⟨_, by simp [eqGuard, binOp, intBits_or]; rfl, by simp [Reps, RepC]⟩
  case xor => obtain ⟨rfl, hk⟩ := hk; exact main _ hk fun G w => ⟨_, by simp [eqGuard, binOp, intBits_xor]; rfl, by simp [Reps, RepC]⟩
  case shl => obtain ⟨h0, h1, hk⟩ := hk; exact main _ hk fun G w => ⟨_, by simp [eqGuard, binOp, shift_shl k k' a b h0 h1]; rfl, by simp [Reps, RepC, wr_eq, p2_eq]⟩
  case shr => obtain ⟨h0, h1, hk⟩ := hk; exact main _ hk fun G w => ⟨_, by simp [eqGuard, binOp, shift_shr k k' a b h0 h1]; rfl, by simp [Reps, RepC, p2_eq]⟩
  case eql => obtain ⟨rfl, hk⟩ := hk; exact main _ hk fun G w => ⟨_, by simp [eqGuard, binOp, Op.intCmp]; rfl, by simp [Reps, RepC]⟩
  case neq => obtain ⟨rfl, hk⟩ := hk; exact main _ hk fun G w => ⟨_, by simp [eqGuard, binOp, Op.intCmp]; rfl, by simp [Reps, RepC]⟩
  case lss => obtain ⟨rfl, hk⟩ := hk; exact main _ hk fun G w => ⟨_, by simp [eqGuard, binOp, Op.intCmp]; rfl, by simp [Reps, RepC]⟩
  case leq => obtain ⟨rfl, hk⟩ := hk; exact main _ hk fun G w => ⟨_, by simp [eqGuard, binOp, Op.intCmp]; rfl, by simp [Reps, RepC]⟩
  case gtr => obtain ⟨rfl, hk⟩ := hk; exact main _ hk fun G w => ⟨_, by simp [eqGuard, binOp, Op.intCmp]; rfl, by simp [Reps, RepC]⟩
  case geq => obtain ⟨rfl, hk⟩ := hk; exact main _ hk fun G w => ⟨_, by simp [eqGuard, binOp, Op.intCmp]; rfl, by simp [Reps, RepC]⟩
 ·rename_i a b
  have main : ∀ (r : CV), K (.v r) h [] [] → (∀ G w, ∃ u, ((do eqGuard op xt x y (.string a) (.string b); binOp op xt (.string a) (.string b) : Sem Value)).run E.P w = .ok u w ∧ Reps G w (.v r) u) → Step E.P h (fun G w m => ∃ v u, Reps G w (.v (.s a)) v ∧ Reps G w (.v (.s b)) u ∧ m = (do eqGuard op xt x y v u; binOp op xt v u)) K := fun r hk' hr =>
   Step.pure hk' fun G w m hi hm => by
    obtain ⟨v, u, hv, hu, rfl⟩ := hm
    simp only [Reps, RepC] at hv hu
    subst hv hu
    exact hr G w
  cases op <;> simp only at hk
  case add =>
   obtain ⟨h0, hk⟩ := hk
   refine main _ hk fun G w => ⟨.string (a ++ b), ?_, by simp [Reps, RepC]⟩
   have : ¬ (((a.size + b.size : Nat) : Int) > IntKind.i64.max) := by
    have : IntKind.i64.max = 9223372036854775807 := by decide
    omega
   simp only [eqGuard, binOp, Op.stringOp]
   rw [if_neg this]
   simp
  case eql => exact main _ hk fun G w => ⟨_, by simp [eqGuard, binOp, Op.stringOp]; rfl, by simp [Reps, RepC]⟩
  case neq => exact main _ hk fun G w => ⟨_, by simp [eqGuard, binOp, Op.stringOp]; rfl, by simp [Reps, RepC]⟩
 ·exact hk.elim
theorem binT_ok {op : BinOp} {t : TypeId} {x y : Operand} {p q : PV} (hk : aBinT E h op t p q K) : Step E.P h (fun G w m => ∃ v u, Reps G w p v ∧ Reps G w q u ∧ m = (do eqGuard op t x y v u; binOp op t v u)) K := by
 unfold aBinT at hk
 split at hk
 ·rename_i cs ds
  unfold aEq at hk
  cases hl : lookQ E.Q t with
  | none => rw [hl] at hk; exact hk.elim
  | some f =>
   rw [hl] at hk
   simp only at hk
   cases hb : f cs ds with
   | none => rw [hb] at hk; exact hk.elim
   | some bc =>
    obtain ⟨b, c⟩ := bc
    rw [hb] at hk
    simp only at hk
    have hf := E.qok _ (lookQ_mem hl)
    obtain ⟨hne, hrun⟩ := hf.2 cs ds b c hb
    have main : ∀ (r : CV), K (.v r) h [] [] → (∀ (w : World) (xs ys : Array Value), (Op.equal t (.agg xs) (.agg ys)).run E.P w = .ok b w → ∃ u, ((do eqGuard op t x y (.agg xs) (.agg ys); binOp op t (.agg xs) (.agg ys) : Sem Value)).run E.P w = .ok u w ∧ ∀ G, Reps G w (.v r) u) →
      Step E.P h (fun G w m => ∃ v u, Reps G w (.agg cs) v ∧ Reps G w (.agg ds) u ∧ m = (do eqGuard op t x y v u; binOp op t v u)) K := fun r hk' hr =>
     Step.pure hk' fun G w m hi hm => by
      obtain ⟨v, u, hv, hu, rfl⟩ := hm
      simp only [Reps] at hv hu
      obtain ⟨xs, rfl, hx⟩ := hv
      obtain ⟨ys, rfl, hy⟩ := hu
      obtain ⟨z, z1, z2⟩ := hr w xs ys (hrun G w xs ys hx hy)
      exact ⟨z, z1, z2 G⟩
    have hg : E.P.eqGuardType E.P.depth t = false := hf.1
    cases op <;> simp only at hk
    case eql => exact main _ hk fun w xs ys he => ⟨.bool b, by simp [eqGuard, binOp, run_program, hg, he], fun G => by simp [Reps, RepC]⟩
    case neq => subst hne; exact main _ hk fun w xs ys he => ⟨.bool (!b), by simp [eqGuard, binOp, run_program, hg, he], fun G => by simp [Reps, RepC]⟩
 ·rename_i a b
  cases hl : look E.T t with
  | none => rw [hl] at hk; exact hk.elim
  | some i =>
   rw [hl] at hk
   simp only at hk
   have h2 := (Env.fact hl).2.1
   have main : ∀ (r : CV), i.k = .bool → K (.v r) h [] [] → (∀ (w : World), (Op.equal t (.bool a) (.bool b)).run E.P w = .ok (a == b) w → ∃ u, ((do eqGuard op t x y (.bool a) (.bool b); binOp op t (.bool a) (.bool b) : Sem Value)).run E.P w = .ok u w ∧ ∀ G, Reps G w (.v r) u) →
     Step E.P h (fun G w m => ∃ v u, Reps G w (.v (.b a)) v ∧ Reps G w (.v (.b b)) u ∧ m = (do eqGuard op t x y v u; binOp op t v u)) K := fun r hk0 hk' hr =>
    Step.pure hk' fun G w m hi hm => by
     obtain ⟨v, u, hv, hu, rfl⟩ := hm
     simp only [Reps, RepC] at hv hu
     subst hv hu
     rw [hk0] at h2
     obtain ⟨z, z1, z2⟩ := hr w (by
      have h3 : E.P.underlying t = some .bool := h2
      have key : ∀ d, (Op.equalIn (d + 1) t (.bool a) (.bool b)).run E.P w = .ok (a == b) w := fun d => by simp [Op.equalIn, run_underlying h3]
      exact key 9999)
     exact ⟨z, z1, z2 G⟩
   split at hk
   ·rename_i hik
    exact main _ hik hk fun w he => ⟨.bool (a == b), by simp [eqGuard, binOp, he], fun G => by simp [Reps, RepC]⟩
   ·rename_i hik
    exact main _ hik hk fun w he => ⟨.bool (a != b), by simp [eqGuard, binOp, he, bne], fun G => by simp [Reps, RepC]⟩
   ·exact hk.elim
 ·exact bin_ok hk
theorem un_ok {op : UnOp} {p : PV} (hk : aUn h op p K) : Step E.P h (fun G w m => ∃ v, Reps G w p v ∧ m = Op.unary op v) K := by
 unfold aUn at hk
 simp only [wrK_eq] at hk
 split at hk
 ·refine Step.pure hk fun G w m hi hm => ?_
  obtain ⟨v, hv, rfl⟩ := hm
  simp only [Reps, RepC] at hv
  subst hv
  exact ⟨_, by simp [Op.unary]; rfl, by simp [Reps, RepC]⟩
 ·refine Step.pure hk fun G w m hi hm => ?_
  obtain ⟨v, hv, rfl⟩ := hm
  simp only [Reps, RepC] at hv
  subst hv
  exact ⟨_, by simp [Op.unary, Op.intArith]; rfl, by simp [Reps, RepC, wr_eq, Int.zero_sub]⟩
 ·exact hk.elim
theorem pick_ok {c p q : PV} (hk : aPick h c p q K) : Step E.P h (fun G w m => ∃ v u z, Reps G w c v ∧ Reps G w p u ∧ Reps G w q z ∧ m = (do pure (if ← asBool v then u else z))) K := by
 unfold aPick at hk
 split at hk
 ·rename_i x
  split at hk
  ·rename_i y z
   refine Step.pure hk fun G w m hi hm => ?_
   obtain ⟨v, u, z', hv, hu, hz, rfl⟩ := hm
   simp only [Reps, RepC] at hv hu hz
   subst hv hu hz
   exact ⟨.bool (cond x y z), by cases x <;> simp [asBool], by simp [Reps, RepC]⟩
  ·cases x with
   | true =>
    refine Step.pure (hk.1 rfl) fun G w m hi hm => ?_
    obtain ⟨v, u, z', hv, hu, hz, rfl⟩ := hm
    simp only [Reps, RepC] at hv
    subst hv
    exact ⟨u, by simp [asBool], hu⟩
   | false =>
    refine Step.pure (hk.2 rfl) fun G w m hi hm => ?_
    obtain ⟨v, u, z', hv, hu, hz, rfl⟩ := hm
    simp only [Reps, RepC] at hv
    subst hv
    exact ⟨z', by simp [asBool], hz⟩
 ·exact hk.elim
theorem extract_ok {p : PV} {n : Nat} (hk : aExtract h p n K) : Step E.P h (fun G w m => ∃ v, Reps G w p v ∧ m = Instr.extract v n) K := by
 unfold aExtract at hk
 split at hk
 ·rename_i vs
  obtain ⟨k1, hk⟩ := hk
  refine Step.pure hk fun G w m hi hm => ?_
  obtain ⟨v, hv, rfl⟩ := hm
  simp only [Reps] at hv
  obtain ⟨us, rfl, hr⟩ := hv
  obtain ⟨u, h1, h2⟩ := hr.nth n k1
  exact ⟨u, by simp [Instr.extract, Array.getElem?_toList ▸ h1], h2⟩
 ·exact hk.elim
end
end Go.Proofs.YthkepmicdpgbbaaGreatDoor.E

namespace Go.Proofs.YthkepmicdpgbbaaGreatDoor.E
open Go Go.RowKit Go.Proofs.YthkepmicdpgbbaaGreatDoorW.PrintWords
set_option linter.unusedVariables false
set_option linter.unusedSimpArgs false
section
variable {E : Env} {h : List Blk} {K : Kont}
theorem nilCheck_ok {p : PV} (hk : aNilCheck h p K) : Step E.P h (fun G w m => ∃ v, Reps G w p v ∧ ∀ a, v = .pointer (some a) → m = pure v) K := by
 unfold aNilCheck at hk
 split at hk
 ·rename_i id o
  split at hk
  ·rename_i ty cs hb
   refine Step.reads hk fun G w m hi hm hr => ?_
   obtain ⟨v, hv, hm⟩ := hm
   have r := hr id (by simp)
   rw [hb] at r
   obtain ⟨b, vs, rfl, _⟩ := r.box_at hv
   rw [hm _ rfl]
   exact ⟨_, rfl, hv⟩
  ·exact hk.elim
 ·refine Step.pure hk fun G w m hi hm => ?_
  obtain ⟨v, hv, hm⟩ := hm
  have hv' := hv
  simp only [Reps] at hv'
  obtain ⟨b, o, vs, ty, fr, rfl, _⟩ := hv'
  rw [hm _ rfl]
  exact ⟨_, rfl, hv⟩
 ·exact hk.elim
theorem reads_of {G : Gh} {w : World} {l : List Int} {v : Value} (hs : SliceSrc G w (l.map fun x => [CV.i .u8 x]) v) : ∃ A n c, v = .slice A n c ∧ ReadsInt w .u8 A n l := by
 obtain ⟨A, c, rfl, h1, h2, h3⟩ := hs
 rw [List.length_map] at h1 h2 ⊢
 refine ⟨A, l.length, c, rfl, rfl, by simp only [maxLen] at h2; omega, fun h0 => ?_⟩
 rcases h3 with h3 | ⟨b, o, sz, cs, ty, fr, rfl, h4, h5, h6⟩
 ·rw [List.map_eq_nil_iff] at h3
  subst h3
  simp at h0
 ·refine ⟨_, rfl, fun j hj => ?_⟩
  obtain ⟨a1, a2⟩ := h6.at j [CV.i .u8 (l.getD j 0)] (by simp [hj])
  simp only [List.length_cons, List.length_nil, Nat.zero_add] at a1
  subst a1
  simp only [RepP, RepC] at a2
  obtain ⟨u, us, a3, rfl, _⟩ := a2
  rw [Addr.add_mid, cell_of_row w b (o + j) cs ty fr h4]
  have := congrArg (fun q => q[0]?) a3
  simpa using this
theorem convert_ok {t u : Nat} {p : PV} (hk : aConvert E h t u p K) : Step E.P h (fun G w m => ∃ v, Reps G w p v ∧ m = convert t u v) K := by
 unfold aConvert at hk
 simp only [wrK_eq] at hk
 split at hk
 ·rename_i i j hl hl2
  have h2 := (Env.fact hl).2.1
  have h3 := (Env.fact hl2).2.1
  split at hk
  ·rename_i k1 k k3 n hik hjk
   rw [hik] at h2
   rw [hjk] at h3
   refine Step.pure hk fun G w m hi hm => ?_
   obtain ⟨v, hv, rfl⟩ := hm
   simp only [Reps, RepC] at hv
   subst hv
   exact ⟨.int k (k.wrap n), by simp [convert, run_underlying h2, run_underlying h3, Conv.intToInt], by simp [Reps, RepC, wr_eq]⟩
  ·rename_i p1 p2 e hik hjk
   rw [hik] at h2
   rw [hjk] at h3
   cases hle : look E.T e with
   | none => rw [hle] at hk; exact hk.elim
   | some y =>
    rw [hle] at hk
    simp only at hk
    have hy := (Env.fact hle).2.1
    split at hk
    ·rename_i hyk
     rw [hyk] at hy
     obtain ⟨els, rd, ⟨l, rfl, hk⟩, hs⟩ := rowOf_ok hk
     refine Step.reads hk fun G w m hi hm hr => ?_
     obtain ⟨v, hv, rfl⟩ := hm
     obtain ⟨A, n, c, rfl, hrd⟩ := reads_of (hs G w v hi hv (fun id hid => hr id hid))
     exact ⟨_, string_of_reads h2 hy h3 hrd, by simp [Reps, RepC]⟩
    ·exact hk.elim
  ·rename_i p1 p2 e x hik hjk
   rw [hik] at h2
   rw [hjk] at h3
   cases hle : look E.T e with
   | none => rw [hle] at hk; exact hk.elim
   | some y =>
    rw [hle] at hk
    simp only at hk
    have hy := (Env.fact hle).2.1
    split at hk
    ·rename_i hyk
     rw [hyk] at hy
     obtain ⟨hsz, hk⟩ := hk
     refine ⟨_, _, [], [], hk, fun _ _ => rfl, Nat.le_refl _, fun G w m hi hm _ => ?_⟩
     obtain ⟨v, hv, rfl⟩ := hm
     simp only [Reps, RepC] at hv
     subst hv
     have hm : maxLen = 9223372036854775807 := by decide
     have hbl : (bytesOf x).length = x.size := by
      unfold bytesOf
      rw [List.length_map]
      rfl
     have hb : Below w.heap.size w (Lib.bytesWorld w e x) := ⟨rfl, rfl, rfl, by rw [Lib.bytesWorld_size]; omega, fun k hk => Lib.bytesWorld_at_old w e x k hk⟩
     refine ⟨_, _, G, Lib.run_convert_string_bytes w t u e x h2 h3 hy, ext_grow hi hb, ?_, fun id hid => by cases hid⟩
     simp only [Reps, RepC, List.length_map, hbl]
     refine ⟨_, _, rfl, grownCap_ge w x.size 0 e, by omega, .inr ⟨w.heap.size, 0, 1, _, _, _, rfl, .inr (.inl ⟨hi.base, ?_⟩), Lib.bytesWorld_at_new w e x, Nat.one_pos, RepE.mk fun j el hj => ?_⟩⟩
     ·cases ho : G.own w.heap.size with
      | none => rfl
      | some id => exact absurd (hi.own _ id ho) (Nat.lt_irrefl _)
     ·rw [List.getElem?_map] at hj
      obtain ⟨b, hb', rfl⟩ := Option.map_eq_some_iff.1 hj
      have hlt : j < x.size := by
       have := (List.getElem?_eq_some_iff.1 hb').1
       omega
      refine ⟨rfl, ?_⟩
      have hc := Lib.bytesWorld_cell w e x j hlt
      have hc' : (Lib.bytesCells w e x)[j]? = some (.int .u8 (x.data.toList.getD j 0).toNat) := by
       have h0 := Lib.bytesWorld_at_new w e x
       unfold World.cell? at hc
       simp only [h0] at hc
       simpa using hc
      have hbv : b = ((x.data.toList.getD j 0).toNat : Int) := by
       unfold bytesOf at hb'
       rw [List.getElem?_map] at hb'
       obtain ⟨c, hc1, rfl⟩ := Option.map_eq_some_iff.1 hb'
       rw [List.getD_eq_getElem?_getD, hc1]
       rfl
      have hl : (((Lib.bytesCells w e x).toList.drop 0).drop (j * 1))[0]? = some (.int .u8 b) := by
       rw [List.drop_zero, Nat.mul_one, List.getElem?_drop, Nat.add_zero, Array.getElem?_toList, hc', hbv]
      cases hd : ((Lib.bytesCells w e x).toList.drop 0).drop (j * 1) with
      | nil => rw [hd] at hl; cases hl
      | cons v0 r0 =>
       rw [hd] at hl
       injection hl with hl
       subst hl
       simp only [RepP, RepC]
       exact ⟨_, _, rfl, rfl, trivial⟩
    ·exact hk.elim
  ·exact hk.elim
 ·exact hk.elim
def OptRep (G : Gh) (w : World) : Option PV → Option Value → Prop
 | none, none => True
 | some p, some v => Reps G w p v
 | _, _ => False
theorem run_bounds {P : Program} {G : Gh} {w : World} {b : Bool} {n c : Nat} {lo hi : Option PV} {lo' hi' : Option Value} {l r : Int} (h1 : OptRep G w lo lo') (h2 : OptRep G w hi hi') (h3 : optI lo 0 = some l) (h4 : optI hi n = some r)
  (h0 : 0 ≤ l) (hlr : l ≤ r) (hr : r ≤ (n : Int)) (hc : n ≤ c) : (Instr.sliceBounds b n c lo' hi' none).run P w = .ok (l.toNat, r.toNat, c) w := by
 have hb : ∀ (k : IntKind) (x : Int) (y : Nat) (code : BoundsCode), 0 ≤ x → x ≤ (y : Int) → (Instr.sliceBound (.int k x) y code).run P w = .ok x.toNat w := fun k x y code a1 a2 => by
  simp [Instr.sliceBound, asIntOf, a1, a2]
 have hhi : ∀ code, (match hi', (none : Option Value) with | some v, some _ => Instr.sliceBound v c .slice3B | some v, none => Instr.sliceBound v c code | none, none => pure n | none, some _ => stuck "Slice: max without high" : Sem Nat).run P w = .ok r.toNat w := fun code => by
  cases hi with
  | none =>
   cases hi' with
   | some _ => exact h2.elim
   | none =>
    simp only [optI, Option.some.injEq] at h4
    subst h4
    simp
  | some p =>
   cases hi' with
   | none => exact h2.elim
   | some v =>
    simp only [OptRep] at h2
    cases p with
    | v cv =>
     cases cv with
     | i k x =>
      simp only [optI, Option.some.injEq] at h4
      subst h4
      simp only [Reps, RepC] at h2
      subst h2
      exact hb k x c code (by omega) (by omega)
     | _ => simp [optI] at h4
    | _ => simp [optI] at h4
 have hlo : (match lo' with | some v => Instr.sliceBound v r.toNat .sliceB | none => pure 0 : Sem Nat).run P w = .ok l.toNat w := by
  cases lo with
  | none =>
   cases lo' with
   | some _ => exact h1.elim
   | none =>
    simp only [optI, Option.some.injEq] at h3
    subst h3
    simp
  | some p =>
   cases lo' with
   | none => exact h1.elim
   | some v =>
    simp only [OptRep] at h1
    cases p with
    | v cv =>
     cases cv with
     | i k x =>
      simp only [optI, Option.some.injEq] at h3
      subst h3
      simp only [Reps, RepC] at h1
      subst h1
      exact hb k x r.toNat .sliceB h0 (by omega)
     | _ => simp [optI] at h3
    | _ => simp [optI] at h3
 cases hi' <;> cases lo' <;> simp_all [Instr.sliceBounds]
theorem row_cut {I : Nat → Prop} {w : World} {xs : List (List CV)} {A : Option Addr} {n c sz l r : Nat} {v : Value} (hn : n = xs.length) (hr : RepC I w (.row xs) (.slice A n c)) (hsz : ∀ x ∈ xs, x.length = sz) (hlr : l ≤ r) (hrn : r ≤ n)
  (hv : v = .slice (if c = l then A else A.map (·.add (l * sz))) (r - l) (c - l)) : RepC I w (.row ((xs.take r).drop l)) v := by
 subst hv
 simp only [RepC] at hr ⊢
 obtain ⟨A', c', h1, h2, h3, h4⟩ := hr
 injection h1 with e1 e2 e3
 subst e1 e3
 have hlen : ((xs.take r).drop l).length = r - l := by rw [List.length_drop, List.length_take]; omega
 refine ⟨_, c - l, by rw [hlen], by rw [hlen]; omega, by omega, ?_⟩
 by_cases he : r = l
 ·left
  apply List.eq_nil_of_length_eq_zero
  omega
 ·rcases h4 with h4 | ⟨b, o, sz', cs, ty, fr, h5, h6, h7, h8, h9⟩
  ·subst h4
   simp at hn
   omega
  ·subst h5
   right
   have hne : ¬ c = l := by omega
   have hx : ∃ y, y ∈ xs := List.exists_mem_of_ne_nil xs (fun e => by subst e; simp at hn; omega)
   obtain ⟨y, hy⟩ := hx
   have e1 : sz' = sz := (h9.size y hy).symm.trans (hsz y hy)
   subst e1
   refine ⟨b, o + l * sz', sz', cs, ty, fr, by simp [hne, Addr.add_mid], h6, h7, h8, ?_⟩
   have := (h9.take r).drop l
   rw [List.drop_drop] at this
   exact this
theorem slice_ok {t : Nat} {p : PV} {lo hi : Option PV} (hk : aSlice E h t p lo hi K) : Step E.P h (fun G w m => ∃ v lo' hi', Reps G w p v ∧ OptRep G w lo lo' ∧ OptRep G w hi hi' ∧ m = Instr.sliceAt t v lo' hi' none) K := by
 unfold aSlice at hk
 cases hl : look E.T t with
 | none => rw [hl] at hk; exact hk.elim
 | some i =>
  rw [hl] at hk
  simp only at hk
  have h2 := (Env.fact hl).2.1
  split at hk
  ·rename_i x hik
   rw [hik] at h2
   split at hk
   ·rename_i l r hlo hhi
    obtain ⟨k1, k2, k3, hk⟩ := hk
    refine Step.pure hk fun G w m hi hm => ?_
    obtain ⟨v, lo', hi', hv, q1, q2, rfl⟩ := hm
    simp only [Reps, RepC] at hv
    subst hv
    have hb := run_bounds (P := E.P) (b := false) (c := x.size) q1 q2 hlo hhi k1 k2 k3 (Nat.le_refl _)
    refine ⟨.string (x.extract l.toNat r.toNat), ?_, by simp [Reps, RepC]⟩
    simp [Instr.sliceAt, Instr.slice, run_underlying h2, hb]
   ·exact hk.elim
  ·rename_i e xs hik
   rw [hik] at h2
   split at hk
   ·rename_i j l r hle hlo hhi
    obtain ⟨k0, k1, k2, k3, ys, rfl, hk⟩ := hk
    have hj := Env.fact hle
    refine Step.pure hk fun G w m hi hm => ?_
    obtain ⟨v, lo', hi', hv, q1, q2, rfl⟩ := hm
    simp only [Reps] at hv ⊢
    have hv' := hv
    simp only [RepC] at hv'
    obtain ⟨A, c, rfl, hc, _⟩ := hv'
    have hb := run_bounds (P := E.P) (b := true) (c := c) q1 q2 hlo hhi k1 k2 k3 hc
    refine ⟨.slice (if c = l.toNat then A else A.map (·.add (l.toNat * j.size))) (r.toNat - l.toNat) (c - l.toNat), ?_, row_cut rfl hv k0 (by omega) (by omega) rfl⟩
    simp [Instr.sliceAt, Instr.slice, run_underlying h2, hb, hj.sizeOf w]
   ·exact hk.elim
  ·rename_i e id n hik
   rw [hik] at h2
   split at hk
   ·rename_i j l r sz ty fz els hle hlo hhi hb
    obtain ⟨k4, k5, k1, k2, k3, ys, rfl, hk⟩ := hk
    have hj := Env.fact hle
    have f1 : ∀ x ∈ [id], IsArr (nthB h x) := fun x hx => by
     simp only [List.mem_singleton] at hx
     subst hx
     rw [hb]
     trivial
    refine ⟨_, _, _, _, hk, fun x hx => by rw [nthB_frz, if_neg hx], by rw [len_frz]; exact Nat.le_refl _, fun G w m hi hm hr => ?_⟩
    obtain ⟨v, lo', hi', hv, q1, q2, rfl⟩ := hm
    have hrf : ∀ x ∈ [id], RelB G w x (nthB h x) := fun x hx => hr x (.inr hx)
    have r0 := hr id (by simp)
    rw [hb] at r0
    have X := ext_frz hi [id]
    have hrow : RepC (G.frz [id]).imm w (.row els) v := own_row (fun b o h1 h2 => (imm_old X hi b o h1 h2).1) (fun b hb' => .inr (.inr ⟨id, sz, els.length, hb', by simp [Gh.frz, r0.1]⟩)) r0 k4 hv
    have hv' := hrow
    simp only [RepC] at hv'
    obtain ⟨A, c, rfl, hc, _⟩ := hv'
    subst k4 k5
    have hbd := run_bounds (P := E.P) (b := true) (c := c) q1 q2 hlo hhi k1 k2 k3 hc
    refine ⟨.slice (if c = l.toNat then A else A.map (·.add (l.toNat * j.size))) (r.toNat - l.toNat) (c - l.toNat), w, G.frz [id], ?_, X, ?_, frz_rel hi hrf f1⟩
    ·simp [Instr.sliceAt, Instr.slice, run_underlying h2, hbd, hj.sizeOf w]
    ·simp only [Reps]
     refine row_cut rfl hrow (fun x hx => ?_) (by omega) (by omega) rfl
     rcases r0.2.2.2 with ⟨r5, _⟩ | ⟨b, cs, _, _, _, r8⟩
     ·subst r5
      cases hx
     ·exact r8.size x hx
   ·exact hk.elim
  ·exact hk.elim
end
end Go.Proofs.YthkepmicdpgbbaaGreatDoor.E

namespace Go.Proofs.YthkepmicdpgbbaaGreatDoor.E
open Go Go.RowKit Go.Proofs.YthkepmicdpgbbaaGreatDoorW.PrintWords
set_option linter.unusedVariables false
set_option linter.unusedSimpArgs false
def idx : List Nat → Nat → Option Nat
 | [], _ => none
 | x :: r, i => cond (Nat.beq x i) (some 0) ((idx r i).map (· + 1))
mutual
def renP (m : Nat → Option Nat) : PV → PV
 | .v c => .v c
 | .nil => .nil
 | .own i n => match m i with
  | some j => .own j n
  | none => .un
 | .ptr i o => match m i with
  | some j => .ptr j o
  | none => .un
 | .eptr i n e o => match m i with
  | some j => .eptr j n e o
  | none => .un
 | .rptr cs => .rptr cs
 | .agg cs => .agg (renL m cs)
 | .tup cs => .tup (renL m cs)
 | .un => .un
def renL (m : Nat → Option Nat) : List PV → List PV
 | [] => []
 | p :: r => renP m p :: renL m r
end
def renB (m : Nat → Option Nat) : Blk → Blk
 | .box ty cs => .box ty (renL m cs)
 | B => B
def pickB (m : Nat → Option Nat) (h : List Blk) : List Nat → Option (List Blk)
 | [] => some []
 | i :: r => match nthB h i, pickB m h r with
  | some B, some l => some (renB m B :: l)
  | _, _ => none
def unfz : List Blk → Bool
 | [] => true
 | .arr _ _ true _ :: _ => false
 | _ :: r => unfz r
def nodup : List Nat → Bool
 | [] => true
 | x :: r => !(r.contains x) && nodup r
def noRow1 : PV → Bool
 | .v (.row _) => false
 | .v _ => true
 | _ => false
def noRow2 : PV → Bool
 | .agg cs => cs.all noRow1
 | p => noRow1 p
def hasNoRow : PV → Bool
 | .tup cs => cs.all noRow2
 | p => noRow2 p
def passC (h : List Blk) (rf : List Nat) : PV → (PV → List Nat → Prop) → Prop
 | .v c, K => K (.v c) []
 | .nil, K => K (.v (.row [])) []
 | .own i n, K => match idx rf i with
  | some j => K (.own j n) []
  | none => match nthB h i with
   | some (.arr _ _ _ els) => Side (n = els.length) (K (.v (.row els)) [i])
   | some (.tree _ _ _ els) => Side (n = els.length) (K (.v (.row els)) [i])
   | _ => False
 | .ptr i o, K => match idx rf i with
  | some j => K (.ptr j o) []
  | none => False
 | _, _ => False
def passCs (h : List Blk) (rf : List Nat) : List PV → (List PV → List Nat → Prop) → Prop
 | [], K => K [] []
 | p :: r, K => passC h rf p fun q f => passCs h rf r fun qs fs => K (q :: qs) (f ++ fs)
def passA (h : List Blk) (rf : List Nat) : List PV → (List PV → List Nat → Prop) → Prop
 | [], K => K [] []
 | .agg cs :: r, K => passCs h rf cs fun q f => passA h rf r fun qs fs => K (.agg q :: qs) (f ++ fs)
 | p :: r, K => passC h rf p fun q f => passA h rf r fun qs fs => K (q :: qs) (f ++ fs)
def ownsIn : List PV → List Nat
 | [] => []
 | .own i _ :: r => i :: ownsIn r
 | _ :: r => ownsIn r
def refsOf (h : List Blk) : List PV → List Nat
 | [] => []
 | .ptr i _ :: r => i :: (match nthB h i with
  | some (.box _ cs) => ownsIn cs ++ refsOf h r
  | _ => refsOf h r)
 | _ :: r => refsOf h r
def Spec (P : Program) (f : FuncId) (args : List PV) (bin : List Blk) (r : PV) (bl : List Blk) : Prop :=
 (∀ (as_ : Array Value) (w : World), (callFunc f as_).run P w = .ok (.enter f as_) w) ∧
 ∀ (G : Gh) (w : World) (vals : Array Value), Inv G w → RepsL G w args vals.toList → (∀ id, RelB G w id (nthB bin id)) →
  Calls P f vals w fun e w' => ∃ v G' ids, e = .returned v ∧ Ext ids G w G' w' ∧ Reps G' w' r v ∧ ∀ id, RelB G' w' id (nthB bl id)
inductive CallAt (P : Program) (f : FuncId) (as_ : List PV) (bin : List Blk) (K : PV → List Blk → Prop) : Prop where
 | mk (r : PV) (bl : List Blk) (h : Spec P f as_ bin r bl) (k : K r bl)
def backId (rf : List Nat) (m : Nat) (j : Nat) : Option Nat :=
 match rf[j]? with
 | some i => some i
 | none => some (m + (j - len rf))
def litK (n : Nat) (k : Nat → Option Nat) : Option Nat := cond (Nat.beq n 0) (k 0) (cond (Nat.beq n 1) (k 1) (cond (Nat.beq n 2) (k 2) (cond (Nat.beq n 3) (k 3) (cond (Nat.beq n 4) (k 4) (cond (Nat.beq n 5) (k 5) (cond (Nat.beq n 6) (k 6) (cond (Nat.beq n 7) (k 7) (cond (Nat.beq n 8) (k 8) (cond (Nat.beq n 9) (k 9) (cond (Nat.beq n 10) (k 10) (cond (Nat.beq n 11) (k 11) (cond (Nat.beq n 12) (k 12) (cond (Nat.beq n 13) (k 13) (cond (Nat.beq n 14) (k 14) (cond (Nat.beq n 15) (k 15) (cond (Nat.beq n 16) (k 16) (cond (Nat.beq n 17) (k 17) (cond (Nat.beq n 18) (k 18) (cond (Nat.beq n 19) (k 19) (cond (Nat.beq n 20) (k 20) (cond (Nat.beq n 21) (k 21) (cond (Nat.beq n 22) (k 22) (cond (Nat.beq n 23) (k 23) (cond (Nat.beq n 24) (k 24) (cond (Nat.beq n 25) (k 25) (cond (Nat.beq n 26) (k 26) (cond (Nat.beq n 27) (k 27) (cond (Nat.beq n 28) (k 28) (cond (Nat.beq n 29) (k 29) (cond (Nat.beq n 30) (k 30) (cond (Nat.beq n 31) (k 31) (cond (Nat.beq n 32) (k 32) (cond (Nat.beq n 33) (k 33) (cond (Nat.beq n 34) (k 34) (cond (Nat.beq n 35) (k 35) (cond (Nat.beq n 36) (k 36) (cond (Nat.beq n 37) (k 37) (cond (Nat.beq n 38) (k 38) (cond (Nat.beq n 39) (k 39) (k n))))))))))))))))))))))))))))))))))))))))
theorem litStep {n a : Nat} {k : Nat → Option Nat} {r : Option Nat} (h : r = k n) : cond (Nat.beq n a) (k a) r = k n := by
 cases hb : Nat.beq n a with
 | false => exact h
 | true => rw [Nat.eq_of_beq_eq_true hb]; rfl
theorem litK_eq (n : Nat) (k : Nat → Option Nat) : litK n k = k n := by
 unfold litK
 repeat (refine litStep ?_)
 rfl
def backL (rf : List Nat) (m : Nat) (j : Nat) : Option Nat :=
 match rf[j]? with
 | some i => some i
 | none => litK (m + (j - len rf)) some
theorem backL_eq : backL = backId := by
 funext rf m j
 unfold backL backId
 split
 ·rfl
 ·rw [litK_eq]
def putBs (h : List Blk) (m : Nat → Option Nat) : List Nat → List Blk → List Blk
 | i :: r, B :: l => putBs (putB h i (renB m B)) m r l
 | _, l => h ++ l.map (renB m)
def range' (m : Nat) : Nat → List Nat
 | 0 => []
 | n + 1 => m :: range' (m + 1) n
def arrs (h : List Blk) : List Nat → Bool
 | [] => true
 | i :: r => match nthB h i with
  | some (.arr _ _ _ _) => arrs h r
  | _ => false
def aGoX (E : Env) (h : List Blk) (f : FuncId) (args : List PV) (rf : List Nat) (K : Kont) : Prop :=
 match pickB (idx rf) h rf with
  | none => False
  | some bin => cond (nodup rf && unfz bin) (passA h rf args fun as_ fs => CallAt E.P f as_ bin fun r bl =>
    match cond (hasNoRow r && Nat.beq (len bl) 0) [] fs with
    | fz => cond ((fz.all fun x => !(rf.contains x)) && Nat.ble (len rf) (len bl) && arrs h fz) (K (renP (backL rf (len h)) r) (putBs (frz fz h) (backL rf (len h)) rf bl) fs (rf ++ fz ++ range' (len h) (len bl - len rf))) False) False
mutual
def cleanP : PV → Bool
 | .v (.row _) => false
 | .rptr _ => false
 | .agg cs => cleanL cs
 | .tup cs => cleanL cs
 | _ => true
def cleanL : List PV → Bool
 | [] => true
 | p :: r => cleanP p && cleanL r
end
def cleanB : List Blk → Prop → Prop
 | [], K => K
 | .arr _ _ _ els :: r, K => Side (Flat els) (cleanB r K)
 | .box _ cs :: r, K => cond (cleanL cs) (cleanB r K) False
 | _ :: r, K => cleanB r K
def aGoL (E : Env) (h : List Blk) (f : FuncId) (args : List PV) (rf : List Nat) (K : Kont) : Prop :=
 match pickB (idx rf) h rf with
  | none => False
  | some bin => cond (nodup rf && unfz bin) (passA h rf args fun as_ fs => CallAt E.P f as_ bin fun r bl =>
    cond (cleanP r && Nat.ble (len rf) (len bl)) (cleanB bl (K (renP (backL rf (len h)) r) (putBs h (backL rf (len h)) rf bl) fs (rf ++ range' (len h) (len bl - len rf)))) False) False
inductive HandVC (A B C : Prop) : Prop where
 | a (h : A)
 | b (h : B)
 | c (h : C)
def ownsA : List PV → List Nat
 | [] => []
 | .own i _ :: r => i :: ownsA r
 | .agg cs :: r => ownsIn cs ++ ownsA r
 | _ :: r => ownsA r
def aGo (E : Env) (h : List Blk) (f : FuncId) (args : List PV) (K : Kont) : Prop :=
 HandVC (aGoX E h f args (refsOf h args) K) (aGoX E h f args (refsOf h args ++ ownsA args) K) (aGoL E h f args (refsOf h args) K)
def aCall (E : Env) (h : List Blk) (s : List PV) (c : Call) (K : Kont) : Prop :=
 match c.callee, c.args.toList, c.argTypes.toList with
 | .builtin .append, [x, y], [t, t2] => aAppend E h t t2 (ev s x) (ev s y) K
 | .builtin .len, [x], [t] => aLen E t h (ev s x) K
 | .value (.func f), as_, _ => aGo E h f (as_.map (ev s)) K
 | _, _, _ => False
def aOp (E : Env) (h : List Blk) (s : List PV) (o : Op) (K : Kont) : Prop :=
 match o with
 | .move x => K (ev s x) h [] []
 | .assign x => K (ev s x) h [] []
 | .pick c a b => aPick h (ev s c) (ev s a) (ev s b) K
 | .alloc t => aAlloc E h t K
 | .box t x => aBox h t (ev s x) K
 | .build t parts => aBuild E h t (parts.toList.map fun x => (x.1, ev s x.2)) K
 | .buildSlice t n parts => MkVC (aBuildSlice E h t n (parts.toList.map fun x => (x.1, ev s x.2)) K) fun ty2 => aBuildTree E h t n (parts.toList.map fun x => (x.1, ev s x.2)) ty2 K
 | .load t a => aLoad E h t (ev s a) K
 | .store t a x => aStore E h t (ev s a) (ev s x) K
 | .nilCheck x => aNilCheck h (ev s x) K
 | .binOp op t x y _ => aBinT E h op t (ev s x) (ev s y) K
 | .unOp op _ x => aUn h op (ev s x) K
 | .convert a b x => aConvert E h a b (ev s x) K
 | .makeSlice t l c => MkVC (aMakeSlice E h t (ev s l) (ev s c) K) fun ty2 => aMakeTree E h t (ev s l) (ev s c) ty2 K
 | .slice t x lo hi none => aSlice E h t (ev s x) (lo.map (ev s)) (hi.map (ev s)) K
 | .fieldAddr t x f => aFieldAddr E h t (ev s x) f K
 | .indexAddr t x i => aIndexAddr E h t (ev s x) (ev s i) K
 | .index t x i => aIndex E h t (ev s x) (ev s i) K
 | .extract x n => aExtract h (ev s x) n K
 | .call c => aCall E h s c K
 | _ => False
def putO (s : List PV) (d : Option Tmp) (q : PV) : List PV :=
 match d with
 | some t => put s t q
 | none => s
def nthO : List Oper → Nat → Option Oper
 | [], _ => none
 | o :: _, 0 => some o
 | _ :: r, n + 1 => nthO r n
def dstAt (all : List Oper) (j : Nat) : Option Tmp :=
 match nthO all j with
 | some o => o.dst
 | none => none
def aOps (E : Env) (all : List Oper) : List Oper → List PV → List Blk → (List PV → List Blk → List (List Nat × List Nat) → Prop) → Prop
 | [], s, h, K => K s h []
 | o :: r, s, h, K => match o.guard with
  | none => aOp E h s o.op fun q h' rd wr => aOps E all r (putO s o.dst q) h' fun s2 h2 acc => K s2 h2 ((rd, wr) :: acc)
  | some (j, want) => match dstAt all j with
   | none => False
   | some t => match nth s t with
    | .v (.b x) =>
     Br2 x want (aOp E h (put s t (.v (.b want))) o.op fun q h' rd wr => aOps E all r (putO (put s t (.v (.b want))) o.dst q) h' fun s2 h2 acc => K s2 h2 ((rd, wr) :: acc))
      (aOps E all r (putO (put s t (.v (.b (!want)))) o.dst (.tup [])) h fun s2 h2 acc => K s2 h2 (([], []) :: acc))
    | .tup [] => aOps E all r (putO s o.dst (.tup [])) h fun s2 h2 acc => K s2 h2 (([], []) :: acc)
    | _ => False
def readsT (all : List Oper) (o : Oper) : List Tmp :=
 (o.op.operands.toList.filterMap fun | .tmp t => some t | _ => none) ++ (match o.guard with
  | some (j, _) => (dstAt all j).toList
  | none => [])
def meets (xs ys : List Nat) : Bool := xs.any fun x => ys.any fun y => Nat.beq x y
def clash (all : List Oper) (o o' : Oper) (x y : List Nat × List Nat) : Bool :=
 meets x.2 y.2 || meets x.2 y.1 || meets x.1 y.2 || meets o.dst.toList o'.dst.toList || meets o.dst.toList (readsT all o') || meets (readsT all o) o'.dst.toList
def dep (all : List Oper) : Nat → Nat → Nat → Bool
 | 0, _, _ => false
 | n + 1, i, k => match nthO all k with
  | some o => o.after.toList.any fun e => Region.binds .any e && (Nat.beq e.on i || dep all n i e.on)
  | none => false
def ordFrom (all : List Oper) (n i : Nat) (o : Oper) (x : List Nat × List Nat) : Nat → List Oper → List (List Nat × List Nat) → Bool
 | _, [], _ => true
 | _, _ :: _, [] => false
 | k, o' :: r, y :: ys => (!(clash all o o' x y) || dep all n i k) && ordFrom all n i o x (k + 1) r ys
def ordOk (all : List Oper) (n : Nat) : Nat → List Oper → List (List Nat × List Nat) → Bool
 | _, [], _ => true
 | _, _ :: _, [] => false
 | i, o :: r, x :: xs => ordFrom all n i o x (i + 1) r xs && ordOk all n (i + 1) r xs
def afterOk : Nat → List Oper → Bool
 | _, [] => true
 | i, o :: r => (o.after.toList.all fun e => !(Region.binds .any e) || Nat.blt e.on i) && afterOk (i + 1) r
def gcT (keep : List Nat) (s : List PV) : List PV := renL (idx keep) s
abbrev KontC := Exit → List PV → List Blk → Prop
def Weak0 (s : List PV) (h : List Blk) (nref : Nat) (s' : List PV) (h' : List Blk) : Prop :=
 ∃ keep : List Nat, nodup keep = true ∧ (∀ i, i < nref → keep[i]? = some i) ∧ pickB (idx keep) h keep = some h' ∧ s' = gcT keep s
def mask : List Bool → List PV → List PV
 | true :: m, p :: r => p :: mask m r
 | false :: m, _ :: r => .un :: mask m r
 | _, l => l
def upT : List (Option Nat) → List PV → List PV
 | some i :: u, .nil :: r => .own i 0 :: upT u r
 | _ :: u, p :: r => p :: upT u r
 | _, l => l
def upBs : List (List (Option Nat)) → List Blk → List Blk
 | u :: us, .box ty cs :: r => .box ty (upT u cs) :: upBs us r
 | _ :: us, B :: r => B :: upBs us r
 | _, h => h
def upIn (m n : Nat) : List (Option Nat) → Bool
 | some i :: u => Nat.ble m i && Nat.blt i n && upIn m n u
 | none :: u => upIn m n u
 | [] => true
def upIns (m n : Nat) : List (List (Option Nat)) → Bool
 | u :: us => upIn m n u && upIns m n us
 | [] => true
def posL : List (Nat × Nat) → Bool
 | x :: r => Nat.blt 0 x.1 && posL r
 | [] => true
def nils : List (Nat × Nat) → List Blk
 | x :: r => .arr x.1 x.2 false [] :: nils r
 | [] => []
def Weak (s : List PV) (h : List Blk) (nref : Nat) (s' : List PV) (h' : List Blk) : Prop :=
 ∃ ex us bs, posL ex = true ∧ upIn (len h) (len h + len ex) us = true ∧ upIns (len h) (len h + len ex) bs = true ∧
  ∃ s1, Weak0 (upT us s) (upBs bs h ++ nils ex) nref s1 h' ∧ ∃ ms, s' = mask ms s1
mutual
def refP : PV → List Nat
 | .own i _ => [i]
 | .ptr i _ => [i]
 | .eptr i _ _ _ => [i]
 | .agg cs => refL cs
 | .tup cs => refL cs
 | _ => []
def refL : List PV → List Nat
 | [] => []
 | p :: r => refP p ++ refL r
end
def has : List Nat → Nat → Bool
 | [], _ => false
 | x :: r, i => Nat.beq x i || has r i
def uniq : List Nat → List Nat → List Nat
 | acc, [] => acc
 | acc, i :: r => cond (has acc i) (uniq acc r) (uniq (acc ++ [i]) r)
def inBoxes (h : List Blk) : List Nat → List Nat
 | [] => []
 | i :: r => match nthB h i with
  | some (.box _ cs) => refL cs ++ inBoxes h r
  | _ => inBoxes h r
def upto : Nat → Nat → List Nat
 | _, 0 => []
 | m, n + 1 => m :: upto (m + 1) n
def keepOf (nref : Nat) (h : List Blk) (s : List PV) : List Nat :=
 match uniq (upto 0 nref) (refL s) with
 | k => match uniq k (inBoxes h k) with
  | k => uniq k (inBoxes h k)
def pre : Nat → Nat → List Nat → Bool
 | _, 0, _ => true
 | m, n + 1, i :: r => Nat.beq i m && pre (m + 1) n r
 | _, _, _ => false
theorem pre_ok : ∀ (n m : Nat) (l : List Nat), pre m n l = true → ∀ i, i < n → l[i]? = some (m + i)
 | 0, _, _, _, i, hi => by omega
 | n + 1, m, [], h, _, _ => by simp [pre] at h
 | n + 1, m, x :: r, h, i, hi => by
  simp only [pre, Bool.and_eq_true] at h
  obtain ⟨h1, h2⟩ := h
  have := Nat.eq_of_beq_eq_true h1
  subst this
  cases i with
  | zero => simp
  | succ i =>
   have := pre_ok n (x + 1) r h2 i (by omega)
   simp only [List.getElem?_cons_succ]
   rw [this]
   congr 1
   omega
inductive NextVC (nref : Nat) (I : Nat → List PV → List Blk → Prop) (n : Nat) (s : List PV) (h : List Blk) : Prop where
 | mk (m : Nat) (s2 : List PV) (h2 : List Blk) (lt : m < n) (w : Weak s h nref s2 h2) (i : I m s2 h2)
inductive LoopVC (nref : Nat) (s : List PV) (h : List Blk) (B : List PV → List Blk → (List PV → List Blk → Prop) → Prop) : Prop where
 | mk (I : Nat → List PV → List Blk → Prop) (n : Nat) (s' : List PV) (h' : List Blk) (w : Weak s h nref s' h') (i : I n s' h') (r : ∀ n s h, I n s h → B s h (NextVC nref I n))
structure Rel (s : List PV) (h : List Blk) (G : Gh) (a : Act) (w : World) : Prop where
 defers : a.defers = []
 size : a.tmps.size = s.length
 t : ∀ t, Reps G w (nth s t) (a.tmps.getD t undef)
 b : ∀ id, RelB G w id (nthB h id)
 inv : Inv G w
inductive BlkVC (P : Program) (c : Code) (s0 : List PV) (h0 : List Blk) (A : Prop) (B : List PV → List Blk → Prop) : Prop where
 | go (k : A)
 | hand (p : ∀ (G : Gh) (a : Act) (w : World), Rel s0 h0 G a w → ∀ (Q : Exit → Act → World → Prop), (∀ s' h' G' a' w', B s' h' → Rel s' h' G' a' w' → (∃ ids, Ext ids G w G' w') → Q .normal a' w') → c.wp P Q a w)
inductive SeqVC (nref : Nat) (A : (List PV → List Blk → Prop) → Prop) (B : List PV → List Blk → Prop) : Prop where
 | go (k : A B)
 | cut (J : List PV → List Blk → Prop) (a : A fun s h => ∃ s' h', Weak s h nref s' h' ∧ J s' h') (b : ∀ s h, J s h → B s h)
def setC (s : List PV) (c : Operand) (x : Bool) : List PV :=
 match c with
 | .tmp t => put s t (.v (.b x))
 | _ => s
def aCode (E : Env) (nref : Nat) : Code → List PV → List Blk → KontC → Prop
 | .skip, s, h, K => K .normal s h
 | .region _ ops draw, s, h, K => aOps E ops.toList ops.toList s h fun s' h' acc => cond (!draw || (afterOk 0 ops.toList && ordOk ops.toList (len ops.toList) 0 ops.toList acc)) (K .normal s' h') False
 | .seq a b, s, h, K => SeqVC nref (fun B => aCode E nref a s h fun e s' h' => match e with
  | .normal => B s' h'
  | e => K e s' h') fun s' h' => aCode E nref b s' h' K
 | .cond c x y, s, h, K => match ev s c with
  | .v (.b v) => Br v (aCode E nref x (setC s c true) h K) (aCode E nref y (setC s c false) h K)
  | _ => False
 | .block id c, s, h, K => BlkVC E.P (.block id c) s h (aCode E nref c s h fun e s' h' => match e with
  | .exit j => cond (Nat.beq j id) (K .normal s' h') (K (.exit j) s' h')
  | e => K e s' h') (K .normal)
 | .loop c, s, h, K => LoopVC nref s h fun s h K' => aCode E nref c s h fun e s' h' => match e with
    | .normal => K' s' h'
    | e => K e s' h'
 | .exit id, s, h, K => K (.exit id) s h
 | .ret, s, h, K => K .ret s h
 | _, _, _, _ => False
def aRes (E : Env) (s : List PV) (h : List Blk) : List ResultVar → (List PV → Prop) → Prop
 | [], K => K []
 | .tmp t :: r, K => aRes E s h r fun ps => K (nth s t :: ps)
 | .cell t ty :: r, K => aLoad E h ty (nth s t) fun q h' _ _ => aRes E s h r fun ps => K (q :: ps)
mutual
def upP (m : Nat) : PV → PV × Nat
 | .nil => (.own m 0, m + 1)
 | .agg cs => match upL m cs with
  | (l, n) => (.agg l, n)
 | .tup cs => match upL m cs with
  | (l, n) => (.tup l, n)
 | p => (p, m)
def upL (m : Nat) : List PV → List PV × Nat
 | [] => ([], m)
 | p :: r => match upP m p with
  | (q, n) => match upL n r with
   | (l, k) => (q :: l, k)
end
def retOf : List PV → PV
 | [p] => p
 | ps => .tup ps
inductive Fin0 (nref : Nat) (q : PV) (h : List Blk) (r : PV) (bl : List Blk) : Prop where
 | mk (ex : List (Nat × Nat)) (keep : List Nat) (h0 : ∀ x ∈ ex, 0 < x.1) (h1 : (upP (len h) q).2 = len h + len ex) (h2 : nodup keep = true) (h3 : ∀ i, i < nref → keep[i]? = some i)
  (h4 : pickB (idx keep) (h ++ ex.map fun x => .arr x.1 x.2 false []) keep = some bl) (h5 : renP (idx keep) (upP (len h) q).1 = r)
inductive FinVC (nref : Nat) (q : PV) (h : List Blk) (r : PV) (bl : List Blk) : Prop where
 | up (k : Fin0 nref q h r bl)
 | dn (id n sz : Nat) (ty : Nat) (fz : Bool) (els : List (List CV)) (hq : q = .own id n) (hb : nthB h id = some (.arr sz ty fz els)) (hn : n = els.length) (k : Fin0 nref (.v (.row els)) (frz [id] h) r bl)
def aFin (E : Env) (nref : Nat) (rs : List ResultVar) (r : PV) (bl : List Blk) : KontC := fun e s h =>
 match e with
 | .ret => aRes E s h rs fun ps => FinVC nref (retOf ps) h r bl
 | .normal => aRes E s h rs fun ps => FinVC nref (retOf ps) h r bl
 | _ => False
end Go.Proofs.YthkepmicdpgbbaaGreatDoor.E

namespace Go.Proofs.YthkepmicdpgbbaaGreatDoor.E
open Go Go.RowKit Go.Proofs.YthkepmicdpgbbaaGreatDoorW.PrintWords
set_option linter.unusedVariables false
set_option linter.unusedSimpArgs false
theorem idx_some : ∀ {l : List Nat} {i j : Nat}, idx l i = some j → l[j]? = some i
 | [], i, j, h => by cases h
 | x :: r, i, j, h => by
  unfold idx at h
  cases hb : Nat.beq x i with
  | true =>
   rw [hb] at h
   injection h with h
   subst h
   simp [Nat.eq_of_beq_eq_true hb]
  | false =>
   rw [hb, cond_false] at h
   obtain ⟨k, h1, rfl⟩ := Option.map_eq_some_iff.1 h
   simpa using idx_some h1
theorem idx_mem : ∀ {l : List Nat} {i : Nat}, i ∈ l → ∃ j, idx l i = some j
 | [], i, h => by cases h
 | x :: r, i, h => by
  unfold idx
  cases hb : Nat.beq x i with
  | true => exact ⟨0, rfl⟩
  | false =>
   have hne : i ≠ x := fun e => by
    subst e
    rw [show Nat.beq i i = true from Nat.beq_refl i] at hb
    cases hb
   rcases List.mem_cons.1 h with h | h
   ·exact absurd h hne
   ·obtain ⟨j, hj⟩ := idx_mem h
    exact ⟨j + 1, by simp [hj]⟩
theorem idx_of : ∀ {l : List Nat} {i j : Nat}, nodup l = true → l[j]? = some i → idx l i = some j
 | [], i, j, _, h => by simp at h
 | x :: r, i, 0, hn, h => by
  simp at h
  subst h
  unfold idx
  rw [show Nat.beq x x = true from Nat.beq_refl x]
  rfl
 | x :: r, i, j + 1, hn, h => by
  simp only [nodup, Bool.and_eq_true, Bool.not_eq_true', List.contains_eq_mem, decide_eq_false_iff_not] at hn
  have h' : r[j]? = some i := by simpa using h
  have hne : x ≠ i := fun e => hn.1 (by subst e; exact List.mem_of_getElem? h')
  unfold idx
  cases hb : Nat.beq x i with
  | true => exact absurd (Nat.eq_of_beq_eq_true hb) hne
  | false => simp [idx_of hn.2 h']
theorem idx_lt {l : List Nat} {i j : Nat} (h : idx l i = some j) : j < l.length := (List.getElem?_eq_some_iff.1 (idx_some h)).1
theorem pickB_len {m : Nat → Option Nat} {h : List Blk} : ∀ {l : List Nat} {bin : List Blk}, pickB m h l = some bin → len bin = l.length
 | [], bin, e => by
  simp only [pickB, Option.some.injEq] at e
  subst e
  rfl
 | i :: r, bin, e => by
  unfold pickB at e
  split at e
  ·rename_i B l hb hl
   injection e with e
   subst e
   simp [len, pickB_len hl]
  ·cases e
theorem pickB_at {m : Nat → Option Nat} {h : List Blk} : ∀ {l : List Nat} {bin : List Blk} {j i : Nat}, pickB m h l = some bin → l[j]? = some i → ∃ B, nthB h i = some B ∧ nthB bin j = some (renB m B)
 | [], bin, j, i, e, hj => by simp at hj
 | x :: r, bin, j, i, e, hj => by
  unfold pickB at e
  split at e
  ·rename_i B l hb hl
   injection e with e
   subst e
   cases j with
   | zero =>
    simp at hj
    subst hj
    exact ⟨B, hb, rfl⟩
   | succ j =>
    obtain ⟨C, h1, h2⟩ := pickB_at (j := j) hl (by simpa using hj)
    exact ⟨C, h1, by simpa [nthB] using h2⟩
  ·cases e
theorem unfz_at : ∀ {bin : List Blk} {j sz ty : Nat} {els : List (List CV)}, unfz bin = true → nthB bin j = some (.arr sz ty true els) → False
 | [], _, _, _, _, _, e => by cases e
 | .arr _ _ true _ :: r, j, _, _, _, h, _ => by simp [unfz] at h
 | .arr _ _ false _ :: r, 0, _, _, _, _, e => by simp [nthB] at e
 | .arr _ _ false _ :: r, j + 1, _, _, _, h, e => unfz_at (bin := r) (j := j) (by simpa [unfz] using h) (by simpa [nthB] using e)
 | .box _ _ :: r, 0, _, _, _, _, e => by simp [nthB] at e
 | .tree _ _ _ _ :: r, 0, _, _, _, _, e => by simp [nthB] at e
 | .junk :: r, 0, _, _, _, _, e => by simp [nthB] at e
 | .tree _ _ _ _ :: r, j + 1, _, _, _, h, e => unfz_at (bin := r) (j := j) (by simpa [unfz] using h) (by simpa [nthB] using e)
 | .junk :: r, j + 1, _, _, _, h, e => unfz_at (bin := r) (j := j) (by simpa [unfz] using h) (by simpa [nthB] using e)
 | .box _ _ :: r, j + 1, _, _, _, h, e => unfz_at (bin := r) (j := j) (by simpa [unfz] using h) (by simpa [nthB] using e)
structure Ren (m : Nat → Option Nat) (G G' : Gh) (w : World) : Prop where
 imm : ∀ b o, w.heap[b]? = some o → G.imm b → G'.imm b
 own : ∀ i j b, m i = some j → G.own b = some i → G'.own b = some j
 inf : ∀ i j r, m i = some j → G.inf i = some r → G'.inf j = some r
 top : ∀ i j b, m i = some j → G.own b = some i → (G'.top b ↔ G.top b)
section
variable {m : Nat → Option Nat} {G G' : Gh} {w : World}
theorem Ren.immw (h : Ren m G G' w) : ∀ b o, w.heap[b]? = some o → G.imm b → G'.imm b ∧ w.heap[b]? = some o := fun b o h1 h2 => ⟨h.imm b o h1 h2, h1⟩
theorem Ren.ownV (h : Ren m G G' w) {i j n : Nat} {v : Value} (hm : m i = some j) (r : OwnV G w i n v) : OwnV G' w j n v := by
 obtain ⟨sz, k, f, h1, h2, h3, h4⟩ := r
 refine ⟨sz, k, f, h.inf i j _ hm h1, h2, h3, ?_⟩
 rcases h4 with h4 | ⟨h4, h5 | ⟨b, c, cs, ty, h6, h7, h8⟩⟩
 ·exact .inl h4
 ·exact .inr ⟨h4, .inl h5⟩
 ·exact .inr ⟨h4, .inr ⟨b, c, cs, ty, h6, ⟨h.own i j b hm h7.1, (h.top i j b hm h7.1).2 h7.2⟩, h8⟩⟩
theorem Ren.eptrV (h : Ren m G G' w) {i j n e o : Nat} {v : Value} (hm : m i = some j) (r : EptrV G w i n e o v) : EptrV G' w j n e o v := by
 obtain ⟨sz, k, f, h1, h3, h4⟩ := r
 refine ⟨sz, k, f, h.inf i j _ hm h1, h3, ?_⟩
 rcases h4 with h4 | ⟨h4, b, h6, h7⟩
 ·exact .inl h4
 ·exact .inr ⟨h4, b, h6, h.own i j b hm h7.1, (h.top i j b hm h7.1).2 h7.2⟩
mutual
theorem Reps.ren (h : Ren m G G' w) : ∀ (p : PV) (v : Value), Reps G w p v → Reps G' w (renP m p) v
 | .v c, v, r => by
  simp only [renP, Reps] at r ⊢
  exact RepC.mono h.immw c v r
 | .nil, v, r => by simpa only [renP, Reps] using r
 | .own i n, v, r => by
  simp only [Reps] at r
  simp only [renP]
  cases hm : m i with
  | none => simp only [Reps]
  | some j =>
   simp only [Reps]
   exact h.ownV hm r
 | .ptr i o, v, r => by
  simp only [Reps] at r
  simp only [renP]
  cases hm : m i with
  | none => simp only [Reps]
  | some j =>
   simp only [Reps]
   exact h.eptrV hm r
 | .eptr i n e o, v, r => by
  simp only [Reps] at r
  simp only [renP]
  cases hm : m i with
  | none => simp only [Reps]
  | some j =>
   simp only [Reps]
   exact h.eptrV hm r
 | .rptr cs, v, r => by
  simp only [renP, Reps] at r ⊢
  obtain ⟨b, o, vs, ty, fr, h1, h2, h3, h4⟩ := r
  exact ⟨b, o, vs, ty, fr, h1, h.imm b _ h3 h2, h3, RepP.mono h.immw cs _ h4⟩
 | .agg cs, v, r => by
  simp only [renP, Reps] at r ⊢
  obtain ⟨vs, h1, h2⟩ := r
  exact ⟨vs, h1, RepsL.ren h cs _ h2⟩
 | .tup cs, v, r => by
  simp only [renP, Reps] at r ⊢
  obtain ⟨vs, h1, h2⟩ := r
  exact ⟨vs, h1, RepsL.ren h cs _ h2⟩
 | .un, v, r => by simp only [renP, Reps]
theorem RepsL.ren (h : Ren m G G' w) : ∀ (l : List PV) (vs : List Value), RepsL G w l vs → RepsL G' w (renL m l) vs
 | [], vs, r => by simpa only [renL, RepsL] using r
 | p :: ps, vs, r => by
  simp only [renL, RepsL] at r ⊢
  obtain ⟨v, vs', h1, h2, h3⟩ := r
  exact ⟨v, vs', h1, Reps.ren h p v h2, RepsL.ren h ps vs' h3⟩
end
theorem renL_length (m : Nat → Option Nat) : ∀ l : List PV, (renL m l).length = l.length
 | [] => rfl
 | p :: r => by simp [renL, renL_length m r]
theorem RelB.ren (h : Ren m G G' w) {i j : Nat} (hm : m i = some j) (hinj : ∀ b, G'.own b = some j → G.own b = some i) : ∀ {B : Blk}, RelB G w i (some B) → RelB G' w j (some (renB m B))
 | .arr sz ty fz els, r => by
  obtain ⟨r1, r2, r3, r4⟩ := r
  refine ⟨h.inf i j _ hm r1, r2, fun b b' e e' => r3 b b' (hinj b e) (hinj b' e'), ?_⟩
  rcases r4 with ⟨a, b⟩ | ⟨b, cs, a1, a2, a3, a4⟩
  ·exact .inl ⟨a, fun x e => b x (hinj x e)⟩
  ·exact .inr ⟨b, cs, ⟨h.own i j b hm a1.1, (h.top i j b hm a1.1).2 a1.2⟩, a2, a3, RepE.mono h.immw sz els _ a4⟩
 | .box ty cs, r => by
  obtain ⟨r1, r2, b, vs, a1, a2, a3, a4⟩ := r
  refine ⟨by rw [renL_length]; exact h.inf i j _ hm r1, fun b b' e e' => r2 b b' (hinj b e) (hinj b' e'), b, vs, ⟨h.own i j b hm a1.1, (h.top i j b hm a1.1).2 a1.2⟩, a2, a3, RepsL.ren h cs _ a4⟩
 | .tree sz ty ty2 els, r => by
  obtain ⟨r1, r2, r3, r4⟩ := r
  have up : ∀ b, G'.own b = some j → G'.top b → G.own b = some i ∧ G.top b := fun b e1 e2 => by
   have := hinj b e1
   exact ⟨this, (h.top i j b hm this).1 e2⟩
  refine ⟨h.inf i j _ hm r1, r2, fun b b' e1 e2 e3 e4 => r3 b b' (up b e1 e2).1 (up b e1 e2).2 (up b' e3 e4).1 (up b' e3 e4).2, ?_⟩
  rcases r4 with ⟨a, b⟩ | ⟨b, cs, a1, a2, a3, a0, a4, a5⟩
  ·exact .inl ⟨a, fun x e1 e2 => b x (up x e1 e2).1 (up x e1 e2).2⟩
  ·refine .inr ⟨b, cs, ⟨h.own i j b hm a1.1, (h.top i j b hm a1.1).2 a1.2⟩, a2, a3, a0, TrP.mono (fun l v q => ?_) a4, a5⟩
   rcases q with q | ⟨b', c, cs', h1, h2, h3, h4⟩
   ·exact .inl q
   ·exact .inr ⟨b', c, cs', h1, h.own i j b' hm h2, fun ht => h3 ((h.top i j b' hm h2).1 ht), h4⟩
 | .junk, r => by
  obtain ⟨sz, n, r⟩ := r
  exact ⟨sz, n, h.inf i j _ hm r⟩
end
def Gh.callee (G : Gh) (w : World) (rf fs : List Nat) : Gh where
 base := w.heap.size
 old := fun b => G.imm b ∨ ∃ id ∈ fs, G.own b = some id
 own := fun b => (G.own b).bind (idx rf)
 inf := fun j => (rf[j]?).bind G.inf
 top := G.top
section
variable {G : Gh} {w : World} {rf fs : List Nat}
theorem callee_inv (hi : Inv G w) : Inv (G.callee w rf fs) w where
 base := Nat.le_refl _
 own := fun b j h => by
  simp only [Gh.callee] at h
  obtain ⟨i, h1, _⟩ := Option.bind_eq_some_iff.1 h
  exact hi.own b i h1
 top := hi.top
 gw := by
  obtain ⟨w0, g1, g2, g3⟩ := hi.gw
  exact ⟨w0, g1, g2, fun b hb => by simp only [Gh.callee, g3 b hb, Option.bind_none]⟩
theorem callee_imm (hi : Inv G w) (hf : ∀ id ∈ rf, ∀ sz n, G.inf id ≠ some (sz, n, true)) : ∀ b o, w.heap[b]? = some o → G.imm b → (G.callee w rf fs).imm b := by
 intro b o hb m
 have hlt : b < w.heap.size := (Array.getElem?_eq_some_iff.1 hb).1
 refine .inl ⟨hlt, ?_, .inl m⟩
 simp only [Gh.callee]
 rcases m with ⟨_, h, _⟩ | ⟨_, h⟩ | ⟨id, sz, n, h, h2⟩
 ·rw [h]; rfl
 ·rw [h]; rfl
 ·rw [h, Option.bind_some]
  cases hx : idx rf id with
  | none => rfl
  | some j => exact absurd h2 (hf id (List.mem_of_getElem? (idx_some hx)) sz n)
theorem callee_ren (hi : Inv G w) (hf : ∀ id ∈ rf, ∀ sz n, G.inf id ≠ some (sz, n, true)) : Ren (idx rf) G (G.callee w rf fs) w where
 imm := callee_imm hi hf
 own := fun i j b h1 h2 => by simp only [Gh.callee]; rw [h2]; exact h1
 inf := fun i j r h1 h2 => by simp only [Gh.callee]; rw [idx_some h1]; exact h2
 top := fun _ _ _ _ _ => Iff.rfl
theorem callee_rel (hi : Inv G w) (hf : ∀ id ∈ rf, ∀ sz n, G.inf id ≠ some (sz, n, true)) (hn : nodup rf = true) {h bin : List Blk} (hp : pickB (idx rf) h rf = some bin) (hr : ∀ id ∈ rf, RelB G w id (nthB h id)) :
  ∀ j, RelB (G.callee w rf fs) w j (nthB bin j) := by
 intro j
 cases hj : rf[j]? with
 | none =>
  have hlen := pickB_len hp
  have hge : rf.length ≤ j := List.getElem?_eq_none_iff.1 hj
  rw [nthB_ge bin j (by omega)]
  refine ⟨by simp only [Gh.callee]; rw [hj]; rfl, fun b e => ?_⟩
  simp only [Gh.callee] at e
  obtain ⟨i, _, h2⟩ := Option.bind_eq_some_iff.1 e
  have := idx_some h2
  rw [hj] at this
  cases this
 | some i =>
  obtain ⟨B, h1, h2⟩ := pickB_at hp hj
  rw [h2]
  have r := hr i (List.mem_of_getElem? hj)
  rw [h1] at r
  refine RelB.ren (callee_ren hi hf) (idx_of hn hj) (fun b e => ?_) r
  simp only [Gh.callee] at e
  obtain ⟨i', h3, h4⟩ := Option.bind_eq_some_iff.1 e
  have := idx_some h4
  rw [hj] at this
  injection this with this
  subst this
  exact h3
def IsRow : Option Blk → Prop
 | some (.arr _ _ _ _) => True
 | some (.tree _ _ _ _) => True
 | _ => False
theorem tree_row {G : Gh} {w : World} {id n sz : Nat} {ty ty2 : TypeId} {els : List (List CV)} {v : Value} {I : Nat → Prop} (hb : ∀ b, G.own b = some id → I b)
  (r : RelB G w id (some (.tree sz ty ty2 els))) (hn : n = els.length) (p : Reps G w (.own id n) v) : RepC I w (.row els) v := by
 obtain ⟨r1, r2, r3, r4⟩ := r
 simp only [Reps] at p
 obtain ⟨sz', m, f, p1, _, _, p2⟩ := p
 rw [r1] at p1
 injection p1 with p1
 injection p1 with p1 p3
 injection p3 with p3 p4
 subst p1 p3
 simp only [RepC]
 rcases p2 with p2 | ⟨_, p2⟩
 ·omega
 ·rcases p2 with ⟨rfl, p2⟩ | ⟨b, c, cs, ty', rfl, p5, p6, p7, p8, p9⟩
  ·have : els = [] := List.eq_nil_of_length_eq_zero (by omega)
   subst this
   exact ⟨none, 0, by simp, by simp, by simp [maxLen], .inl rfl⟩
  ·refine ⟨some ⟨b, 0, none⟩, c, by rw [hn], by omega, Nat.le_trans (by omega) p9, ?_⟩
   rcases r4 with ⟨r5, r6⟩ | ⟨b', cs', r5, r6, r7, r0, r8, r9⟩
   ·exact .inl r5
   ·have := r3 b b' p5.1 p5.2 r5.1 r5.2
    subst this
    exact .inr ⟨b, 0, sz, cs', ty, (0, 0), rfl, hb b p5.1, r6, r2, by simpa using TrP.repE hb r0 r8⟩
theorem passC_ok {h : List Blk} {p : PV} {R : PV → List Nat → Prop} (hk : passC h rf p R) : ∃ q f, R q f ∧ (∀ id ∈ f, id ∉ rf ∧ IsRow (nthB h id)) ∧ ∀ (G : Gh) (w : World) (v : Value) (F : List Nat), Inv G w → (∀ id ∈ rf, ∀ sz n, G.inf id ≠ some (sz, n, true)) → Reps G w p v →
  (∀ id ∈ f, RelB G w id (nthB h id)) → (∀ id ∈ f, id ∈ F) → Reps (G.callee w rf F) w q v := by
 unfold passC at hk
 split at hk
 ·rename_i c
  exact ⟨_, _, hk, (fun id hid => by cases hid), fun G w v F hi hf hr _ _ => Reps.ren (callee_ren hi hf) (.v c) v hr⟩
 ·refine ⟨_, _, hk, (fun id hid => by cases hid), fun G w v F hi hf hr _ _ => ?_⟩
  simp only [Reps] at hr
  subst hr
  simp only [Reps, RepC]
  exact ⟨none, 0, by simp, by simp, by simp [maxLen], by simp⟩
 ·rename_i i n
  cases hx : idx rf i with
  | some j =>
   rw [hx] at hk
   refine ⟨_, _, hk, (fun id hid => by cases hid), fun G w v F hi hf hr _ _ => ?_⟩
   have := Reps.ren (callee_ren (fs := F) hi hf) (.own i n) v hr
   simp only [renP, hx] at this
   exact this
  | none =>
   rw [hx] at hk
   simp only at hk
   split at hk
   ·rename_i sz ty fz els hb
    obtain ⟨hn, hk⟩ := hk
    refine ⟨_, _, hk, fun id hid => ?_, fun G w v F hi hf hr hrel hF => ?_⟩
    ·simp only [List.mem_singleton] at hid
     subst hid
     refine ⟨fun hm => ?_, by rw [hb]; trivial⟩
     obtain ⟨j, hj⟩ := idx_mem hm
     rw [hj] at hx
     cases hx
    have r := hrel i (by simp)
    rw [hb] at r
    simp only [Reps]
    refine own_row (callee_imm hi hf) (fun b hb' => ?_) r hn hr
    refine .inl ⟨hi.own b i hb', ?_, .inr ⟨i, hF i (by simp), hb'⟩⟩
    simp only [Gh.callee]
    rw [hb', Option.bind_some, hx]
   ·rename_i sz ty ty2 els hb
    obtain ⟨hn, hk⟩ := hk
    refine ⟨_, _, hk, fun id hid => ?_, fun G w v F hi hf hr hrel hF => ?_⟩
    ·simp only [List.mem_singleton] at hid
     subst hid
     refine ⟨fun hm => ?_, by rw [hb]; trivial⟩
     obtain ⟨j, hj⟩ := idx_mem hm
     rw [hj] at hx
     cases hx
    have r := hrel i (by simp)
    rw [hb] at r
    simp only [Reps]
    refine tree_row (fun b hb' => ?_) r hn hr
    refine .inl ⟨hi.own b i hb', ?_, .inr ⟨i, hF i (by simp), hb'⟩⟩
    simp only [Gh.callee]
    rw [hb', Option.bind_some, hx]
   ·exact hk.elim
 ·rename_i i o
  cases hx : idx rf i with
  | none => rw [hx] at hk; exact hk.elim
  | some j =>
   rw [hx] at hk
   refine ⟨_, _, hk, (fun id hid => by cases hid), fun G w v F hi hf hr _ _ => ?_⟩
   have := Reps.ren (callee_ren (fs := F) hi hf) (.ptr i o) v hr
   simp only [renP, hx] at this
   exact this
 ·exact hk.elim
theorem passCs_ok {h : List Blk} : ∀ {ps : List PV} {R : List PV → List Nat → Prop}, passCs h rf ps R → ∃ qs f, R qs f ∧ (∀ id ∈ f, id ∉ rf ∧ IsRow (nthB h id)) ∧ ∀ (G : Gh) (w : World) (vs : List Value) (F : List Nat), Inv G w → (∀ id ∈ rf, ∀ sz n, G.inf id ≠ some (sz, n, true)) → RepsL G w ps vs →
  (∀ id ∈ f, RelB G w id (nthB h id)) → (∀ id ∈ f, id ∈ F) → RepsL (G.callee w rf F) w qs vs
 | [], R, hk => ⟨[], [], hk, (fun id hid => by cases hid), fun G w vs F _ _ hr _ _ => by simpa only [RepsL] using hr⟩
 | p :: r, R, hk => by
  simp only [passCs] at hk
  obtain ⟨q, f, hk, g1, h1⟩ := passC_ok hk
  obtain ⟨qs, fs, hk, g2, h2⟩ := passCs_ok hk
  refine ⟨_, _, hk, (fun id hid => (List.mem_append.1 hid).elim (g1 id) (g2 id)), fun G w vs F hi hf hr hrel hF => ?_⟩
  simp only [RepsL] at hr ⊢
  obtain ⟨v, vs', rfl, h3, h4⟩ := hr
  exact ⟨v, vs', rfl, h1 G w v F hi hf h3 (fun id hid => hrel id (List.mem_append_left _ hid)) (fun id hid => hF id (List.mem_append_left _ hid)),
   h2 G w vs' F hi hf h4 (fun id hid => hrel id (List.mem_append_right _ hid)) (fun id hid => hF id (List.mem_append_right _ hid))⟩
theorem passA_ok {h : List Blk} : ∀ {ps : List PV} {R : List PV → List Nat → Prop}, passA h rf ps R → ∃ qs f, R qs f ∧ (∀ id ∈ f, id ∉ rf ∧ IsRow (nthB h id)) ∧ ∀ (G : Gh) (w : World) (vs : List Value) (F : List Nat), Inv G w → (∀ id ∈ rf, ∀ sz n, G.inf id ≠ some (sz, n, true)) → RepsL G w ps vs →
  (∀ id ∈ f, RelB G w id (nthB h id)) → (∀ id ∈ f, id ∈ F) → RepsL (G.callee w rf F) w qs vs
 | [], R, hk => ⟨[], [], hk, (fun id hid => by cases hid), fun G w vs F _ _ hr _ _ => by simpa only [RepsL] using hr⟩
 | p :: r, R, hk => by
  have one : passC h rf p (fun q f => passA h rf r fun qs fs => R (q :: qs) (f ++ fs)) → ∃ qs f, R qs f ∧ (∀ id ∈ f, id ∉ rf ∧ IsRow (nthB h id)) ∧ ∀ (G : Gh) (w : World) (vs : List Value) (F : List Nat), Inv G w → (∀ id ∈ rf, ∀ sz n, G.inf id ≠ some (sz, n, true)) → RepsL G w (p :: r) vs →
    (∀ id ∈ f, RelB G w id (nthB h id)) → (∀ id ∈ f, id ∈ F) → RepsL (G.callee w rf F) w qs vs := fun hk => by
   obtain ⟨q, f, hk, g1, h1⟩ := passC_ok hk
   obtain ⟨qs, fs, hk, g2, h2⟩ := passA_ok hk
   refine ⟨_, _, hk, (fun id hid => (List.mem_append.1 hid).elim (g1 id) (g2 id)), fun G w vs F hi hf hr hrel hF => ?_⟩
   simp only [RepsL] at hr ⊢
   obtain ⟨v, vs', rfl, h3, h4⟩ := hr
   exact ⟨v, vs', rfl, h1 G w v F hi hf h3 (fun id hid => hrel id (List.mem_append_left _ hid)) (fun id hid => hF id (List.mem_append_left _ hid)),
    h2 G w vs' F hi hf h4 (fun id hid => hrel id (List.mem_append_right _ hid)) (fun id hid => hF id (List.mem_append_right _ hid))⟩
  cases p with
  | agg cs =>
   simp only [passA] at hk
   obtain ⟨q, f, hk, g1, h1⟩ := passCs_ok hk
   obtain ⟨qs, fs, hk, g2, h2⟩ := passA_ok hk
   refine ⟨_, _, hk, (fun id hid => (List.mem_append.1 hid).elim (g1 id) (g2 id)), fun G w vs F hi hf hr hrel hF => ?_⟩
   simp only [RepsL] at hr ⊢
   obtain ⟨v, vs', rfl, h3, h4⟩ := hr
   simp only [Reps] at h3
   obtain ⟨us, rfl, h5⟩ := h3
   refine ⟨_, vs', rfl, ?_, h2 G w vs' F hi hf h4 (fun id hid => hrel id (List.mem_append_right _ hid)) (fun id hid => hF id (List.mem_append_right _ hid))⟩
   simp only [Reps]
   exact ⟨us, rfl, h1 G w _ F hi hf h5 (fun id hid => hrel id (List.mem_append_left _ hid)) (fun id hid => hF id (List.mem_append_left _ hid))⟩
  | _ =>
   simp only [passA] at hk
   exact one hk
end
end Go.Proofs.YthkepmicdpgbbaaGreatDoor.E
