/- Texts of this seat's claims, put together: EvF, EvFa, EvG, EvH, EvI -/
import Derived.Lib.AppendStr
import Derived.Test.YtkpcieenikmbmaaPkXB1
/- Each operation comes to what is told of it: what makes memory and what writes it. -/
namespace Go.Proofs.Ytkpcieenikmbmaa.E
open Go Go.RowKit Go.Proofs.YtkpcieenikmbmaaW.PrintWords
set_option linter.unusedVariables false
set_option linter.unusedSimpArgs false

section
variable {E : Env} {h : List Blk} {K : Kont}

/-! ### what is made anew -/
theorem imm_old {ids : List Nat} {G G' : Gh} {w w' : World} (x : Ext ids G w G' w') (hi : Inv G w) : ∀ b o, w.heap[b]? = some o → G.imm b → G'.imm b ∧ w'.heap[b]? = some o := fun b o => imm_ext x hi

theorem new_box {G : Gh} {w : World} (hi : Inv G w) {id : Nat} (h0 : RelB G w id none) {cs : List PV} {vs : Array Value} {ty : TypeId} (hr : RepsL G w cs vs.toList) (h1 : ∀ u ∈ vs.toList, u.oneCell' = true) :
    Ext [id] G w (G.put w.heap.size id (cs.length, 1, false)) (w.alloc (.cells vs ty)) ∧ Reps (G.put w.heap.size id (cs.length, 1, false)) (w.alloc (.cells vs ty)) (.ptr id 0) (.pointer (some ⟨w.heap.size, 0, none⟩)) ∧
      RelB (G.put w.heap.size id (cs.length, 1, false)) (w.alloc (.cells vs ty)) id (some (.box ty cs)) := by
  have x := ext_alloc hi id (cs.length, 1, false) h0 (.cells vs ty)
  refine ⟨x, ?_, put_inf _ _ _ _, put_uniq h0 _ _, w.heap.size, vs, ⟨put_own _ _ _ _, hi.top _ (Nat.le_refl _)⟩, heap_alloc_new w _, h1, RepsL.ext x hi _ _ hr⟩
  simp only [Reps]
  exact ⟨_, _, _, put_inf _ _ _ _, rfl, .inr ⟨rfl, w.heap.size, by simp, put_own _ _ _ _, hi.top _ (Nat.le_refl _)⟩⟩

theorem new_arr {G : Gh} {w : World} (hi : Inv G w) {id sz cap : Nat} (hsz : 0 < sz) (h0 : RelB G w id none) {els : List (List CV)} {vs : Array Value} {ty : TypeId} (hr : RepE G.imm w sz els vs.toList) (hv : vs.size = cap * sz) (hl : els.length ≤ cap) (hc : cap ≤ maxLen) :
    Ext [id] G w (G.put w.heap.size id (sz, els.length, false)) (w.alloc (.cells vs ty)) ∧ Reps (G.put w.heap.size id (sz, els.length, false)) (w.alloc (.cells vs ty)) (.own id els.length) (.slice (some ⟨w.heap.size, 0, none⟩) els.length cap) ∧
      RelB (G.put w.heap.size id (sz, els.length, false)) (w.alloc (.cells vs ty)) id (some (.arr sz ty false els)) := by
  have x := ext_alloc hi id (sz, els.length, false) h0 (.cells vs ty)
  refine ⟨x, ?_, put_inf _ _ _ _, hsz, put_uniq h0 _ _, .inr ⟨w.heap.size, vs, ⟨put_own _ _ _ _, hi.top _ (Nat.le_refl _)⟩, heap_alloc_new w _, ?_, RepE.mono (imm_old x hi) sz els _ hr⟩⟩
  · simp only [Reps]
    exact ⟨_, _, _, put_inf _ _ _ _, hsz, rfl, .inr ⟨rfl, .inr ⟨w.heap.size, cap, vs, ty, rfl, ⟨put_own _ _ _ _, hi.top _ (Nat.le_refl _)⟩, heap_alloc_new w _, hv, hl, hc⟩⟩⟩
  · rw [hv]
    exact Nat.mul_le_mul_right _ hl

theorem keeps_push (h : List Blk) (B : Blk) : Keeps h (h ++ [B]) [len h] := fun id hn => nthB_push h B id (by simpa using hn)
theorem len_push (h : List Blk) (B : Blk) : len h ≤ len (h ++ [B]) := by rw [len_append]; omega
theorem none_at (h : List Blk) {G : Gh} {w : World} (hr : RelB G w (len h) (nthB h (len h))) : RelB G w (len h) none := by rw [nthB_ge h _ (Nat.le_refl _)] at hr; exact hr

theorem box_ok {t : Nat} {x : PV} (hk : aBox h t x K) : Step E.P h (fun G w m => ∃ v, Reps G w x v ∧ m = Instr.box t v) K := by
  unfold aBox at hk
  cases hc : pcells x with
  | none => rw [hc] at hk; exact hk.elim
  | some cs =>
    rw [hc] at hk
    refine ⟨_, _, _, _, hk, keeps_push h _, len_push h _, fun G w m hi hm hr => ?_⟩
    obtain ⟨v, hv, rfl⟩ := hm
    obtain ⟨h1, h2⟩ := pcells_ok hc hv
    obtain ⟨x1, x2, x3⟩ := new_box hi (none_at h (hr (len h) (by simp))) (ty := t) h1 h2
    refine ⟨_, _, _, ?_, x1, x2, fun id hid => ?_⟩
    · rfl
    · simp only [List.mem_singleton] at hid
      subst hid
      rw [nthB_new]
      exact x3

theorem ofV1_ok (G : Gh) (w : World) : ∀ v : Value, Reps G w (ofV1 v) v := by
  intro v
  unfold ofV1
  split <;> simp [Reps, RepC]
theorem ofV1_map (G : Gh) (w : World) : ∀ l : List Value, RepsL G w (l.map ofV1) l
  | [] => by simp [RepsL]
  | v :: r => by
    simp only [List.map_cons, RepsL]
    exact ⟨v, r, rfl, ofV1_ok G w v, ofV1_map G w r⟩
theorem ofV_ok (G : Gh) (w : World) (v : Value) : Reps G w (ofV v) v := by
  unfold ofV
  split
  · simp only [Reps]
    exact ⟨_, rfl, ofV1_map G w _⟩
  · exact ofV1_ok G w v

theorem alloc_ok {t : Nat} (hk : aAlloc E h t K) : Step E.P h (fun G w m => m = Instr.alloc t true (.tuple #[])) K := by
  unfold aAlloc at hk
  cases hl : look E.T t with
  | none => rw [hl] at hk; exact hk.elim
  | some i =>
    rw [hl] at hk
    simp only at hk
    cases hc : pcells (ofV i.zero) with
    | none => rw [hc] at hk; exact hk.elim
    | some cs =>
      rw [hc] at hk
      refine ⟨_, _, _, _, hk, keeps_push h _, len_push h _, fun G w m hi hm hr => ?_⟩
      subst hm
      obtain ⟨h1, h2⟩ := pcells_ok hc (ofV_ok G w i.zero)
      obtain ⟨x1, x2, x3⟩ := new_box hi (none_at h (hr (len h) (by simp))) (ty := t) h1 h2
      refine ⟨_, _, _, ?_, x1, x2, fun id hid => ?_⟩
      · unfold Instr.alloc
        rw [Sem.run_bind, (Env.fact hl).zeroOf w]
        rfl
      · simp only [List.mem_singleton] at hid
        subst hid
        rw [nthB_new]
        exact x3

/-! ### rows that will not be written any more -/
theorem Blk.freeze_freeze (B : Blk) : B.freeze.freeze = B.freeze := by cases B <;> rfl
theorem nthB_frz1 (h : List Blk) (a id : Nat) : nthB (frz1 h a) id = if id = a then (nthB h id).map Blk.freeze else nthB h id := by
  unfold frz1
  cases ha : nthB h a with
  | none =>
    by_cases e : id = a
    · subst e
      simp [ha]
    · simp [e]
  | some B =>
    by_cases e : id = a
    · subst e
      simp [ha, nthB_putB_same B.freeze ha]
    · simp [e, nthB_putB_ne h a id _ e]
theorem nthB_frz : ∀ (f : List Nat) (h : List Blk) (id : Nat), nthB (frz f h) id = if id ∈ f then (nthB h id).map Blk.freeze else nthB h id
  | [], h, id => by simp [frz]
  | a :: r, h, id => by
    simp only [frz]
    rw [nthB_frz r _ id, nthB_frz1]
    by_cases e : id = a
    · subst e
      by_cases m : id ∈ r
      · simp only [if_pos m, List.mem_cons, true_or, if_true]
        cases nthB h id <;> simp [Blk.freeze_freeze]
      · simp [m]
    · by_cases m : id ∈ r <;> simp [e, m]
theorem len_frz : ∀ (f : List Nat) (h : List Blk), len (frz f h) = len h
  | [], h => rfl
  | a :: r, h => by
    simp only [frz]
    rw [len_frz r]
    unfold frz1
    cases nthB h a with
    | none => rfl
    | some B => exact len_putB h a _

def IsArr : Option Blk → Prop
  | some (.arr _ _ _ _) => True
  | _ => False
theorem frz_rel {G : Gh} {w : World} (hi : Inv G w) {f : List Nat} (hr : ∀ id ∈ f, RelB G w id (nthB h id)) (ha : ∀ id ∈ f, IsArr (nthB h id)) : ∀ id ∈ f, RelB (G.frz f) w id (nthB (frz f h) id) := by
  intro id hid
  rw [nthB_frz, if_pos hid]
  have r := hr id hid
  have a := ha id hid
  cases hb : nthB h id with
  | none => rw [hb] at a; exact a.elim
  | some B =>
    rw [hb] at a r
    cases B with
    | box _ _ => exact a.elim
    | tree _ _ _ _ => exact a.elim
    | junk => exact a.elim
    | arr sz ty fz els =>
      obtain ⟨r1, r2, r3, r4⟩ := r
      refine ⟨by simp [Gh.frz, hid, r1], r2, r3, ?_⟩
      rcases r4 with r4 | ⟨b, cs, r5, r6, r7, r8⟩
      · exact .inl r4
      · exact .inr ⟨b, cs, r5, r6, r7, RepE.mono (imm_old (ext_frz hi f) hi) sz els _ r8⟩

theorem own_row {G : Gh} {w : World} {id n sz : Nat} {ty : TypeId} {fz : Bool} {els : List (List CV)} {v : Value} {I : Nat → Prop} (hI : ∀ b o, w.heap[b]? = some o → G.imm b → I b) (hb : ∀ b, G.own b = some id → I b)
    (r : RelB G w id (some (.arr sz ty fz els))) (hn : n = els.length) (p : Reps G w (.own id n) v) : RepC I w (.row els) v := by
  obtain ⟨r1, r2, r3, r4⟩ := r
  simp only [Reps] at p
  obtain ⟨sz', m, f, p1, _, _, p2⟩ := p
  rw [r1] at p1
  injection p1 with p1
  injection p1 with p1 p3
  injection p3 with p3 p4
  subst p1 p3
  simp only [RepC]
  rcases p2 with p2 | ⟨_, p2⟩
  · omega
  · rcases p2 with ⟨rfl, p2⟩ | ⟨b, c, cs, ty', rfl, p5, p6, p7, p8, p9⟩
    · have : els = [] := List.eq_nil_of_length_eq_zero (by omega)
      subst this
      exact ⟨none, 0, by simp, by simp, by simp [maxLen], .inl rfl⟩
    · refine ⟨some ⟨b, 0, none⟩, c, by rw [hn], by omega, Nat.le_trans (by omega) p9, ?_⟩
      rcases r4 with ⟨r5, _⟩ | ⟨b', cs', r5, r6, r7, r8⟩
      · exact .inl r5
      · have := r3 b b' p5.1 r5.1
        subst this
        refine .inr ⟨b, 0, sz, cs', ty, (0, 0), rfl, hb b p5.1, r6, r2, ?_⟩
        simpa using RepE.mono (fun x o h1 h2 => ⟨hI x o h1 h2, h1⟩) sz els _ r8

theorem toCs_ok : ∀ {ps : List PV} {R : List CV → List Nat → Prop}, toCs h ps R → ∃ cvs f, R cvs f ∧ (∀ id ∈ f, IsArr (nthB h id)) ∧ cvs.length = ps.length ∧
    ∀ (G : Gh) (w : World) (vs : List Value) (F : List Nat), Inv G w → RepsL G w ps vs → (∀ id ∈ f, RelB G w id (nthB h id)) → (∀ id ∈ f, id ∈ F) → RepP (G.frz F).imm w cvs vs
  | [], R, hk => by
    simp only [toCs] at hk
    exact ⟨[], [], hk, fun id hid => (by cases hid), rfl, fun G w vs F _ hr _ _ => by simp [RepP]⟩
  | .v c :: ps, R, hk => by
    simp only [toCs] at hk
    obtain ⟨cvs, f, h1, h2, h3, h4⟩ := toCs_ok hk
    refine ⟨_, _, h1, h2, by simp [h3], fun G w vs F hi hr hf hF => ?_⟩
    simp only [RepsL, Reps] at hr
    obtain ⟨v, vs', rfl, h5, h6⟩ := hr
    simp only [RepP]
    exact ⟨v, vs', rfl, RepC.mono (imm_old (ext_frz hi F) hi) c v h5, h4 G w vs' F hi h6 hf hF⟩
  | .nil :: ps, R, hk => by
    simp only [toCs] at hk
    obtain ⟨cvs, f, h1, h2, h3, h4⟩ := toCs_ok hk
    refine ⟨_, _, h1, h2, by simp [h3], fun G w vs F hi hr hf hF => ?_⟩
    simp only [RepsL, Reps] at hr
    obtain ⟨v, vs', rfl, rfl, h6⟩ := hr
    simp only [RepP, RepC]
    exact ⟨_, vs', rfl, ⟨none, 0, by simp, by simp, by simp [maxLen], by simp⟩, h4 G w vs' F hi h6 hf hF⟩
  | .own id n :: ps, R, hk => by
    simp only [toCs] at hk
    cases hb : nthB h id with
    | none => rw [hb] at hk; exact hk.elim
    | some B =>
      rw [hb] at hk
      cases B with
      | box _ _ => exact hk.elim
      | tree _ _ _ _ => exact hk.elim
      | junk => exact hk.elim
      | arr sz ty fz els =>
        simp only at hk
        obtain ⟨hn, hk⟩ := hk
        obtain ⟨cvs, f, h1, h2, h3, h4⟩ := toCs_ok hk
        refine ⟨_, _, h1, ?_, by simp [h3], fun G w vs F hi hr hf hF => ?_⟩
        · intro j hj
          rcases List.mem_cons.1 hj with rfl | hj
          · rw [hb]; trivial
          · exact h2 j hj
        · simp only [RepsL] at hr
          obtain ⟨v, vs', rfl, h5, h6⟩ := hr
          simp only [RepP]
          have r := hf id (by simp)
          rw [hb] at r
          refine ⟨v, vs', rfl, own_row (fun b o h1 h2 => (imm_old (ext_frz hi F) hi b o h1 h2).1) (fun b hb' => ?_) r hn h5, h4 G w vs' F hi h6 (fun j hj => hf j (by simp [hj])) (fun j hj => hF j (by simp [hj]))⟩
          refine .inr (.inr ⟨id, sz, els.length, hb', ?_⟩)
          simp only [Gh.frz]
          rw [if_pos (hF id (by simp)), r.1]
          rfl
  | .ptr _ _ :: _, _, hk => by simp only [toCs] at hk
  | .eptr _ _ _ _ :: _, _, hk => by simp only [toCs] at hk
  | .rptr _ :: _, _, hk => by simp only [toCs] at hk
  | .agg _ :: _, _, hk => by simp only [toCs] at hk
  | .tup _ :: _, _, hk => by simp only [toCs] at hk
  | .un :: _, _, hk => by simp only [toCs] at hk
end
end Go.Proofs.Ytkpcieenikmbmaa.E

/- Trees: what goes over to a tree, and what is stored in one. -/
namespace Go.Proofs.Ytkpcieenikmbmaa.E
open Go Go.RowKit Go.Proofs.YtkpcieenikmbmaaW.PrintWords
set_option linter.unusedVariables false
set_option linter.unusedSimpArgs false

section
variable {G G' : Gh} {w w' : World} {id : Nat} {ty2 : TypeId}

/-! ### cells of a tree -/
theorem TrP.append : ∀ {l k : List CV} {vs us : List Value}, TrP G w id ty2 l vs → vs.length = l.length → TrP G w id ty2 k us → TrP G w id ty2 (l ++ k) (vs ++ us)
  | [], k, vs, us, _, hl, h => by
    have : vs = [] := List.eq_nil_of_length_eq_zero (by simpa using hl)
    subst this
    simpa using h
  | p :: ps, k, vs, us, h, hl, hk => by
    simp only [TrP] at h
    obtain ⟨v, vs', rfl, h1, h2⟩ := h
    simp only [List.cons_append, TrP]
    exact ⟨v, vs' ++ us, rfl, h1, TrP.append h2 (by simpa using hl) hk⟩
theorem TrP.len : ∀ {l : List CV} {vs : List Value}, TrP G w id ty2 l vs → l.length ≤ vs.length
  | [], _, _ => by simp
  | p :: ps, vs, h => by
    simp only [TrP] at h
    obtain ⟨v, vs', rfl, _, h2⟩ := h
    simpa using TrP.len h2
theorem TrP.split : ∀ {l k : List CV} {vs : List Value}, TrP G w id ty2 (l ++ k) vs → TrP G w id ty2 l (vs.take l.length) ∧ TrP G w id ty2 k (vs.drop l.length)
  | [], k, vs, h => by simpa [TrP] using h
  | p :: ps, k, vs, h => by
    simp only [List.cons_append, TrP] at h
    obtain ⟨v, vs', rfl, h1, h2⟩ := h
    obtain ⟨a, b⟩ := TrP.split h2
    refine ⟨?_, by simpa using b⟩
    simp only [List.length_cons, List.take_succ_cons, TrP]
    exact ⟨v, _, rfl, h1, a⟩
theorem TrP.keep : ∀ {l : List CV} {vs us : List Value}, TrP G w id ty2 l vs → us.take l.length = vs.take l.length → TrP G w id ty2 l us
  | [], _, _, _, _ => by simp [TrP]
  | p :: ps, vs, us, h, e => by
    simp only [TrP] at h
    obtain ⟨v, vs', rfl, h1, h2⟩ := h
    cases us with
    | nil => simp at e
    | cons u us' =>
      simp only [List.length_cons, List.take_succ_cons, List.cons.injEq] at e
      simp only [TrP]
      exact ⟨u, us', rfl, by rw [e.1]; exact h1, TrP.keep h2 e.2⟩
theorem blkP_append : ∀ {l k : List CV} {vs us : List Value}, vs.length = l.length → blkP (l ++ k) (vs ++ us) = blkP l vs ++ blkP k us
  | [], k, vs, us, hl => by
    have : vs = [] := List.eq_nil_of_length_eq_zero (by simpa using hl)
    subst this
    simp [blkP]
  | p :: ps, k, [], us, hl => by simp at hl
  | p :: ps, k, v :: vs, us, hl => by simp [blkP, blkP_append (l := ps) (vs := vs) (by simpa using hl)]
theorem blkP_keep : ∀ {l : List CV} {vs us : List Value}, us.take l.length = vs.take l.length → blkP l us = blkP l vs
  | [], _, _, _ => by simp [blkP]
  | p :: ps, [], us, e => by
    cases us with
    | nil => rfl
    | cons u us => simp at e
  | p :: ps, v :: vs, us, e => by
    cases us with
    | nil => simp at e
    | cons u us =>
      simp only [List.length_cons, List.take_succ_cons, List.cons.injEq] at e
      simp only [blkP]
      rw [e.1, blkP_keep e.2]
theorem blkC_own : ∀ {c : CV} {v : Value}, TrC G w id ty2 c v → ∀ b ∈ blkC c v, G.own b = some id
  | .b _, v, _, b, hb => by simp [blkC] at hb
  | .i _ _, v, _, b, hb => by simp [blkC] at hb
  | .s _, v, _, b, hb => by simp [blkC] at hb
  | .row l, v, h, b, hb => by
    simp only [TrC] at h
    rcases h with ⟨rfl, rfl⟩ | ⟨b', c, cs, rfl, h2, _⟩
    · simp [blkC] at hb
    · simp only [blkC, List.mem_singleton] at hb
      subst hb
      exact h2
theorem blkP_own : ∀ {l : List CV} {vs : List Value}, TrP G w id ty2 l vs → ∀ b ∈ blkP l vs, G.own b = some id
  | [], vs, _, b, hb => by simp [blkP] at hb
  | p :: ps, vs, h, b, hb => by
    simp only [TrP] at h
    obtain ⟨v, vs', rfl, h1, h2⟩ := h
    simp only [blkP, List.mem_append] at hb
    rcases hb with hb | hb
    · exact blkC_own h1 b hb
    · exact blkP_own h2 b hb
theorem TrP.one : ∀ {l : List CV} {vs : List Value}, TrP G w id ty2 l vs → ∀ u ∈ vs.take l.length, u.oneCell' = true
  | [], vs, _, u, hu => by simp at hu
  | p :: ps, vs, h, u, hu => by
    simp only [TrP] at h
    obtain ⟨v, vs', rfl, h1, h2⟩ := h
    simp only [List.length_cons, List.take_succ_cons, List.mem_cons] at hu
    rcases hu with rfl | hu
    · cases p with
      | row l =>
        simp only [TrC] at h1
        rcases h1 with ⟨rfl, rfl⟩ | ⟨b', c, cs, rfl, _⟩ <;> rfl
      | _ =>
        simp only [TrC] at h1
        subst h1
        rfl
    · exact TrP.one h2 u hu
theorem InnR.rep {I : Nat → Prop} (hI : ∀ b, G.own b = some id → I b) {l : List (List CV)} {v : Value} (r : InnR G w id ty2 l v) : RepC I w (.row l) v := by
  simp only [RepC]
  rcases r with ⟨rfl, rfl⟩ | ⟨b, c, cs, rfl, h2, h3, h4, h5, h6, h7, h8⟩
  · exact ⟨none, 0, by simp, by simp, by simp [maxLen], .inl rfl⟩
  · exact ⟨some ⟨b, 0, none⟩, c, rfl, h6, Nat.le_trans h6 h7, .inr ⟨b, 0, 1, cs, ty2, (0, 0), rfl, hI b h2, h4, Nat.one_pos, by simpa using RepE.mono (fun _ _ _ e => e.elim) 1 l _ h8⟩⟩
theorem TrP.rep {I : Nat → Prop} (hI : ∀ b, G.own b = some id → I b) : ∀ {l : List CV} {vs : List Value}, TrP G w id ty2 l vs → RepP I w l vs
  | [], _, _ => by simp [RepP]
  | p :: ps, vs, h => by
    simp only [TrP] at h
    obtain ⟨v, vs', rfl, h1, h2⟩ := h
    simp only [RepP]
    refine ⟨v, vs', rfl, ?_, TrP.rep hI h2⟩
    cases p with
    | row l => exact InnR.rep hI h1
    | _ => simpa only [TrC, RepC] using h1
theorem TrP.repE {I : Nat → Prop} (hI : ∀ b, G.own b = some id → I b) {sz : Nat} : ∀ {els : List (List CV)} {vs : List Value}, (∀ x ∈ els, x.length = sz) → TrP G w id ty2 els.flatten vs → RepE I w sz els vs
  | [], _, _, _ => by simp [RepE]
  | e :: es, vs, hs, h => by
    rw [List.flatten_cons] at h
    obtain ⟨h1, h2⟩ := h.split
    have he := hs e (by simp)
    simp only [RepE]
    refine ⟨he, (TrP.rep hI h1).of_take _, ?_⟩
    rw [he] at h2
    exact TrP.repE hI (fun x hx => hs x (by simp [hx])) h2
theorem flatten_len {sz : Nat} : ∀ {els : List (List CV)}, (∀ x ∈ els, x.length = sz) → els.flatten.length = els.length * sz
  | [], _ => by simp
  | e :: es, hs => by
    rw [List.flatten_cons, List.length_append, flatten_len (fun x hx => hs x (by simp [hx])), hs e (by simp), List.length_cons, Nat.add_mul]
    omega
theorem flatten_set {sz : Nat} : ∀ {els : List (List CV)} {e : Nat} {el : List CV} (y : List CV), (∀ x ∈ els, x.length = sz) → els[e]? = some el → (els.set e y).flatten = els.flatten.take (e * sz) ++ y ++ els.flatten.drop (e * sz + sz)
  | [], e, el, y, _, h => by simp at h
  | x :: es, 0, el, y, hs, h => by
    have hx := hs x (by simp)
    simp only [List.set_cons_zero, List.flatten_cons, Nat.zero_mul, List.take_zero, List.nil_append, Nat.zero_add]
    rw [List.drop_append_of_le_length (by omega), ← hx, List.drop_length]
    simp
  | x :: es, e + 1, el, y, hs, h => by
    have hx := hs x (by simp)
    have ih := flatten_set (els := es) (e := e) (el := el) y (fun z hz => hs z (by simp [hz])) (by simpa using h)
    simp only [List.set_cons_succ, List.flatten_cons, ih]
    have e1 : (e + 1) * sz = x.length + e * sz := by rw [Nat.add_mul, hx]; omega
    rw [e1, List.take_append_of_le_length (l₁ := x) (l₂ := es.flatten) (i := x.length + e * sz) |> fun _ => (by
      rw [List.take_length_add_append] : (x ++ es.flatten).take (x.length + e * sz) = x ++ es.flatten.take (e * sz))]
    rw [Nat.add_assoc, List.drop_length_add_append]
    simp

/-! ### a block goes over to a tree -/
def Gh.absorb (G : Gh) (a d : Nat) : Gh :=
  { G with own := fun x => if G.own x = some a then some d else G.own x, top := fun x => G.own x ≠ some a ∧ G.top x, inf := fun x => if x = a then (G.inf a).map (fun r => (r.1, r.2.1 + 1, r.2.2)) else G.inf x }
theorem ext_absorb (hi : Inv G w) {a d sz n : Nat} (ha : G.inf a = some (sz, n, false)) (hne : a ≠ d) : Ext [d, a] G w (G.absorb a d) w where
  os := rfl
  tape := rfl
  output := rfl
  size := Nat.le_refl _
  base := rfl
  old := rfl
  nn := fun b _ h => ⟨by simp [Gh.absorb, h], rfl⟩
  sm := fun b i h => by
    by_cases e : i = a
    · subst e
      exact ⟨fun hn => absurd (by simp) hn, .inr (.inr ⟨by simp, d, by simp, by simp [Gh.absorb, h], by simp [Gh.absorb, h]⟩)⟩
    · have : (G.absorb a d).own b = some i := by
        simp only [Gh.absorb]
        rw [if_neg (by rw [h]; simpa using e)]
        exact h
      exact ⟨fun _ => ⟨this, rfl⟩, .inl this⟩
  same := fun b i cs ty _ _ _ h => ⟨cs, h, rfl⟩
  fz := fun b i s k h hf => by
    have e : i ≠ a := fun e => by subst e; rw [ha] at hf; cases hf
    refine ⟨?_, rfl⟩
    simp only [Gh.absorb]
    rw [if_neg (by rw [h]; simpa using e)]
    exact h
  inf := fun i s k f hf => by
    by_cases e : i = a
    · subst e
      rw [ha] at hf
      cases hf
      exact ⟨n + 1, false, by simp [Gh.absorb, ha], by omega, (fun e => by cases e), fun e => by omega⟩
    · refine ⟨k, f, by simp [Gh.absorb, e, hf], Nat.le_refl _, fun e => ⟨e, rfl⟩, fun _ b hb => ?_⟩
      simp only [Gh.absorb]
      rw [if_neg (by rw [hb]; simpa using e)]
      exact hb
  out := fun i hn => by
    simp only [List.mem_cons, List.not_mem_nil, or_false, not_or] at hn
    simp only [Gh.absorb]
    rw [if_neg hn.2]
  new := fun b i h1 h2 => by
    simp only [Gh.absorb] at h2
    split at h2
    · rename_i e
      exact absurd (hi.own b a e) (by omega)
    · exact absurd (hi.own b i h2) (by omega)
  keep := fun b i h => by
    simp only [Gh.absorb] at h
    split at h
    · rename_i e
      exact hi.own b a e
    · exact hi.own b i h
  tp := fun b i h0 h1 h2 ht => by
    refine ⟨fun e => ?_, ht⟩
    simp only [Gh.absorb] at h1
    rw [if_pos e] at h1
    rw [h0] at e
    injection e with e
    injection h1 with h1
    exact hne (e.symm.trans h1.symm)
  nt := fun b _ ht _ h => ht h.2
  tn := fun b hb => ⟨fun e => absurd (hi.own b a e) (by omega), hi.top b hb⟩

theorem InnR.absorb {a d : Nat} (hne : a ≠ d) {l : List (List CV)} {v : Value} (r : InnR G w d ty2 l v) : InnR (G.absorb a d) w d ty2 l v := by
  rcases r with r | ⟨b, c, cs, h1, h2, h3, h4⟩
  · exact .inl r
  · refine .inr ⟨b, c, cs, h1, ?_, fun ht => h3 ht.2, h4⟩
    simp only [Gh.absorb]
    rw [if_neg (by rw [h2]; simpa using (Ne.symm hne))]
    exact h2
theorem InnR.absorbed {a d : Nat} {l : List (List CV)} {v : Value} (r : InnR G w a ty2 l v) : InnR (G.absorb a d) w d ty2 l v := by
  rcases r with r | ⟨b, c, cs, h1, h2, h3, h4⟩
  · exact .inl r
  · exact .inr ⟨b, c, cs, h1, by simp [Gh.absorb, h2], fun ht => ht.1 h2, h4⟩
theorem RelB.absorb {a d sz : Nat} {ty : TypeId} {els : List (List CV)} (hne : a ≠ d) (r : RelB G w d (some (.tree sz ty ty2 els))) : RelB (G.absorb a d) w d (some (.tree sz ty ty2 els)) := by
  obtain ⟨r1, r2, r3, r4⟩ := r
  have hinf : (G.absorb a d).inf d = some (sz, els.length, false) := by
    simp only [Gh.absorb]
    rw [if_neg (Ne.symm hne)]
    exact r1
  have up : ∀ b, (G.absorb a d).own b = some d → (G.absorb a d).top b → G.own b = some d ∧ G.top b := fun b e1 e2 => by
    simp only [Gh.absorb] at e1
    rw [if_neg e2.1] at e1
    exact ⟨e1, e2.2⟩
  refine ⟨hinf, r2, fun b b' e1 e2 e3 e4 => r3 b b' (up b e1 e2).1 (up b e1 e2).2 (up b' e3 e4).1 (up b' e3 e4).2, ?_⟩
  rcases r4 with ⟨a1, a2⟩ | ⟨b, cs, a1, a2, a3, a0, a4, a5⟩
  · exact .inl ⟨a1, fun b e1 e2 => a2 b (up b e1 e2).1 (up b e1 e2).2⟩
  · have ho : G.own b ≠ some a := by rw [a1.1]; simpa using (Ne.symm hne)
    exact .inr ⟨b, cs, ⟨by simp only [Gh.absorb]; rw [if_neg ho]; exact a1.1, ho, a1.2⟩, a2, a3, a0, TrP.mono (fun l v q => q.absorb hne) a4, a5⟩
theorem junk_absorb {a d sz n : Nat} (ha : G.inf a = some (sz, n, false)) : RelB (G.absorb a d) w a (some .junk) := ⟨sz, n + 1, by simp [Gh.absorb, ha]⟩

theorem flat_rep {I J : Nat → Prop} {sz : Nat} {els : List (List CV)} {vs : List Value} (hf : Flat els) (r : RepE I w sz els vs) : RepE J w sz els vs := by
  refine RepE.mk fun e el he => ?_
  obtain ⟨a, b⟩ := r.at e el he
  refine ⟨a, ?_⟩
  have hp := hf el (List.mem_of_getElem? he)
  generalize vs.drop (e * sz) = us at b
  clear he a
  induction el generalizing us with
  | nil => simp [RepP]
  | cons c cs ih =>
    simp only [RepP] at b ⊢
    obtain ⟨v, vs', h1, h2, h3⟩ := b
    refine ⟨v, vs', h1, ?_, ih (fun x hx => hp x (by simp [hx])) vs' h3⟩
    have hc := hp c (by simp)
    cases c with
    | row l => cases hc
    | _ => simpa only [RepC] using h2
/-- A row of the code's own, as a row within a tree. -/
theorem inn_of {els : List (List CV)} (r : RelB G w id (some (.arr 1 ty2 false els))) (hf : Flat els) {v : Value} (p : Reps G w (.own id els.length) v) {d : Nat} : InnR (G.absorb id d) w d ty2 els v ∧ (∀ b ∈ blkC (.row els) v, G.own b = some id) ∧ v.oneCell' = true := by
  obtain ⟨r1, r2, r3, r4⟩ := r
  simp only [Reps] at p
  obtain ⟨sz', m, f, p1, _, pc, p2⟩ := p
  rw [r1] at p1
  injection p1 with p1
  injection p1 with p1 p3
  injection p3 with p3 p4
  subst p1 p3
  rcases p2 with p2 | ⟨_, p2⟩
  · omega
  · rcases p2 with ⟨rfl, p2⟩ | ⟨b, c, cs, ty', rfl, p5, p6, p7, p8, p9⟩
    · have : els = [] := List.eq_nil_of_length_eq_zero (by omega)
      subst this
      exact ⟨.inl ⟨rfl, rfl⟩, by simp [blkC], pc⟩
    · rcases r4 with ⟨r5, r6⟩ | ⟨b', cs', r5, r6, r7, r8⟩
      · exact absurd p5.1 (r6 b)
      · have := r3 b b' p5.1 r5.1
        subst this
        rw [r6] at p6
        injection p6 with p6
        injection p6 with p6 p10
        subst p6 p10
        refine ⟨.inr ⟨b, c, cs', rfl, by simp [Gh.absorb, r5.1], fun ht => ht.1 r5.1, r6, by omega, p8, p9, flat_rep hf r8⟩, fun x hx => ?_, rfl⟩
        simp only [blkC, List.mem_singleton] at hx
        subst hx
        exact r5.1
end

section
variable {E : Env} {h : List Blk} {K : Kont}
/-- Cells for a tree, where nothing goes over. -/
def TrIn (h : List Blk) (ty2 : TypeId) (cvs : List CV) (f : Option Nat) (G : Gh) (w : World) (us : List Value) : Prop :=
  match f with
  | none => ∀ d, TrP G w d ty2 cvs us ∧ blkP cvs us = []
  | some a => (∃ els, nthB h a = some (.arr 1 ty2 false els)) ∧ ∀ d, a ≠ d → TrP (G.absorb a d) w d ty2 cvs us ∧ (blkP cvs us).Nodup ∧ ∀ b ∈ blkP cvs us, G.own b = some a
theorem toTr_ok {ty2 : TypeId} : ∀ {ps : List PV} {R : List CV → Option Nat → Prop}, toTr h ty2 ps R → ∃ cvs f, R cvs f ∧ cvs.length = ps.length ∧ (∀ a, f = some a → ∃ els, nthB h a = some (.arr 1 ty2 false els)) ∧
    ∀ (G : Gh) (w : World) (us : List Value), RepsL G w ps us → (∀ a, f = some a → RelB G w a (nthB h a)) → TrIn h ty2 cvs f G w us
  | [], R, hk => ⟨[], none, by simpa only [toTr] using hk, rfl, (fun a e => by cases e), fun G w us _ _ d => by simp [TrP, blkP]⟩
  | .v c :: ps, R, hk => by
    have main : c.plain = true → toTr h ty2 ps (fun cs f => R (c :: cs) f) → ∃ cvs f, R cvs f ∧ cvs.length = (PV.v c :: ps).length ∧ (∀ a, f = some a → ∃ els, nthB h a = some (.arr 1 ty2 false els)) ∧
        ∀ (G : Gh) (w : World) (us : List Value), RepsL G w (.v c :: ps) us → (∀ a, f = some a → RelB G w a (nthB h a)) → TrIn h ty2 cvs f G w us := fun hc hk => by
      obtain ⟨cvs, f, h1, h2, h3, h4⟩ := toTr_ok hk
      refine ⟨_, f, h1, by simp [h2], h3, fun G w us hr hf => ?_⟩
      simp only [RepsL, Reps] at hr
      obtain ⟨v, us', rfl, h5, h6⟩ := hr
      have ih := h4 G w us' h6 hf
      have hb : blkC c v = [] := by cases c <;> first | rfl | cases hc
      have ht : ∀ (G' : Gh) d, TrC G' w d ty2 c v := fun G' d => by cases c <;> first | (simpa only [TrC, RepC] using h5) | cases hc
      cases f with
      | none =>
        intro d
        obtain ⟨a1, a2⟩ := ih d
        simp only [TrP, blkP, hb, List.nil_append]
        exact ⟨⟨v, us', rfl, ht _ d, a1⟩, a2⟩
      | some a =>
        refine ⟨ih.1, fun d hd => ?_⟩
        obtain ⟨a1, a2, a3⟩ := ih.2 d hd
        simp only [TrP, blkP, hb, List.nil_append]
        exact ⟨⟨v, us', rfl, ht _ d, a1⟩, a2, a3⟩
    cases c with
    | row l => simp only [toTr] at hk
    | _ => simp only [toTr] at hk; exact main rfl hk
  | .nil :: ps, R, hk => by
    simp only [toTr] at hk
    obtain ⟨cvs, f, h1, h2, h3, h4⟩ := toTr_ok hk
    refine ⟨_, f, h1, by simp [h2], h3, fun G w us hr hf => ?_⟩
    simp only [RepsL, Reps] at hr
    obtain ⟨v, us', rfl, rfl, h6⟩ := hr
    have ih := h4 G w us' h6 hf
    cases f with
    | none =>
      intro d
      obtain ⟨a1, a2⟩ := ih d
      simp only [TrP, blkP, blkC, List.nil_append]
      exact ⟨⟨_, us', rfl, .inl ⟨rfl, rfl⟩, a1⟩, a2⟩
    | some a =>
      refine ⟨ih.1, fun d hd => ?_⟩
      obtain ⟨a1, a2, a3⟩ := ih.2 d hd
      simp only [TrP, blkP, blkC, List.nil_append]
      exact ⟨⟨_, us', rfl, .inl ⟨rfl, rfl⟩, a1⟩, a2, a3⟩
  | .own a n :: ps, R, hk => by
    simp only [toTr] at hk
    split at hk
    rotate_left
    · exact hk.elim
    rename_i sz ty els hb
    obtain ⟨rfl, rfl, rfl, hfl, hk⟩ := hk
    obtain ⟨cvs, f, h1, h2, h3, h4⟩ := toTr_ok hk
    cases f with
    | some _ => exact h1.elim
    | none =>
      refine ⟨_, some a, h1, by simp [h2], fun b e => by injection e with e; subst e; exact ⟨els, hb⟩, fun G w us hr hf => ?_⟩
      simp only [RepsL] at hr
      obtain ⟨v, us', rfl, h5, h6⟩ := hr
      have r := hf a rfl
      rw [hb] at r
      refine ⟨⟨els, hb⟩, fun d hd => ?_⟩
      obtain ⟨i1, i2, i3⟩ := inn_of r hfl h5 (d := d)
      obtain ⟨a1, a2⟩ := h4 G w us' h6 (fun _ e => by cases e) d
      have a1' : TrP (G.absorb a d) w d ty cvs us' := TrP.mono (fun l v q => q.absorb hd) a1
      refine ⟨?_, ?_⟩
      · simp only [TrP]
        exact ⟨v, us', rfl, i1, a1'⟩
      · simp only [blkP]
        rw [a2, List.append_nil]
        refine ⟨?_, i2⟩
        cases v <;> first | (simp [blkC]; done) | (rename_i A _ _; cases A <;> simp [blkC])
  | .ptr _ _ :: _, _, hk => by simp only [toTr] at hk
  | .eptr _ _ _ _ :: _, _, hk => by simp only [toTr] at hk
  | .rptr _ :: _, _, hk => by simp only [toTr] at hk
  | .agg _ :: _, _, hk => by simp only [toTr] at hk
  | .tup _ :: _, _, hk => by simp only [toTr] at hk
  | .un :: _, _, hk => by simp only [toTr] at hk
end
end Go.Proofs.Ytkpcieenikmbmaa.E

/- Each operation comes to what is told of it: stores, appends, rows made. -/
namespace Go.Proofs.Ytkpcieenikmbmaa.E
open Go Go.RowKit Go.Proofs.YtkpcieenikmbmaaW.PrintWords
set_option linter.unusedVariables false
set_option linter.unusedSimpArgs false

section
variable {E : Env} {h : List Blk} {K : Kont}

theorem putL_length {α : Type} (cs vs : List α) (o : Nat) (hl : o + vs.length ≤ cs.length) : (putL cs o vs).length = cs.length := by
  simp only [putL, List.length_append, List.length_take, List.length_drop]
  omega

theorem RepsL.put_list {G : Gh} {w : World} {cs ds : List PV} {vs us : List Value} (o : Nat) (h1 : RepsL G w cs vs) (h2 : RepsL G w ds us) : RepsL G w (putL cs o ds) (vs.take o ++ us ++ vs.drop (o + us.length)) := by
  unfold putL
  rw [h2.length]
  exact ((h1.take o).append h2).append (h1.drop _)

theorem run_store {w : World} {b o t : Nat} {i : TI} {vs : Array Value} {ty : TypeId} {x : Value} (hf : TyFact E.P t i) (hs : x.cells.size = i.size) (hb : w.heap[b]? = some (.cells vs ty (0, 0))) (hl : o + i.size ≤ vs.size) (h1 : ∀ u ∈ x.cells.toList, u.oneCell' = true) :
    (do Instr.storeAt t (.pointer (some ⟨b, o, none⟩)) x; pure undef : Sem Value).run E.P w = .ok undef (w.setRow b (vs.toList.take o ++ x.cells.toList ++ vs.toList.drop (o + x.cells.toList.length)).toArray) := by
  have hc := run_storeCells_at E.P b o ty x.cells.toList 0 vs w hb (by simp; omega) h1
  simp only [Nat.add_zero] at hc
  simp [Instr.storeAt, Instr.sureAddr, storeVar, hf.sizeOf w, hs, hc]

/-! ### trees -/
theorem InnR.write {G : Gh} {w w' : World} {id b : Nat} {ty2 : TypeId} {l : List (List CV)} {v : Value} (ht : G.top b) (ho : ∀ k, k ≠ b → w'.heap[k]? = w.heap[k]?) (r : InnR G w id ty2 l v) : InnR G w' id ty2 l v := by
  rcases r with r | ⟨b', c, cs, h1, h2, h3, h4, h5⟩
  · exact .inl r
  · refine .inr ⟨b', c, cs, h1, h2, h3, (ho b' (fun e => h3 (e ▸ ht))).trans h4, h5.1, h5.2.1, h5.2.2.1, RepE.mono (fun _ _ _ e => e.elim) 1 l _ h5.2.2.2⟩
theorem RelB.tree_at {G : Gh} {w : World} {id sz n e o : Nat} {ty ty2 : TypeId} {els : List (List CV)} (r : RelB G w id (some (.tree sz ty ty2 els))) (hn : n = els.length) (he : e < n) {v : Value} (p : Reps G w (.eptr id n e o) v) :
    ∃ b cs, v = .pointer (some ⟨b, e * sz + o, none⟩) ∧ (G.own b = some id ∧ G.top b) ∧ w.heap[b]? = some (.cells cs ty (0, 0)) ∧ els.length * sz ≤ cs.size ∧ (∀ x ∈ els, x.length = sz) ∧ TrP G w id ty2 els.flatten cs.toList ∧ (blkP els.flatten cs.toList).Nodup := by
  obtain ⟨r1, r2, r3, r4⟩ := r
  simp only [Reps] at p
  obtain ⟨sz', m, f, p1, _, p2⟩ := p
  rw [r1] at p1
  injection p1 with p1
  injection p1 with p1 p3
  injection p3 with p3 p4
  subst p1 p3
  rcases p2 with p2 | ⟨_, b', p5, p6⟩
  · omega
  · rcases r4 with ⟨r5, r6⟩ | ⟨b, cs, r5, r6, r7, r8⟩
    · exact absurd p6.2 (r6 b' p6.1)
    · have := r3 b' b p6.1 p6.2 r5.1 r5.2
      subst this
      exact ⟨b', cs, p5, r5, r6, r7, r8⟩
theorem flatten_get {sz : Nat} : ∀ {els : List (List CV)} {e : Nat} {el : List CV}, (∀ x ∈ els, x.length = sz) → els[e]? = some el → el = (els.flatten.drop (e * sz)).take sz
  | [], e, el, _, h => by simp at h
  | x :: es, 0, el, hs, h => by
    simp at h
    subst h
    have hx := hs x (by simp)
    simp only [List.flatten_cons, Nat.zero_mul, List.drop_zero]
    rw [← hx, List.take_left]
  | x :: es, e + 1, el, hs, h => by
    have hx := hs x (by simp)
    have ih := flatten_get (els := es) (e := e) (el := el) (fun z hz => hs z (by simp [hz])) (by simpa using h)
    have e1 : (e + 1) * sz = x.length + e * sz := by rw [Nat.add_mul, hx]; omega
    rw [List.flatten_cons, e1, List.drop_length_add_append]
    exact ih
theorem flatten_put {sz o : Nat} {els : List (List CV)} {e : Nat} {el : List CV} (y : List CV) (hs : ∀ x ∈ els, x.length = sz) (h : els[e]? = some el) (ho : o + y.length ≤ sz) :
    (els.set e (putL el o y)).flatten = els.flatten.take (e * sz + o) ++ y ++ els.flatten.drop (e * sz + o + y.length) := by
  rw [flatten_set _ hs h, flatten_get hs h]
  unfold putL
  generalize els.flatten = F
  have e1 : ((F.drop (e * sz)).take sz).take o = (F.drop (e * sz)).take o := by rw [List.take_take, Nat.min_eq_left (by omega)]
  have e2 : ((F.drop (e * sz)).take sz).drop (o + y.length) ++ F.drop (e * sz + sz) = F.drop (e * sz + o + y.length) := by
    rw [List.drop_take, List.drop_drop]
    have : F.drop (e * sz + sz) = (F.drop (e * sz + (o + y.length))).drop (sz - (o + y.length)) := by
      rw [List.drop_drop]
      congr 1
      omega
    rw [this, List.take_append_drop, Nat.add_assoc]
  rw [e1]
  rw [show F.take (e * sz) ++ ((F.drop (e * sz)).take o ++ y ++ ((F.drop (e * sz)).take sz).drop (o + y.length)) ++ F.drop (e * sz + sz) = (F.take (e * sz) ++ (F.drop (e * sz)).take o) ++ y ++ (((F.drop (e * sz)).take sz).drop (o + y.length) ++ F.drop (e * sz + sz)) by simp only [List.append_assoc], e2, ← List.take_add]
theorem tree_write {G : Gh} {w w' : World} {id p b : Nat} {ty2 : TypeId} {F cvs : List CV} {V us : List Value} (ht : G.top b) (ho : ∀ k, k ≠ b → w'.heap[k]? = w.heap[k]?)
    (h1 : TrP G w id ty2 F V) (h2 : TrP G w id ty2 cvs us) (hl : us.length = cvs.length) (hp : p + cvs.length ≤ F.length) (hN : (blkP F V).Nodup) (hM : (blkP cvs us).Nodup) (hd : ∀ x ∈ blkP cvs us, x ∉ blkP F V) :
    TrP G w' id ty2 (F.take p ++ cvs ++ F.drop (p + cvs.length)) (V.take p ++ us ++ V.drop (p + us.length)) ∧ (blkP (F.take p ++ cvs ++ F.drop (p + cvs.length)) (V.take p ++ us ++ V.drop (p + us.length))).Nodup := by
  have hV := h1.len
  have eF : F = F.take p ++ ((F.drop p).take cvs.length ++ F.drop (p + cvs.length)) := by
    rw [← List.drop_drop, List.take_append_drop, List.take_append_drop]
  have eV : V = V.take p ++ ((V.drop p).take cvs.length ++ V.drop (p + cvs.length)) := by
    rw [← List.drop_drop, List.take_append_drop, List.take_append_drop]
  have l1 : (V.take p).length = (F.take p).length := by rw [List.length_take, List.length_take]; omega
  have l2 : ((V.drop p).take cvs.length).length = ((F.drop p).take cvs.length).length := by simp only [List.length_take, List.length_drop]; omega
  have s1 : TrP G w id ty2 (F.take p) (V.take p) := by
    have := h1
    rw [eF] at this
    have := this.split.1
    rwa [← l1, List.length_take, Nat.min_eq_left (by omega)] at this
  have s2 : TrP G w id ty2 (F.drop (p + cvs.length)) (V.drop (p + cvs.length)) := by
    have := h1
    rw [eF] at this
    have := this.split.2.split.2
    rw [List.drop_drop] at this
    have e : (F.take p).length + ((F.drop p).take cvs.length).length = p + cvs.length := by simp only [List.length_take, List.length_drop]; omega
    rwa [e] at this
  have bF : blkP F V = blkP (F.take p) (V.take p) ++ (blkP ((F.drop p).take cvs.length) ((V.drop p).take cvs.length) ++ blkP (F.drop (p + cvs.length)) (V.drop (p + cvs.length))) := by
    conv => lhs; rw [eF, eV]
    rw [blkP_append l1, blkP_append l2]
  have mono : ∀ l v, InnR G w id ty2 l v → InnR G w' id ty2 l v := fun l v q => q.write ht ho
  have l3 : (V.take p ++ us).length = (F.take p ++ cvs).length := by rw [List.length_append, List.length_append, l1, hl]
  rw [hl]
  refine ⟨TrP.append (TrP.append (TrP.mono mono s1) l1 (TrP.mono mono h2)) l3 (TrP.mono mono s2), ?_⟩
  rw [blkP_append l3, blkP_append l1]
  rw [bF] at hN hd
  rw [List.nodup_append] at hN
  obtain ⟨n1, n2, n3⟩ := hN
  rw [List.nodup_append] at n2
  obtain ⟨n4, n5, n6⟩ := n2
  rw [List.nodup_append, List.nodup_append]
  refine ⟨⟨n1, hM, fun x hx y hy e => ?_⟩, n5, fun x hx y hy e => ?_⟩
  · subst e
    exact hd x hy (List.mem_append_left _ hx)
  · subst e
    rcases List.mem_append.1 hx with hx | hx
    · exact n3 x hx x (List.mem_append_right _ hy) rfl
    · exact hd x hx (List.mem_append_right _ (List.mem_append_right _ hy))

theorem store_tree {t id n e o : Nat} {x : PV} {i : TI} {cs : List PV} {sz : Nat} {ty ty2 : TypeId} {els : List (List CV)} (hf : TyFact E.P t i) (hc : pcells x = some cs) (hb : nthB h id = some (.tree sz ty ty2 els))
    (hk : toTr h ty2 cs fun cvs f => Side (cs.length = i.size) (Side (n = els.length) (ElemAt els e fun el => Side (o + i.size ≤ sz) (Norm ty (els.set e (putL el o cvs)) fun els' => match f with
      | none => K .un (putB h id (.tree sz ty ty2 els')) [] [id]
      | some id2 => K .un (putB (putB h id (.tree sz ty ty2 els')) id2 .junk) [] [id, id2])))) :
    Step E.P h (fun G w m => ∃ v u, Reps G w (.eptr id n e o) v ∧ Reps G w x u ∧ m = (do Instr.storeAt t v u; pure undef)) K := by
  obtain ⟨cvs, f, ⟨k1, k3, el, k4, k5, els', rfl, hk⟩, f1, f2, f3⟩ := toTr_ok hk
  have hne : ∀ a, f = some a → a ≠ id := fun a e e2 => by
    obtain ⟨els0, h0⟩ := f2 a e
    rw [e2, hb] at h0
    cases h0
  -- the write itself, behind what goes over
  have core : ∀ (G G1 : Gh) (w : World) (v u : Value) (ids : List Nat), Inv G w → Ext ids G w G1 w → Reps G w (.eptr id n e o) v → Reps G w x u → RelB G w id (some (.tree sz ty ty2 els)) → RelB G1 w id (some (.tree sz ty ty2 els)) → (∀ b, G.own b = some id → G.top b → G1.own b = some id ∧ G1.top b) →
      (∀ us, RepsL G w cs us → TrP G1 w id ty2 cvs us ∧ (blkP cvs us).Nodup ∧ ∀ b ∈ blkP cvs us, G.own b ≠ some id) →
      ∃ w', (do Instr.storeAt t v u; pure undef : Sem Value).run E.P w = .ok undef w' ∧ Ext [id] G1 w G1 w' ∧ RelB G1 w' id (some (.tree sz ty ty2 (els.set e (putL el o cvs)))) := by
    intro G G1 w v u ids hi X0 hv hu r r1 hroot hcv
    have hlt : e < n := by rw [k3]; exact (List.getElem?_eq_some_iff.1 k4).1
    obtain ⟨b, vs, rfl, g1, g2, g3, g4, g5, g6⟩ := r.tree_at k3 hlt hv
    obtain ⟨h5, h6⟩ := pcells_ok hc hu
    have h7 := h5.length
    rw [Array.length_toList] at h7
    obtain ⟨q1, q2, q3⟩ := hcv _ h5
    have he : e * sz + sz ≤ els.length * sz := by rw [← Nat.succ_mul]; exact Nat.mul_le_mul_right _ (by omega)
    have hrun := run_store (w := w) (o := e * sz + o) hf (by omega) g2 (by omega) h6
    have hsz : (vs.toList.take (e * sz + o) ++ u.cells.toList ++ vs.toList.drop (e * sz + o + u.cells.toList.length)).toArray.size = vs.size := by
      simp only [List.size_toArray, List.length_append, List.length_take, List.length_drop, Array.length_toList]
      omega
    have hb' := setRow_heap w b vs (vs.toList.take (e * sz + o) ++ u.cells.toList ++ vs.toList.drop (e * sz + o + u.cells.toList.length)).toArray ty (0, 0) g2
    have hi1 := hi.ext X0
    obtain ⟨ho1, ht1⟩ := hroot b g1.1 g1.2
    have X1 := ext_written (G := G1) (w' := w.setRow b (vs.toList.take (e * sz + o) ++ u.cells.toList ++ vs.toList.drop (e * sz + o + u.cells.toList.length)).toArray) hi1 ho1 r1.1 g2 hb' hsz (by simp [World.setRow]) (fun k hk' => setRow_other w b k _ hk') rfl rfl rfl
    refine ⟨_, hrun, X1, ?_⟩
    obtain ⟨s1, s2, s3, s4⟩ := r1
    have hel := g4 el (List.mem_of_getElem? k4)
    have hlf := flatten_len g4
    have hTr : TrP G1 w id ty2 els.flatten vs.toList := by
      rcases s4 with ⟨a1, _⟩ | ⟨b2, cs2, c1, c2, c3, c4, c5, c6⟩
      · rw [a1] at k4; simp at k4
      · have := s3 b2 b c1.1 c1.2 ho1 ht1
        subst this
        rw [g2] at c2
        injection c2 with c2
        injection c2 with c2 _
        subst c2
        exact c5
    obtain ⟨z1, z2⟩ := tree_write (p := e * sz + o) (w' := w.setRow b (vs.toList.take (e * sz + o) ++ u.cells.toList ++ vs.toList.drop (e * sz + o + u.cells.toList.length)).toArray) ht1 (fun k hk' => setRow_other w b k _ hk') hTr q1 (by rw [h5.length, f1]) (by rw [hlf, f1]; omega) g6 q2 (fun y hy hy2 => q3 y hy (blkP_own g5 y hy2))
    refine ⟨by rw [List.length_set]; exact s1, s2, s3, .inr ⟨b, _, ⟨ho1, ht1⟩, hb', by rw [List.length_set, hsz]; exact g3, fun y hy => ?_, ?_, ?_⟩⟩
    · rcases List.mem_or_eq_of_mem_set hy with hy | rfl
      · exact g4 y hy
      · rw [putL_length _ _ _ (by omega)]
        exact hel
    · rw [flatten_put cvs g4 k4 (by omega)]
      exact z1
    · rw [flatten_put cvs g4 k4 (by omega)]
      exact z2
  cases f with
  | none =>
    refine ⟨_, _, _, _, hk, fun j hj => nthB_putB_ne h id j _ (by simpa using hj), by rw [len_putB]; exact Nat.le_refl _, fun G w m hi hm hr => ?_⟩
    obtain ⟨v, u, hv, hu, rfl⟩ := hm
    have r := hr id (by simp)
    rw [hb] at r
    obtain ⟨w', a1, a2, a3⟩ := core G G w v u [] hi (Ext.refl hi []) hv hu r r (fun b h1 h2 => ⟨h1, h2⟩) (fun us hus => by
      obtain ⟨b1, b2⟩ := f3 G w us hus (fun a e => by cases e) id
      refine ⟨b1, by rw [b2]; exact List.nodup_nil, fun b hb => by rw [b2] at hb; cases hb⟩)
    refine ⟨_, w', G, a1, a2, by simp [Reps], fun j hj => ?_⟩
    simp only [List.mem_singleton] at hj
    subst hj
    rw [nthB_putB_same _ hb]
    exact a3
  | some a =>
    have hai := hne a rfl
    have hb1 : nthB (putB h id (.tree sz ty ty2 (els.set e (putL el o cvs)))) a = nthB h a := nthB_putB_ne h id a _ hai
    obtain ⟨elsA, hA⟩ := f2 a rfl
    refine ⟨_, _, _, _, hk, fun j hj => ?_, by rw [len_putB, len_putB]; exact Nat.le_refl _, fun G w m hi hm hr => ?_⟩
    · simp only [List.mem_cons, List.not_mem_nil, or_false, not_or] at hj
      rw [nthB_putB_ne _ a j _ hj.2, nthB_putB_ne h id j _ hj.1]
    obtain ⟨v, u, hv, hu, rfl⟩ := hm
    have r := hr id (by simp)
    have ra := hr a (by simp)
    rw [hb] at r
    have raj := ra
    rw [hA] at ra
    have X0 := ext_absorb hi ra.1 hai
    obtain ⟨w', a1, a2, a3⟩ := core G (G.absorb a id) w v u _ hi X0 hv hu r (r.absorb hai) (fun b h1 h2 => by
      have ho : G.own b ≠ some a := by rw [h1]; simpa using (Ne.symm hai)
      exact ⟨by simp only [Gh.absorb]; rw [if_neg ho]; exact h1, ho, h2⟩) (fun us hus => by
      obtain ⟨_, b1⟩ := f3 G w us hus (fun a' e => by injection e with e; subst e; exact raj)
      obtain ⟨b2, b3, b4⟩ := b1 id hai
      exact ⟨b2, b3, fun b hb e => by rw [b4 b hb] at e; injection e with e; exact hai e⟩)
    have X := (Ext.trans hi X0 a2).mono (ids2 := [id, a]) (fun j hj => by
      simp only [List.mem_append, List.mem_cons, List.not_mem_nil, or_false] at hj ⊢
      rcases hj with (hj | hj) | hj <;> simp [hj])
    refine ⟨_, w', _, a1, X, by simp [Reps], fun j hj => ?_⟩
    simp only [List.mem_cons, List.not_mem_nil, or_false] at hj
    rcases hj with rfl | rfl
    · rw [nthB_putB_ne _ a j _ (Ne.symm hai), nthB_putB_same _ hb]
      exact a3
    · rw [nthB_putB_same _ (hb1.trans hA)]
      exact RelB.ext a2 (hi.ext X0) (by simpa using hai) (junk_absorb ra.1)

theorem store_ok {t : Nat} {p x : PV} (hk : aStore E h t p x K) : Step E.P h (fun G w m => ∃ v u, Reps G w p v ∧ Reps G w x u ∧ m = (do Instr.storeAt t v u; pure undef)) K := by
  unfold aStore at hk
  cases hl : look E.T t with
  | none => rw [hl] at hk; exact hk.elim
  | some i =>
    cases hc : pcells x with
    | none => rw [hl, hc] at hk; exact hk.elim
    | some cs =>
      rw [hl, hc] at hk
      simp only at hk
      have hf := Env.fact hl
      cases p with
      | ptr id o =>
        simp only at hk
        cases hb : nthB h id with
        | none => rw [hb] at hk; exact hk.elim
        | some B =>
          rw [hb] at hk
          cases B with
          | arr sz ty fz els => exact hk.elim
          | tree _ _ _ _ => exact hk.elim
          | junk => exact hk.elim
          | box ty ds =>
            simp only at hk
            obtain ⟨k1, k2, hk⟩ := hk
            refine ⟨_, _, _, _, hk, fun j hj => nthB_putB_ne h id j _ (by simpa using hj), by rw [len_putB]; exact Nat.le_refl _, fun G w m hi hm hr => ?_⟩
            obtain ⟨v, u, hv, hu, rfl⟩ := hm
            have r := hr id (by simp)
            rw [hb] at r
            obtain ⟨b, vs, rfl, h1, h2, h3, h4⟩ := r.box_at hv
            obtain ⟨h5, h6⟩ := pcells_ok hc hu
            have h7 := h5.length
            have h8 := h4.length
            rw [Array.length_toList] at h8 h7
            have hrun := run_store (w := w) (o := o) hf (by omega) h2 (by omega) h6
            have hsz : (vs.toList.take o ++ u.cells.toList ++ vs.toList.drop (o + u.cells.toList.length)).toArray.size = vs.size := by
              simp only [List.size_toArray, List.length_append, List.length_take, List.length_drop, Array.length_toList]
              omega
            have hb' := setRow_heap w b vs (vs.toList.take o ++ u.cells.toList ++ vs.toList.drop (o + u.cells.toList.length)).toArray ty (0, 0) h2
            have X := ext_written (w' := w.setRow b (vs.toList.take o ++ u.cells.toList ++ vs.toList.drop (o + u.cells.toList.length)).toArray) hi h1 r.1 h2 hb' hsz (by simp [World.setRow]) (fun k hk' => setRow_other w b k _ hk') rfl rfl rfl
            refine ⟨_, _, G, hrun, X, by simp [Reps], fun j hj => ?_⟩
            simp only [List.mem_singleton] at hj
            subst hj
            rw [nthB_putB_same _ hb]
            have hlen : (putL ds o cs).length = ds.length := putL_length ds cs o (by omega)
            refine ⟨by rw [hlen]; exact r.1, r.2.1, b, _, ⟨h1, r.top_box h1⟩, hb', ?_, ?_⟩
            · intro z hz
              simp only [List.mem_append] at hz
              rcases hz with (hz | hz) | hz
              · exact h3 z (List.mem_of_mem_take hz)
              · exact h6 z hz
              · exact h3 z (List.mem_of_mem_drop hz)
            · exact RepsL.ext X hi _ _ (h4.put_list o h5)
      | eptr id n e o =>
        simp only at hk
        cases hb : nthB h id with
        | none => rw [hb] at hk; exact hk.elim
        | some B =>
          rw [hb] at hk
          cases B with
          | box ty ds => exact hk.elim
          | junk => exact hk.elim
          | tree sz ty ty2 els => exact store_tree hf hc hb hk
          | arr sz ty fz els =>
            cases fz with
            | true => exact hk.elim
            | false =>
              simp only at hk
              obtain ⟨cvs, f, ⟨k1, k2, k3, el, k4, k5, els', rfl, hk⟩, f1, f2, f3⟩ := toCs_ok hk
              have hnf : id ∉ f := by simpa using k2
              have hbf : nthB (frz f h) id = some (.arr sz ty false els) := by rw [nthB_frz, if_neg hnf, hb]
              refine ⟨_, _, _, _, hk, fun j hj => ?_, by rw [len_putB, len_frz]; exact Nat.le_refl _, fun G w m hi hm hr => ?_⟩
              · simp only [List.mem_cons, not_or] at hj
                rw [nthB_putB_ne _ _ _ _ hj.1, nthB_frz, if_neg hj.2]
              obtain ⟨v, u, hv, hu, rfl⟩ := hm
              have r := hr id (by simp)
              rw [hb] at r
              have hlt : e < n := by rw [k3]; exact (List.getElem?_eq_some_iff.1 k4).1
              obtain ⟨b, vs, rfl, h1, h2, h3, h4⟩ := r.arr_at k3 hlt hv
              obtain ⟨h5, h6⟩ := pcells_ok hc hu
              have h7 := h5.length
              rw [Array.length_toList] at h7
              have he : e * sz + sz ≤ els.length * sz := by rw [← Nat.succ_mul]; exact Nat.mul_le_mul_right _ (by omega)
              have hrun := run_store (w := w) (o := e * sz + o) hf (by omega) h2 (by omega) h6
              have hsz : (vs.toList.take (e * sz + o) ++ u.cells.toList ++ vs.toList.drop (e * sz + o + u.cells.toList.length)).toArray.size = vs.size := by
                simp only [List.size_toArray, List.length_append, List.length_take, List.length_drop, Array.length_toList]
                omega
              have hb' := setRow_heap w b vs (vs.toList.take (e * sz + o) ++ u.cells.toList ++ vs.toList.drop (e * sz + o + u.cells.toList.length)).toArray ty (0, 0) h2
              have hrf : ∀ j ∈ f, RelB G w j (nthB h j) := fun j hj => hr j (by simp [hj])
              have X0 := ext_frz hi f
              have hi0 := hi.ext X0
              have hinf : (G.frz f).inf id = some (sz, els.length, false) := by
                simp only [Gh.frz]
                rw [if_neg hnf]
                exact r.1
              have X1 := ext_written (G := G.frz f) (w' := w.setRow b (vs.toList.take (e * sz + o) ++ u.cells.toList ++ vs.toList.drop (e * sz + o + u.cells.toList.length)).toArray) hi0 h1 hinf h2 hb' hsz (by simp [World.setRow]) (fun k hk' => setRow_other w b k _ hk') rfl rfl rfl
              have X := Ext.mono (ids2 := id :: f) (Ext.trans hi X0 X1) (fun j hj => by
                simp only [List.mem_append, List.mem_singleton] at hj
                rcases hj with hj | hj <;> simp [hj])
              refine ⟨_, _, G.frz f, hrun, X, by simp [Reps], fun j hj => ?_⟩
              have hfr := frz_rel hi hrf f1
              by_cases hj' : j = id
              · subst hj'
                rw [nthB_putB_same _ hbf]
                have hI := RepE.mono (imm_old X0 hi) sz els _ h4
                have hcv := f3 G w _ f hi h5 hrf (fun j hj => hj)
                refine ⟨by rw [List.length_set]; exact hinf, r.2.1, r.2.2.1, .inr ⟨b, _, ⟨h1, r.top_arr h1⟩, hb', by rw [List.length_set, hsz]; exact h3, ?_⟩⟩
                refine RepE.mono (imm_old X1 hi0) sz _ _ (RepE.mk fun q y hy => ?_)
                rw [List.getElem?_set] at hy
                have hul : u.cells.toList.length = cs.length := by rw [Array.length_toList]; exact h7
                split at hy
                · rename_i heq
                  subst heq
                  split at hy
                  · injection hy with hy
                    subst hy
                    obtain ⟨a1, a2⟩ := hI.at e el k4
                    refine ⟨by rw [putL_length _ _ _ (by omega)]; exact a1, ?_⟩
                    have e1 : (vs.toList.take (e * sz + o) ++ u.cells.toList ++ vs.toList.drop (e * sz + o + u.cells.toList.length)).drop (e * sz) = ((vs.toList.drop (e * sz)).take o ++ u.cells.toList) ++ (vs.toList.drop (e * sz)).drop (o + u.cells.toList.length) := by
                      rw [List.drop_append_of_le_length (by simp; omega), List.drop_append_of_le_length (by simp; omega), List.drop_take, List.drop_drop, Nat.add_sub_cancel_left, Nat.add_assoc]
                    show RepP _ w _ ((vs.toList.take (e * sz + o) ++ u.cells.toList ++ vs.toList.drop (e * sz + o + u.cells.toList.length)).drop (e * sz))
                    rw [e1]
                    unfold putL
                    refine RepP.append (RepP.append (RepP.take o a2) ?_ hcv) ?_ ?_
                    · rw [List.length_take, List.length_take, List.length_drop, Array.length_toList]
                      omega
                    · simp only [List.length_append, List.length_take, List.length_drop, Array.length_toList]
                      omega
                    · rw [hul, f2]
                      exact RepP.drop _ a2
                  · cases hy
                · rename_i hne
                  obtain ⟨a1, a2⟩ := hI.at q y hy
                  refine ⟨a1, ?_⟩
                  show RepP _ w _ ((vs.toList.take (e * sz + o) ++ u.cells.toList ++ vs.toList.drop (e * sz + o + u.cells.toList.length)).drop (q * sz))
                  have a3 := RepP.take y.length a2
                  rw [List.take_length] at a3
                  have hq : q < els.length := (List.getElem?_eq_some_iff.1 hy).1
                  have hqs : q * sz + sz ≤ els.length * sz := by rw [← Nat.succ_mul]; exact Nat.mul_le_mul_right _ (by omega)
                  have e1 : ((vs.toList.take (e * sz + o) ++ u.cells.toList ++ vs.toList.drop (e * sz + o + u.cells.toList.length)).drop (q * sz)).take y.length = (vs.toList.drop (q * sz)).take y.length := by
                    rw [a1]
                    apply List.ext_getElem?
                    intro z
                    rw [List.getElem?_take, List.getElem?_take]
                    split
                    · rename_i hz
                      rw [List.getElem?_drop, List.getElem?_drop]
                      rcases Nat.lt_or_gt_of_ne (Ne.symm hne) with hlt' | hgt
                      · have : q * sz + sz ≤ e * sz := by rw [← Nat.succ_mul]; exact Nat.mul_le_mul_right _ hlt'
                        rw [List.getElem?_append_left (by simp; omega), List.getElem?_append_left (by simp; omega), List.getElem?_take, if_pos (by omega)]
                      · have : e * sz + sz ≤ q * sz := by rw [← Nat.succ_mul]; exact Nat.mul_le_mul_right _ hgt
                        rw [List.getElem?_append_right (by simp; omega), List.getElem?_drop]
                        congr 1
                        simp
                        omega
                    · rfl
                  rw [← e1] at a3
                  exact a3.of_take _
              · have hjf : j ∈ f := by
                  rcases List.mem_cons.1 hj with hj | hj
                  · exact absurd hj hj'
                  · exact hj
                rw [nthB_putB_ne _ _ _ _ hj']
                exact RelB.ext X1 hi0 (by simpa using hj') (hfr j hjf)
      | _ => exact hk.elim
end
end Go.Proofs.Ytkpcieenikmbmaa.E

/- Each operation comes to what is told of it: appends, and rows made whole. -/
namespace Go.Proofs.Ytkpcieenikmbmaa.E
open Go Go.RowKit Go.Proofs.YtkpcieenikmbmaaW.PrintWords
set_option linter.unusedVariables false
set_option linter.unusedSimpArgs false

section
variable {E : Env} {h : List Blk} {K : Kont}

def Gh.regrow (G : Gh) (id : Nat) (g : Option Nat) (r : Nat × Nat × Bool) : Gh :=
  { G with own := fun x => if some x = g then some id else if G.own x = some id then none else G.own x, inf := fun x => if x = id then some r else G.inf x }

theorem ext_regrow {G : Gh} {w w' : World} (hi : Inv G w) {id sz n m : Nat} {row g : Option Nat} (hinf : G.inf id = some (sz, n, false)) (hm : 0 < m) (hg : w.grownBy w' row) (hrow : ∀ b, row = some b → G.own b = some id)
    (hgn : ∀ b, g = some b → b < w'.heap.size ∧ (G.own b = some id ∨ w.heap.size ≤ b)) : Ext [id] G w (G.regrow id g (sz, n + m, false)) w' where
  os := hg.os
  tape := hg.tape
  output := hg.output
  size := hg.size
  base := rfl
  old := rfl
  nn := fun b hb h0 => by
    have hne : some b ≠ g := fun e => by
      rcases (hgn b e.symm).2 with a | a
      · rw [h0] at a; cases a
      · omega
    refine ⟨?_, hg.block b hb (fun e => by have := hrow b e.symm; rw [h0] at this; cases this)⟩
    simp only [Gh.regrow]
    rw [if_neg hne, h0]
    rfl
  sm := fun b j h0 => by
    by_cases e : j = id
    · subst e
      refine ⟨fun hn => absurd (by simp) hn, ?_⟩
      simp only [Gh.regrow]
      split
      · exact .inl rfl
      · first
        | exact .inr (.inl rfl)
        | exact .inr (.inl (if_pos h0))
    · have hne : some b ≠ g := fun e' => by
        rcases (hgn b e'.symm).2 with a | a
        · rw [h0] at a
          injection a with a
          exact e a
        · exact absurd (hi.own b j h0) (by omega)
      have h1 : (G.regrow id g (sz, n + m, false)).own b = some j := by
        simp only [Gh.regrow]
        rw [if_neg hne, if_neg (fun e' => e (by rw [h0] at e'; injection e'))]
        exact h0
      exact ⟨fun _ => ⟨h1, hg.block b (hi.own b j h0) (fun e' => by have := hrow b e'.symm; rw [h0] at this; injection this with this; exact e this)⟩, .inl h1⟩
  same := fun b j cs ty h0 h1 h2 hc => by
    by_cases e : j = id
    · subst e
      obtain ⟨s1, n1, f1, f2, a1, a2⟩ := h2
      rw [hinf] at a1
      simp only [Gh.regrow, if_pos] at a2
      cases a1
      injection a2 with a2
      injection a2 with _ a2
      injection a2 with a2 _
      omega
    · refine ⟨cs, ?_, rfl⟩
      rw [hg.block b (hi.own b j h0) (fun e' => by have := hrow b e'.symm; rw [h0] at this; injection this with this; exact e this)]
      exact hc
  fz := fun b j s k h0 hf => by
    have e : j ≠ id := fun e => by subst e; rw [hinf] at hf; cases hf
    have hne : some b ≠ g := fun e' => by
      rcases (hgn b e'.symm).2 with a | a
      · rw [h0] at a
        injection a with a
        exact e a
      · exact absurd (hi.own b j h0) (by omega)
    refine ⟨?_, hg.block b (hi.own b j h0) (fun e' => by have := hrow b e'.symm; rw [h0] at this; injection this with this; exact e this)⟩
    simp only [Gh.regrow]
    rw [if_neg hne, if_neg (fun e' => e (by rw [h0] at e'; injection e'))]
    exact h0
  inf := fun j s k f hf => by
    by_cases e : j = id
    · subst e
      rw [hinf] at hf
      cases hf
      exact ⟨n + m, false, by simp [Gh.regrow], by omega, (fun e => by cases e), fun e => by omega⟩
    · refine ⟨k, f, by simp [Gh.regrow, e, hf], Nat.le_refl _, fun e => ⟨e, rfl⟩, fun _ b hb => ?_⟩
      have hne : some b ≠ g := fun e' => by
        rcases (hgn b e'.symm).2 with a | a
        · rw [hb] at a
          injection a with a
          exact e a
        · exact absurd (hi.own b j hb) (by omega)
      simp only [Gh.regrow]
      rw [if_neg hne, if_neg (fun e' => e (by rw [hb] at e'; injection e'))]
      exact hb
  out := fun j hn => by
    simp only [Gh.regrow]
    rw [if_neg (by simpa using hn)]
  new := fun b j hb h1 => by
    simp only [Gh.regrow] at h1
    split at h1
    · injection h1 with h1
      simp [h1]
    · split at h1
      · cases h1
      · exact absurd (hi.own b j h1) (by omega)
  keep := fun b j h1 => by
    simp only [Gh.regrow] at h1
    split at h1
    · rename_i e
      exact (hgn b e.symm).1
    · split at h1
      · cases h1
      · exact Nat.lt_of_lt_of_le (hi.own b j h1) hg.size
  tp := fun _ _ _ _ _ h => h
  nt := fun _ _ h _ => h
  tn := fun b hb => hi.top b (Nat.le_trans hg.size hb)

theorem RepE.append {I : Nat → Prop} {w : World} {sz : Nat} {l k : List (List CV)} {vs us : List Value} (h1 : RepE I w sz l vs) (hl : vs.length = l.length * sz) (h2 : RepE I w sz k us) : RepE I w sz (l ++ k) (vs ++ us) := by
  refine RepE.mk fun e el he => ?_
  by_cases hlt : e < l.length
  · rw [List.getElem?_append_left hlt] at he
    obtain ⟨a, b⟩ := h1.at e el he
    refine ⟨a, ?_⟩
    have hm : e * sz + sz ≤ vs.length := by rw [hl, ← Nat.succ_mul]; exact Nat.mul_le_mul_right _ hlt
    rw [List.drop_append_of_le_length (by omega)]
    have h3 := RepP.take el.length b
    rw [List.take_length] at h3
    have e1 : (vs.drop (e * sz)).take el.length = (vs.drop (e * sz) ++ us).take el.length := by
      rw [List.take_append_of_le_length (by rw [List.length_drop]; omega)]
    rw [e1] at h3
    exact h3.of_take _
  · rw [List.getElem?_append_right (by omega)] at he
    obtain ⟨a, b⟩ := h2.at _ el he
    refine ⟨a, ?_⟩
    have e1 : e * sz = vs.length + (e - l.length) * sz := by
      rw [hl, ← Nat.add_mul]
      congr 1
      omega
    rw [e1, ← List.drop_drop, List.drop_left]
    exact b

theorem RepP.one {I : Nat → Prop} {w : World} : ∀ {l : List CV} {vs : List Value}, RepP I w l vs → ∀ u ∈ vs.take l.length, u.oneCell' = true
  | [], vs, _, u, hu => by simp at hu
  | p :: ps, vs, h, u, hu => by
    simp only [RepP] at h
    obtain ⟨v, vs', rfl, h1, h2⟩ := h
    simp only [List.length_cons, List.take_succ_cons, List.mem_cons] at hu
    rcases hu with rfl | hu
    · cases p with
      | row l =>
        simp only [RepC] at h1
        obtain ⟨A, c, rfl, _⟩ := h1
        rfl
      | _ =>
        simp only [RepC] at h1
        subst h1
        rfl
    · exact RepP.one h2 u hu
theorem RepE.one {I : Nat → Prop} {w : World} {sz : Nat} : ∀ {l : List (List CV)} {vs : List Value}, RepE I w sz l vs → ∀ u ∈ vs.take (l.length * sz), u.oneCell' = true
  | [], vs, _, u, hu => by simp at hu
  | e :: es, vs, h, u, hu => by
    simp only [RepE] at h
    rw [List.length_cons, Nat.add_mul, Nat.one_mul, Nat.add_comm, List.take_add] at hu
    rcases List.mem_append.1 hu with hu | hu
    · have := h.2.1.one
      rw [h.1] at this
      exact this u hu
    · exact RepE.one h.2.2 u hu

theorem run_app {P : Program} {w : World} {t t2 ty e : TypeId} {i : TypeInfo} {z : Value} {d2 : TypeDesc} (ht : P.underlying t = some (.slice e)) (hi : P.info? e = some i) (hz : i.zero = some z) (hzs : z.cells.size = i.size)
    (h2 : P.underlying t2 = some d2) (hd : d2 = .slice e ∨ d2 = .string) {v : Value} {n : Nat} {xs : List Value} (hown : w.ownsRow 0 e i.size v n xs) {x : Value} {m : Nat} {news : List Value} (hl : news.length = m * i.size)
    (hlen : ∀ w' : World, (Builtin.lenOf x).run P w' = .ok m w') (hf : ∀ w' : World, w'.heap = w.heap → (Builtin.firstCells i.size m x).run P w' = .ok news.toArray w') (h1 : ∀ u ∈ news, u.oneCell' = true)
    (hm : 0 < m) (h63 : n + m ≤ maxLen) (hby : (n + m) * i.bytes ≤ 140737488355328) :
    ∃ g cap cur w', (Builtin.append_ #[t, t2] ty #[v, x]).run P w = .ok (.slice (some ⟨g, 0, none⟩) (n + m) cap) w' ∧ w'.heap[g]? = some (.cells cur e (0, 0)) ∧ cur.size = cap * i.size ∧ n + m ≤ cap ∧ cap ≤ maxLen ∧
      cur.toList.take ((n + m) * i.size) = xs ++ news ∧ w.grownBy w' v.ownBlock ∧ (v.ownBlock = some g ∨ g = w.heap.size) := by
  have hsmall : n + m ≤ 9223372036854775807 := by simp only [maxLen] at h63; omega
  have hxl : xs.length = n * i.size := hown.1
  have hz1 : ∀ w', (match (#[t, t2] : Array TypeId)[1]? with | some xType => do pure ((← underlying xType) matches .int _) | none => pure false : Sem Bool).run P w' = .ok false w' := fun w' => by
    rcases hd with rfl | rfl <;> simp [run_underlying h2]
  have grow : ∀ (A : Option Addr) (cap : Nat), cap < n + m → (∀ w' : World, w'.heap = w.heap → (Builtin.firstCells i.size n (.slice A n cap)).run P w' = .ok xs.toArray w') →
      (Builtin.append_ #[t, t2] ty #[.slice A n cap, x]).run P w = .ok (.slice (some ⟨w.heap.size, 0, none⟩) (n + m) (grownCap w (n + m) cap e)) (w.drew.alloc (.cells (xs.toArray ++ news.toArray ++ Builtin.zeroCells z.cells (grownCap w (n + m) cap e - (n + m))) e)) := by
    intro A cap hc hold
    have hn : ¬ (n + m ≤ cap) := by omega
    have h63' : ¬ (9223372036854775807 < ((n : Int) + (m : Int))) := by omega
    have h48' : ¬ (281474976710656 < Builtin.nextslicecap (n + m) cap * i.bytes) := by have := growslice_fits (by omega : cap < n + m) hby; omega
    have ho := hold w.drew rfl
    have hn' := hf w.drew rfl
    rcases hd with rfl | rfl
    all_goals
      simp [Builtin.append_, run_underlying ht, run_underlying h2, sizeOf, typeInfo, zeroValue, hi, hz, hlen, hn, h63', h48', Question.forced, hn', ho, newRow, grownCap]
      congr 2
      apply Array.ext'
      simp [List.append_assoc]
  have fin : ∀ (A : Option Addr) (cap : Nat), v = .slice A n cap → cap < n + m → (∀ w' : World, w'.heap = w.heap → (Builtin.firstCells i.size n (.slice A n cap)).run P w' = .ok xs.toArray w') →
      ∃ g cap cur w', (Builtin.append_ #[t, t2] ty #[v, x]).run P w = .ok (.slice (some ⟨g, 0, none⟩) (n + m) cap) w' ∧ w'.heap[g]? = some (.cells cur e (0, 0)) ∧ cur.size = cap * i.size ∧ n + m ≤ cap ∧ cap ≤ maxLen ∧
      cur.toList.take ((n + m) * i.size) = xs ++ news ∧ w.grownBy w' v.ownBlock ∧ (v.ownBlock = some g ∨ g = w.heap.size) := by
    intro A cap hv hc hold
    subst hv
    have hge := grownCap_ge w (n + m) cap e
    refine ⟨_, _, _, _, grow A cap hc hold, Go.heap_alloc_new w.drew _, ?_, hge, grownCap_le_maxLen w (n + m) cap e h63, ?_, ⟨rfl, rfl, rfl, by simp, fun k hk _ => Below.heap_alloc w.drew _ k hk⟩, .inr rfl⟩
    · simp only [Array.size_append, List.size_toArray, size_zeroCells, hzs, hxl, hl, ← Nat.add_mul]
      congr 1
      omega
    · have : (n + m) * i.size = (xs ++ news).length := by rw [List.length_append, hxl, hl, Nat.add_mul]
      rw [this]
      simp only [Array.toList_append, List.append_assoc]
      rw [← List.append_assoc]
      exact List.take_left
  rcases hown.2 with ⟨hv, hn0⟩ | ⟨g, cap, cur, hv, _, hg, hnc, hcm, hcs, htake⟩
  · subst hn0
    have hx : xs = [] := List.eq_nil_of_length_eq_zero (by simpa using hxl)
    subst hx
    exact fin none 0 hv (by omega) (fun w' _ => run_firstCells_none (P := P) w' _ _ _ _)
  · by_cases hroom : n + m ≤ cap
    · have hfit : n * i.size + news.length ≤ cur.size := by rw [hl, hcs, ← Nat.add_mul]; exact Nat.mul_le_mul_right _ hroom
      have hst := run_storeCells_at P g (n * i.size) e news 0 cur w hg (by simpa using hfit) h1
      simp only [Nat.add_zero] at hst
      have hn' := hf w rfl
      subst hv
      have hrun : (Builtin.append_ #[t, t2] ty #[.slice (some ⟨g, 0, none⟩) n cap, x]).run P w = .ok (.slice (some ⟨g, 0, none⟩) (n + m) cap) (w.setRow g (cur.toList.take (n * i.size) ++ news ++ cur.toList.drop (n * i.size + news.length)).toArray) := by
        rcases hd with rfl | rfl <;> simp [Builtin.append_, run_underlying ht, run_underlying h2, sizeOf, typeInfo, hi, hlen, hroom, hn', Addr.add_lit, hst]
      refine ⟨g, cap, _, _, hrun, setRow_heap w g cur _ e _ hg, ?_, hroom, hcm, ?_, ⟨rfl, rfl, rfl, by simp, fun k _ hk => setRow_other w g k _ (fun e => hk (by simp [Value.ownBlock, e]))⟩, .inl rfl⟩
      · simp only [List.size_toArray, List.length_append, List.length_take, List.length_drop, Array.length_toList]
        omega
      · have : (n + m) * i.size = (xs ++ news).length := by rw [List.length_append, hxl, hl, Nat.add_mul]
        rw [this, htake]
        exact List.take_left
    · refine fin (some ⟨g, 0, none⟩) cap hv (by omega) (fun w' hw' => ?_)
      have hg' : w'.heap[g]? = some (.cells cur e (0, 0)) := by rw [hw']; exact hg
      refine run_firstCells_some (P := P) w' i.size n ⟨g, 0, none⟩ n cap xs hxl (fun j u hu => ?_)
      rw [Addr.add_mid, Nat.zero_add, cell_of_row w' g j cur e (0, 0) hg']
      rw [← htake, List.getElem?_take] at hu
      split at hu
      · simpa using hu
      · cases hu

theorem owns_of {G : Gh} {w : World} {id n sz : Nat} {ty : TypeId} {fz : Bool} {els : List (List CV)} {v : Value} (r : RelB G w id (some (.arr sz ty fz els))) (hn : n = els.length) (p : Reps G w (.own id n) v) :
    ∃ xs, w.ownsRow 0 ty sz v n xs ∧ RepE G.imm w sz els xs ∧ (∀ b, v.ownBlock = some b → G.own b = some id) ∧ xs.length = n * sz := by
  obtain ⟨r1, r2, r3, r4⟩ := r
  simp only [Reps] at p
  obtain ⟨sz', m, f, p1, _, _, p2⟩ := p
  rw [r1] at p1
  injection p1 with p1
  injection p1 with p1 p3
  injection p3 with p3 p4
  subst p1 p3
  rcases p2 with p2 | ⟨_, p2⟩
  · omega
  · rcases p2 with ⟨rfl, p2⟩ | ⟨b, c, cs, ty', rfl, p5, p6, p7, p8, p9⟩
    · have : els = [] := List.eq_nil_of_length_eq_zero (by omega)
      subst this
      subst p2
      exact ⟨[], World.ownsRow_nil w 0 ty sz, by simp [RepE], (fun b hb => by cases hb), by simp⟩
    · rcases r4 with ⟨r5, r6⟩ | ⟨b', cs', r5, r6, r7, r8⟩
      · exact absurd p5.1 (r6 b)
      · have := r3 b b' p5.1 r5.1
        subst this
        rw [r6] at p6
        injection p6 with p6
        injection p6 with p6 p10
        subst p6 p10
        have hle : n * sz ≤ cs'.size := by rw [hn]; exact r7
        refine ⟨cs'.toList.take (n * sz), ⟨by rw [List.length_take, Array.length_toList]; omega, .inr ⟨b, c, cs', rfl, Nat.zero_le _, r6, p8, p9, p7, rfl⟩⟩, ?_, fun x hx => ?_, by rw [List.length_take, Array.length_toList]; omega⟩
        · exact r8.keep (n * sz) (by rw [hn]; exact Nat.le_refl _) (by rw [List.take_take, Nat.min_self])
        · simp only [Value.ownBlock, Option.some.injEq] at hx
          subst hx
          exact r5.1

theorem owns_top {G : Gh} {w : World} {id sz g : Nat} {ty : TypeId} {fz : Bool} {els : List (List CV)} {v : Value} (r : RelB G w id (some (.arr sz ty fz els))) (p : Reps G w (.own id els.length) v) (hv : v.ownBlock = some g) : G.top g := by
  obtain ⟨r1, r2, r3, r4⟩ := r
  simp only [Reps] at p
  obtain ⟨sz', m, f, p1, _, _, p2⟩ := p
  rw [r1] at p1
  injection p1 with p1
  injection p1 with p1 p3
  injection p3 with p3 p4
  subst p1 p3
  rcases p2 with p2 | ⟨_, p2⟩
  · omega
  · rcases p2 with ⟨rfl, p2⟩ | ⟨b, c, cs, ty', rfl, p5, p6, p7, p8, p9⟩
    · cases hv
    · simp only [Value.ownBlock, Option.some.injEq] at hv
      subst hv
      exact p5.2
theorem own_end {G : Gh} {w w' : World} {id n k sz g cap : Nat} {ty : TypeId} {els els2 : List (List CV)} {v : Value} {xs news : List Value} {cur : Array Value} (hi : Inv G w) (hsz : 0 < sz) (hinf : G.inf id = some (sz, n, false)) (hn : n = els.length) (hk : k = els2.length) (hk0 : 0 < k)
    (hxs : RepE G.imm w sz els xs) (hxl : xs.length = n * sz) (hne : RepE G.imm w sz els2 news) (hg' : w'.heap[g]? = some (.cells cur ty (0, 0))) (hcs : cur.size = cap * sz) (hle : n + k ≤ cap) (hcm : cap ≤ maxLen) (htk : cur.toList.take ((n + k) * sz) = xs ++ news)
    (hg : w.grownBy w' v.ownBlock) (hv : ∀ b, v.ownBlock = some b → G.own b = some id) (hgg : v.ownBlock = some g ∨ g = w.heap.size) (ht : G.top g) :
    ∃ G', Ext [id] G w G' w' ∧ Reps G' w' (.own id (n + k)) (.slice (some ⟨g, 0, none⟩) (n + k) cap) ∧ RelB G' w' id (some (.arr sz ty false (els ++ els2))) := by
  have hb : g < w'.heap.size := (Array.getElem?_eq_some_iff.1 hg').1
  have X := ext_regrow (g := some g) hi hinf hk0 hg hv (fun b hb' => by
    injection hb' with hb'
    subst hb'
    refine ⟨hb, ?_⟩
    rcases hgg with a | a
    · exact .inl (hv g a)
    · exact .inr (by omega))
  have h1 : (G.regrow id (some g) (sz, n + k, false)).own g = some id := by simp [Gh.regrow]
  have h2 : (G.regrow id (some g) (sz, n + k, false)).inf id = some (sz, n + k, false) := by simp [Gh.regrow]
  have h3 : ∀ b, (G.regrow id (some g) (sz, n + k, false)).own b = some id → b = g := fun b hb' => by
    simp only [Gh.regrow] at hb'
    split at hb'
    · rename_i e
      injection e
    · split at hb'
      · cases hb'
      · rename_i e
        exact absurd hb' e
  have hm : (n + k) * sz ≤ cur.size := by rw [hcs]; exact Nat.mul_le_mul_right _ hle
  refine ⟨_, X, ?_, by rw [h2, List.length_append, hn, hk], hsz, fun b b' e e' => by rw [h3 b e, h3 b' e'], .inr ⟨g, cur, ⟨h1, ht⟩, hg', by rw [List.length_append, ← hn, ← hk]; exact hm, ?_⟩⟩
  · simp only [Reps]
    exact ⟨_, _, _, h2, hsz, rfl, .inr ⟨rfl, .inr ⟨g, cap, cur, ty, rfl, ⟨h1, ht⟩, hg', hcs, hle, hcm⟩⟩⟩
  · refine RepE.keep (vs := xs ++ news) (RepE.mono (imm_old X hi) sz _ _ (hxs.append (by rw [hxl, hn]) hne)) ((n + k) * sz) (by rw [List.length_append, ← hn, ← hk]; exact Nat.le_refl _) ?_
    have hlen : (xs ++ news).length = (n + k) * sz := by
      have := congrArg List.length htk
      rw [List.length_take, Array.length_toList] at this
      omega
    rw [htk, ← hlen, List.take_length]

/-! ### where the new elements come from -/
def SliceSrc (G : Gh) (w : World) (els : List (List CV)) (v : Value) : Prop :=
  ∃ A c, v = .slice A els.length c ∧ els.length ≤ c ∧ els.length ≤ maxLen ∧ (els = [] ∨ ∃ b o sz cs ty fr, A = some ⟨b, o, none⟩ ∧ w.heap[b]? = some (.cells cs ty fr) ∧ 0 < sz ∧ RepE G.imm w sz els (cs.toList.drop o))

theorem rowOf_ok {q : PV} {R : List (List CV) → List Nat → Prop} (hk : rowOf h q R) : ∃ els rd, R els rd ∧ ∀ (G : Gh) (w : World) (v : Value), Inv G w → Reps G w q v → (∀ id ∈ rd, RelB G w id (nthB h id)) → SliceSrc G w els v := by
  unfold rowOf at hk
  cases q with
  | v c =>
    cases c with
    | row l =>
      refine ⟨_, _, hk, fun G w v hi hr _ => ?_⟩
      simp only [Reps, RepC] at hr
      obtain ⟨A, c, h1, h2, h3, h4⟩ := hr
      refine ⟨A, c, h1, h2, h3, ?_⟩
      rcases h4 with h4 | ⟨b, o, sz, cs, ty, fr, h5, h6, h7, h8, h9⟩
      · exact .inl h4
      · exact .inr ⟨b, o, sz, cs, ty, fr, h5, h7, h8, h9⟩
    | _ => exact hk.elim
  | nil =>
    refine ⟨_, _, hk, fun G w v hi hr _ => ?_⟩
    simp only [Reps] at hr
    subst hr
    exact ⟨none, 0, rfl, by simp, by simp [maxLen], .inl rfl⟩
  | own id n =>
    simp only at hk
    cases hb : nthB h id with
    | none => rw [hb] at hk; exact hk.elim
    | some B =>
      rw [hb] at hk
      cases B with
      | box _ _ => exact hk.elim
      | tree _ _ _ _ => exact hk.elim
      | junk => exact hk.elim
      | arr sz ty fz els =>
        obtain ⟨hn, hk⟩ := hk
        refine ⟨_, _, hk, fun G w v hi hr hrd => ?_⟩
        have r := hrd id (by simp)
        rw [hb] at r
        obtain ⟨r1, r2, r3, r4⟩ := r
        simp only [Reps] at hr
        obtain ⟨sz', m, f, p1, _, _, p2⟩ := hr
        rw [r1] at p1
        injection p1 with p1
        injection p1 with p1 p3
        injection p3 with p3 p4
        subst p1 p3
        rcases p2 with p2 | ⟨_, p2⟩
        · omega
        · rcases p2 with ⟨rfl, p2⟩ | ⟨b, c, cs, ty', rfl, p5, p6, p7, p8, p9⟩
          · have : els = [] := List.eq_nil_of_length_eq_zero (by omega)
            subst this
            exact ⟨none, 0, rfl, by simp, by simp [maxLen], .inl rfl⟩
          · refine ⟨some ⟨b, 0, none⟩, c, by rw [hn], by omega, Nat.le_trans (by omega) p9, ?_⟩
            rcases r4 with ⟨r5, _⟩ | ⟨b', cs', r5, r6, r7, r8⟩
            · exact .inl r5
            · have := r3 b b' p5.1 r5.1
              subst this
              exact .inr ⟨b, 0, sz, cs', ty, (0, 0), rfl, r6, r2, by simpa using r8⟩
  | _ => exact hk.elim

/-- What an append reads of its second operand. -/
def SrcOk (P : Program) (G : Gh) (w : World) (t2 e sz : Nat) (els : List (List CV)) (x : Value) : Prop :=
  ∃ d2 news, P.underlying t2 = some d2 ∧ (d2 = .slice e ∨ d2 = .string) ∧ news.length = els.length * sz ∧ (∀ w' : World, (Builtin.lenOf x).run P w' = .ok els.length w') ∧
    (∀ w' : World, w'.heap = w.heap → (Builtin.firstCells sz els.length x).run P w' = .ok news.toArray w') ∧ (∀ u ∈ news, u.oneCell' = true) ∧ RepE G.imm w sz els news

theorem str_rep (I : Nat → Prop) (w : World) : ∀ l : List UInt8, RepE I w 1 ((l.map fun b => (b.toNat : Int)).map fun b => [CV.i .u8 b]) (l.map fun b => Value.int .u8 b.toNat)
  | [] => by simp [RepE]
  | b :: r => by
    simp only [List.map_cons, RepE, RepP, RepC]
    refine ⟨rfl, ⟨_, _, rfl, rfl, trivial⟩, ?_⟩
    simpa using str_rep I w r

theorem src_ok {sz t t2 e : Nat} {i2 : TI} {q : PV} {R : List (List CV) → List Nat → Prop} (hf2 : TyFact E.P t2 i2) (ht : E.P.underlying t = some (.slice e)) (hk : aSrc h sz t t2 i2.k q R) : ∃ els rd, R els rd ∧
    ((0 < sz ∧ ∀ x ∈ els, x.length = sz) → ∀ (G : Gh) (w : World) (v : Value), Inv G w → Reps G w q v → (∀ id ∈ rd, RelB G w id (nthB h id)) → SrcOk E.P G w t2 e sz els v) := by
  have h2 := hf2.2.1
  unfold aSrc at hk
  split at hk
  · rename_i k2 q2 x hk2
    rw [hk2] at h2
    obtain ⟨hs, hk⟩ := hk
    subst hs
    refine ⟨_, _, hk, fun _ G w v hi hr _ => ?_⟩
    simp only [Reps, RepC] at hr
    subst hr
    have hlen : ((bytesOf x).map fun b => [CV.i .u8 b]).length = x.size := by rw [List.length_map, bytesOf_length]
    refine ⟨.string, x.data.toList.map (fun b => Value.int .u8 b.toNat), h2, .inr rfl, ?_, fun w' => ?_, fun w' _ => ?_, ?_, ?_⟩
    · rw [hlen, List.length_map, Nat.mul_one]
      rfl
    · rw [hlen]
      simp [Builtin.lenOf]
    · rw [hlen]
      simp only [Builtin.firstCells, Sem.run_pure]
      congr 1
      apply Array.ext'
      simp
    · intro u hu
      obtain ⟨b, _, rfl⟩ := List.mem_map.1 hu
      rfl
    · exact str_rep G.imm w _
  · rename_i k2 q2 e2 q3 hk2
    obtain ⟨rfl, hk⟩ := hk
    obtain ⟨els, rd, h3, h4⟩ := rowOf_ok hk
    refine ⟨els, rd, h3, fun hsz G w v hi hr hrd => ?_⟩
    obtain ⟨A, c, rfl, h5, h6, h7⟩ := h4 G w v hi hr hrd
    rcases h7 with rfl | ⟨b, o, sz', cs, ty, fr, rfl, h8, h9, h10⟩
    · refine ⟨_, [], ht, .inl rfl, by simp, fun w' => by simp [Builtin.lenOf], fun w' _ => ?_, by simp, by simp [RepE]⟩
      cases A with
      | none => exact run_firstCells_none (P := E.P) w' _ _ _ _
      | some a => exact run_firstCells_some (P := E.P) w' _ _ a _ _ [] (by simp) (fun j u hu => by simp at hu)
    · by_cases he : els = []
      · subst he
        refine ⟨_, [], ht, .inl rfl, by simp, fun w' => by simp [Builtin.lenOf], fun w' _ => ?_, by simp, by simp [RepE]⟩
        exact run_firstCells_some (P := E.P) w' _ _ _ _ _ [] (by simp) (fun j u hu => by simp at hu)
      · obtain ⟨y, hy⟩ := List.exists_mem_of_ne_nil els he
        have e1 : sz' = sz := (h10.size y hy).symm.trans (hsz.2 y hy)
        subst e1
        have hl := h10.len h9
        rw [List.length_drop, Array.length_toList] at hl
        refine ⟨_, (cs.toList.drop o).take (els.length * sz'), ht, .inl rfl, ?_, fun w' => by simp [Builtin.lenOf], fun w' hw' => ?_, h10.one, ?_⟩
        · rw [List.length_take, List.length_drop, Array.length_toList]
          omega
        · refine run_firstCells_some (P := E.P) w' _ _ _ _ _ _ (by rw [List.length_take, List.length_drop, Array.length_toList]; omega) (fun j u hu => ?_)
          rw [Addr.add_mid]
          exact range_of (by rw [hw']; exact h8) _ j u hu
        · exact h10.keep (els.length * sz') (Nat.le_refl _) (by rw [List.take_take, Nat.min_self])
  · exact hk.elim

def Gh.name (G : Gh) (id : Nat) (r : Nat × Nat × Bool) : Gh := { G with inf := fun x => if x = id then some r else G.inf x }
theorem ext_name {G : Gh} {w : World} (hi : Inv G w) (id : Nat) (r : Nat × Nat × Bool) (h0 : RelB G w id none) : Ext [id] G w (G.name id r) w where
  os := rfl
  tape := rfl
  output := rfl
  size := Nat.le_refl _
  base := rfl
  old := rfl
  nn := fun b _ h => ⟨h, rfl⟩
  sm := fun b i h => ⟨fun _ => ⟨h, rfl⟩, .inl h⟩
  same := fun b i cs ty _ _ _ h => ⟨cs, h, rfl⟩
  fz := fun b i sz n h _ => ⟨h, rfl⟩
  inf := fun i sz n f hf => by
    refine ⟨n, f, ?_, Nat.le_refl _, fun e => ⟨e, rfl⟩, fun _ b hb => hb⟩
    simp only [Gh.name]
    rw [if_neg]
    · exact hf
    · intro e
      subst e
      rw [h0.1] at hf
      cases hf
  out := fun i hn => by
    simp only [Gh.name]
    rw [if_neg (by simpa using hn)]
  new := fun b i h1 h2 => absurd (hi.own b i h2) (by omega)
  keep := hi.own
  tp := fun _ _ _ _ _ h => h
  nt := fun _ _ h _ => h
  tn := hi.top
theorem name_nil {G : Gh} {w : World} (hi : Inv G w) {id sz : Nat} (hsz : 0 < sz) (ty : TypeId) (h0 : RelB G w id none) :
    RelB (G.name id (sz, 0, false)) w id (some (.arr sz ty false [])) ∧ Reps (G.name id (sz, 0, false)) w (.own id 0) (.slice none 0 0) := by
  refine ⟨⟨by simp [Gh.name], hsz, fun b b' e => absurd e (h0.2 b), .inl ⟨rfl, h0.2⟩⟩, ?_⟩
  simp only [Reps]
  exact ⟨sz, 0, false, by simp [Gh.name], hsz, rfl, .inr ⟨rfl, .inl ⟨rfl, rfl⟩⟩⟩

theorem run_app0 {P : Program} {w : World} {t t2 ty e : TypeId} {i : TypeInfo} {d2 : TypeDesc} (ht : P.underlying t = some (.slice e)) (hi : P.info? e = some i)
    (h2 : P.underlying t2 = some d2) (hd : d2 = .slice e ∨ d2 = .string) {v : Value} {n : Nat} {xs : List Value} (hown : w.ownsRow 0 e i.size v n xs) {x : Value}
    (hlen : ∀ w' : World, (Builtin.lenOf x).run P w' = .ok 0 w') (hf : ∀ w' : World, w'.heap = w.heap → (Builtin.firstCells i.size 0 x).run P w' = .ok #[] w') :
    (Builtin.append_ #[t, t2] ty #[v, x]).run P w = .ok v w := by
  have hn' := hf w rfl
  have h3 : ∃ A c, v = .slice A n c ∧ n ≤ c := by
    rcases hown.2 with ⟨rfl, rfl⟩ | ⟨g, cap, cur, rfl, _, _, hnc, _⟩
    · exact ⟨none, 0, rfl, Nat.le_refl _⟩
    · exact ⟨_, cap, rfl, hnc⟩
  obtain ⟨A, c, rfl, hc⟩ := h3
  rcases hd with rfl | rfl <;> cases A <;> simp [Builtin.append_, run_underlying ht, run_underlying h2, sizeOf, typeInfo, hi, hlen, hc, hn', storeCells]

theorem append_core {w : World} {G : Gh} {t t2 ty id n sz : Nat} {j : TI} {e : Nat} {els els2 : List (List CV)} {v x : Value} (hi : Inv G w) (ht : E.P.underlying t = some (.slice e)) (hj : TyFact E.P e j) (hsz : sz = j.size) (hz : 0 < sz)
    (r : RelB G w id (some (.arr sz e false els))) (hn : n = els.length) (hv : Reps G w (.own id n) v) (hx : SrcOk E.P G w t2 e sz els2 x) (h63 : els.length + els2.length ≤ maxLen) (hby : (els.length + els2.length) * j.bytes ≤ 140737488355328) :
    ∃ v' w' G', (Builtin.append_ #[t, t2] ty #[v, x]).run E.P w = .ok v' w' ∧ Ext [id] G w G' w' ∧ Reps G' w' (.own id (els.length + els2.length)) v' ∧ RelB G' w' id (some (.arr sz e false (els ++ els2))) := by
  obtain ⟨inf, hi1, hi2, hi3, hi4⟩ := hj.info
  obtain ⟨xs, h1, h2, h3, h4⟩ := owns_of r hn hv
  obtain ⟨d2, news, s1, s2, s3, s4, s5, s6, s7⟩ := hx
  have hsz' : inf.size = sz := by rw [hi2, hsz]
  rw [← hsz'] at h1 s3 s5
  by_cases hm : els2 = []
  · subst hm
    have hnews : news = [] := List.eq_nil_of_length_eq_zero (by simpa using s3)
    subst hnews
    refine ⟨v, w, G, run_app0 ht hi1 s1 s2 h1 (by simpa using s4) (by simpa using s5), Ext.refl hi _, ?_, by rw [List.append_nil]; exact r⟩
    rw [List.length_nil, Nat.add_zero, ← hn]
    exact hv
  · have hm0 : 0 < els2.length := List.length_pos_iff.2 hm
    obtain ⟨g, cap, cur, w', a1, a2, a3, a4, a5, a6, a7, a8⟩ := run_app ht hi1 hi4 (by rw [hj.2.2, hi2]) s1 s2 h1 s3 s4 s5 s6 hm0 (by rw [hn]; exact h63) (by rw [hn, hi3]; exact hby)
    rw [hsz'] at a3 a6
    obtain ⟨G', b1, b2, b3⟩ := own_end hi hz (by rw [hn]; exact r.1) hn rfl hm0 h2 h4 s7 a2 a3 a4 a5 a6 a7 h3 a8 (by
      rcases a8 with a8 | a8
      · exact owns_top r (hn ▸ hv) a8
      · rw [a8]; exact hi.top _ (Nat.le_refl _))
    rw [hn] at b2 a1
    exact ⟨_, w', G', a1, b1, b2, b3⟩
/-! ### trees -/
noncomputable def Gh.regrowT (G : Gh) (id g : Nat) (r : Nat × Nat × Bool) : Gh :=
  { G with own := fun x => if x = g then some id else @ite _ (G.own x = some id ∧ G.top x) (Classical.propDecidable _) none (G.own x), inf := fun x => if x = id then some r else G.inf x }
theorem regrowT_far {G : Gh} {id g b : Nat} {r : Nat × Nat × Bool} (h1 : b ≠ g) (h2 : ¬ (G.own b = some id ∧ G.top b)) : (G.regrowT id g r).own b = G.own b := by
  simp only [Gh.regrowT]
  rw [if_neg h1, if_neg h2]
theorem ext_regrowT {G : Gh} {w w' : World} (hi : Inv G w) {id sz n m g : Nat} {row : Option Nat} (hinf : G.inf id = some (sz, n, false)) (hm : 0 < m) (hg : w.grownBy w' row) (hrow : ∀ b, row = some b → G.own b = some id ∧ G.top b)
    (hlt : g < w'.heap.size) (hgn : row = some g ∨ g = w.heap.size) : Ext [id] G w (G.regrowT id g (sz, n + m, false)) w' := by
  have hne : ∀ b j, G.own b = some j → j ≠ id → b ≠ g := fun b j h0 e e' => by
    subst e'
    rcases hgn with a | a
    · have := (hrow b a).1
      rw [h0] at this
      injection this with this
      exact e this
    · exact absurd (hi.own b j h0) (by omega)
  have hsame : ∀ b j, G.own b = some j → j ≠ id → (G.regrowT id g (sz, n + m, false)).own b = some j ∧ w'.heap[b]? = w.heap[b]? := fun b j h0 e => by
    refine ⟨by rw [regrowT_far (hne b j h0 e) (fun q => e (by rw [h0] at q; injection q.1))]; exact h0, hg.block b (hi.own b j h0) (fun e' => ?_)⟩
    have := (hrow b e'.symm).1
    rw [h0] at this
    injection this with this
    exact e this
  constructor
  · exact hg.os
  · exact hg.tape
  · exact hg.output
  · exact hg.size
  · rfl
  · rfl
  · intro b hb h0
    have h1 : b ≠ g := fun e => by
      subst e
      rcases hgn with a | a
      · have := (hrow b a).1; rw [h0] at this; cases this
      · omega
    refine ⟨by rw [regrowT_far h1 (fun q => by rw [h0] at q; cases q.1)]; exact h0, hg.block b hb (fun e => ?_)⟩
    have := (hrow b e.symm).1
    rw [h0] at this
    cases this
  · intro b j h0
    by_cases e : j = id
    · subst e
      refine ⟨fun hn => absurd (by simp) hn, ?_⟩
      simp only [Gh.regrowT]
      by_cases h1 : b = g
      · exact .inl (by rw [if_pos h1])
      · rw [if_neg h1]
        by_cases h2 : G.own b = some j ∧ G.top b
        · exact .inr (.inl (by rw [if_pos h2]))
        · exact .inl (by rw [if_neg h2]; exact h0)
    · exact ⟨fun _ => hsame b j h0 e, .inl (hsame b j h0 e).1⟩
  · intro b j cs ty h0 h1 h2 hc
    by_cases e : j = id
    · subst e
      obtain ⟨s1, n1, f1, f2, a1, a2⟩ := h2
      rw [hinf] at a1
      simp only [Gh.regrowT, if_pos] at a2
      cases a1
      injection a2 with a2
      injection a2 with _ a2
      injection a2 with a2 _
      omega
    · exact ⟨cs, (hsame b j h0 e).2.trans hc, rfl⟩
  · intro b j s k h0 hf
    have e : j ≠ id := fun e => by subst e; rw [hinf] at hf; cases hf
    exact hsame b j h0 e
  · intro j s k f hf
    by_cases e : j = id
    · subst e
      rw [hinf] at hf
      cases hf
      exact ⟨n + m, false, by simp [Gh.regrowT], by omega, (fun e => by cases e), fun e => by omega⟩
    · exact ⟨k, f, by simp [Gh.regrowT, e, hf], Nat.le_refl _, fun e => ⟨e, rfl⟩, fun _ b hb => (hsame b j hb e).1⟩
  · intro j hn
    simp only [Gh.regrowT]
    rw [if_neg (by simpa using hn)]
  · intro b j hb h1
    by_cases h2 : b = g
    · simp only [Gh.regrowT] at h1
      rw [if_pos h2] at h1
      injection h1 with h1
      simp [h1]
    · simp only [Gh.regrowT] at h1
      rw [if_neg h2] at h1
      by_cases h3 : G.own b = some id ∧ G.top b
      · rw [if_pos h3] at h1
        cases h1
      · rw [if_neg h3] at h1
        exact absurd (hi.own b j h1) (by omega)
  · intro b j h1
    by_cases h2 : b = g
    · subst h2
      exact hlt
    · simp only [Gh.regrowT] at h1
      rw [if_neg h2] at h1
      by_cases h3 : G.own b = some id ∧ G.top b
      · rw [if_pos h3] at h1
        cases h1
      · rw [if_neg h3] at h1
        exact Nat.lt_of_lt_of_le (hi.own b j h1) hg.size
  · exact fun _ _ _ _ _ h => h
  · exact fun _ _ h _ => h
  · exact fun b hb => hi.top b (Nat.le_trans hg.size hb)
theorem InnR.grown {G : Gh} {w w' : World} (hi : Inv G w) {id g : Nat} {r : Nat × Nat × Bool} {row : Option Nat} (hg : w.grownBy w' row) (hrow : ∀ b, row = some b → G.own b = some id ∧ G.top b) (ht : G.top g) {ty2 : TypeId} {l : List (List CV)} {v : Value} (q : InnR G w id ty2 l v) : InnR (G.regrowT id g r) w' id ty2 l v := by
  rcases q with q | ⟨b', c, cs, h1, h2, h3, h4, h5⟩
  · exact .inl q
  · refine .inr ⟨b', c, cs, h1, ?_, h3, (hg.block b' (hi.own b' id h2) (fun e => h3 (hrow b' e.symm).2)).trans h4, h5.1, h5.2.1, h5.2.2.1, RepE.mono (fun _ _ _ e => e.elim) 1 l _ h5.2.2.2⟩
    rw [regrowT_far (fun e => h3 (by rw [e]; exact ht)) (fun q => h3 q.2)]
    exact h2
theorem owns_of_tree {G : Gh} {w : World} {id n sz : Nat} {ty ty2 : TypeId} {els : List (List CV)} {v : Value} (r : RelB G w id (some (.tree sz ty ty2 els))) (hn : n = els.length) (p : Reps G w (.own id n) v) :
    ∃ xs, w.ownsRow 0 ty sz v n xs ∧ (∀ x ∈ els, x.length = sz) ∧ TrP G w id ty2 els.flatten xs ∧ (blkP els.flatten xs).Nodup ∧ (∀ b, v.ownBlock = some b → G.own b = some id ∧ G.top b) ∧ xs.length = n * sz := by
  obtain ⟨r1, r2, r3, r4⟩ := r
  simp only [Reps] at p
  obtain ⟨sz', m, f, p1, _, _, p2⟩ := p
  rw [r1] at p1
  injection p1 with p1
  injection p1 with p1 p3
  injection p3 with p3 p4
  subst p1 p3
  rcases p2 with p2 | ⟨_, p2⟩
  · omega
  · rcases p2 with ⟨rfl, p2⟩ | ⟨b, c, cs, ty', rfl, p5, p6, p7, p8, p9⟩
    · have : els = [] := List.eq_nil_of_length_eq_zero (by omega)
      subst this
      subst p2
      exact ⟨[], World.ownsRow_nil w 0 ty sz, by simp, by simp [TrP], by simp [blkP], (fun b hb => by cases hb), by simp⟩
    · rcases r4 with ⟨r5, r6⟩ | ⟨b', cs', r5, r6, r7, r0, r8, r9⟩
      · exact absurd p5.2 (r6 b p5.1)
      · have := r3 b b' p5.1 p5.2 r5.1 r5.2
        subst this
        rw [r6] at p6
        injection p6 with p6
        injection p6 with p6 p10
        subst p6 p10
        have hle : n * sz ≤ cs'.size := by rw [hn]; exact r7
        have hk : (cs'.toList.take (n * sz)).take els.flatten.length = cs'.toList.take els.flatten.length := by rw [flatten_len r0, ← hn, List.take_take, Nat.min_self]
        refine ⟨cs'.toList.take (n * sz), ⟨by rw [List.length_take, Array.length_toList]; omega, .inr ⟨b, c, cs', rfl, Nat.zero_le _, r6, p8, p9, p7, rfl⟩⟩, r0, r8.keep hk, by rw [blkP_keep hk]; exact r9, fun x hx => ?_, by rw [List.length_take, Array.length_toList]; omega⟩
        simp only [Value.ownBlock, Option.some.injEq] at hx
        subst hx
        exact r5
theorem firstCells_of {P : Program} {w : World} {ty sz n : Nat} {v : Value} {xs : List Value} (h : w.ownsRow 0 ty sz v n xs) : (∀ w' : World, (Builtin.lenOf v).run P w' = .ok n w') ∧ ∀ w' : World, w'.heap = w.heap → (Builtin.firstCells sz n v).run P w' = .ok xs.toArray w' := by
  rcases h.2 with ⟨rfl, rfl⟩ | ⟨g, cap, cur, rfl, _, hg, hnc, hcm, hcs, htake⟩
  · have hx : xs = [] := List.eq_nil_of_length_eq_zero (by simpa using h.1)
    subst hx
    exact ⟨fun w' => by simp [Builtin.lenOf], fun w' _ => run_firstCells_none (P := P) w' _ _ _ _⟩
  · refine ⟨fun w' => by simp [Builtin.lenOf], fun w' hw' => ?_⟩
    have hg' : w'.heap[g]? = some (.cells cur ty (0, 0)) := by rw [hw']; exact hg
    refine run_firstCells_some (P := P) w' sz n ⟨g, 0, none⟩ n cap xs h.1 (fun j u hu => ?_)
    rw [Addr.add_mid, Nat.zero_add, cell_of_row w' g j cur ty (0, 0) hg']
    rw [← htake, List.getElem?_take] at hu
    split at hu
    · simpa using hu
    · cases hu
theorem append_tree {w : World} {G : Gh} {t ty id id3 n sz sz3 : Nat} {j : TI} {e ty3 ty2 : Nat} {els els3 : List (List CV)} {v x : Value} (hi : Inv G w) (ht : E.P.underlying t = some (.slice e)) (hj : TyFact E.P e j) (hsz : sz = j.size) (hsz3 : sz3 = j.size) (hz : 0 < sz) (hne : id3 ≠ id)
    (r : RelB G w id (some (.tree sz e ty2 els))) (r3 : RelB G w id3 (some (.tree sz3 ty3 ty2 els3))) (hn : n = els.length) (hv : Reps G w (.own id n) v) (hx : Reps G w (.own id3 els3.length) x) (h63 : els.length + els3.length ≤ maxLen) (hby : (els.length + els3.length) * j.bytes ≤ 140737488355328) :
    ∃ v' w' G', (Builtin.append_ #[t, t] ty #[v, x]).run E.P w = .ok v' w' ∧ Ext [id, id3] G w G' w' ∧ Reps G' w' (.own id (els.length + els3.length)) v' ∧ RelB G' w' id (some (.tree sz e ty2 (els ++ els3))) ∧ RelB G' w' id3 (some .junk) := by
  obtain ⟨inf, hi1, hi2, hi3, hi4⟩ := hj.info
  obtain ⟨xs, h1, h0, h2, h2n, h3, h4⟩ := owns_of_tree r hn hv
  obtain ⟨news, k1, k0, k2, k2n, k3, k4⟩ := owns_of_tree r3 rfl hx
  have hsz' : inf.size = sz := by rw [hi2, hsz]
  have hsz3' : sz3 = sz := by rw [hsz3, hsz]
  subst hsz3'
  obtain ⟨s4, s5⟩ := firstCells_of (P := E.P) k1
  have X0 := ext_absorb hi r3.1 hne
  have hi0 := hi.ext X0
  have ra := r.absorb hne
  have hjk := junk_absorb (w := w) (d := id) r3.1
  by_cases hm : els3 = []
  · subst hm
    have hnews : news = [] := List.eq_nil_of_length_eq_zero (by simpa using k4)
    subst hnews
    rw [← hsz'] at h1
    refine ⟨v, w, G.absorb id3 id, run_app0 ht hi1 ht (.inl rfl) h1 (by simpa using s4) (by rw [hsz']; simpa using s5), X0, ?_, by rw [List.append_nil]; exact ra, hjk⟩
    rw [List.length_nil, Nat.add_zero, ← hn]
    exact Reps.ext X0 hi _ _ hv
  · have hm0 : 0 < els3.length := List.length_pos_iff.2 hm
    have hone : ∀ u ∈ news, u.oneCell' = true := by
      have := k2.one
      rwa [flatten_len k0, ← k4, List.take_length] at this
    rw [← hsz'] at h1
    obtain ⟨g, cap, cur, w', a1, a2, a3, a4, a5, a6, a7, a8⟩ := run_app (ty := ty) ht hi1 hi4 (by rw [hj.2.2, hi2]) ht (.inl rfl) h1 (by rw [hsz']; exact k4) s4 (by rw [hsz']; exact s5) hone hm0 (by rw [hn]; exact h63) (by rw [hn, hi3]; exact hby)
    rw [hsz'] at a3 a6
    have hab : ∀ b, G.own b = some id → (G.absorb id3 id).own b = some id := fun b hb => by
      simp only [Gh.absorb]
      rw [if_neg (by rw [hb]; simpa using (Ne.symm hne))]
      exact hb
    have hrow : ∀ b, v.ownBlock = some b → (G.absorb id3 id).own b = some id ∧ (G.absorb id3 id).top b := fun b hb => by
      obtain ⟨q1, q2⟩ := h3 b hb
      exact ⟨hab b q1, by rw [q1]; simpa using (Ne.symm hne), q2⟩
    have hgt : (G.absorb id3 id).top g := by
      rcases a8 with a | a
      · exact (hrow g a).2
      · rw [a]; exact hi0.top _ (Nat.le_refl _)
    have hgl : g < w'.heap.size := (Array.getElem?_eq_some_iff.1 a2).1
    have hinf : (G.absorb id3 id).inf id = some (sz3, n, false) := by rw [ra.1, hn]
    have X1 := ext_regrowT hi0 hinf hm0 a7 hrow hgl a8
    have h6 : ((G.absorb id3 id).regrowT id g (sz3, n + els3.length, false)).own g = some id := by simp [Gh.regrowT]
    have h7 : ((G.absorb id3 id).regrowT id g (sz3, n + els3.length, false)).inf id = some (sz3, n + els3.length, false) := by simp [Gh.regrowT]
    have h8 : ∀ b, ((G.absorb id3 id).regrowT id g (sz3, n + els3.length, false)).own b = some id → (G.absorb id3 id).top b → b = g := fun b hb' ht' => by
      by_cases e1 : b = g
      · exact e1
      · exfalso
        by_cases e2 : (G.absorb id3 id).own b = some id ∧ (G.absorb id3 id).top b
        · simp only [Gh.regrowT] at hb'
          rw [if_neg e1, if_pos e2] at hb'
          cases hb'
        · rw [regrowT_far e1 e2] at hb'
          exact e2 ⟨hb', ht'⟩
    have mono : ∀ l v, InnR (G.absorb id3 id) w id ty2 l v → InnR ((G.absorb id3 id).regrowT id g (sz3, n + els3.length, false)) w' id ty2 l v := fun l v q => q.grown hi0 a7 hrow hgt
    have t1 : TrP ((G.absorb id3 id).regrowT id g (sz3, n + els3.length, false)) w' id ty2 els.flatten xs := TrP.mono (fun l v q => mono l v (q.absorb hne)) h2
    have t2 : TrP ((G.absorb id3 id).regrowT id g (sz3, n + els3.length, false)) w' id ty2 els3.flatten news := TrP.mono (fun l v q => mono l v q.absorbed) k2
    have lF : xs.length = els.flatten.length := by rw [h4, flatten_len h0, hn]
    have lF3 : news.length = els3.flatten.length := by rw [k4, flatten_len k0]
    have hcur : cur.toList.take (els ++ els3).flatten.length = (xs ++ news).take (els ++ els3).flatten.length := by
      have e1 : (els ++ els3).flatten.length = (n + els3.length) * sz3 := by rw [List.flatten_append, List.length_append, ← lF, ← lF3, h4, k4, Nat.add_mul]
      rw [e1, a6, List.take_of_length_le]
      rw [List.length_append, h4, k4, Nat.add_mul]
      exact Nat.le_refl _
    refine ⟨_, w', _, a1, (Ext.trans hi X0 X1).mono (fun y hy => by
      simp only [List.mem_append, List.mem_cons, List.not_mem_nil, or_false] at hy ⊢
      rcases hy with (hy | hy) | hy <;> simp [hy]), ?_, ⟨?_, hz, fun b b' e1 e2 e3 e4 => by rw [h8 b e1 e2, h8 b' e3 e4], .inr ⟨g, cur, ⟨h6, hgt⟩, a2, ?_, ?_, ?_, ?_⟩⟩, RelB.ext X1 hi0 (by simpa using hne) hjk⟩
    · rw [← hn]
      simp only [Reps]
      exact ⟨_, _, _, h7, hz, rfl, .inr ⟨rfl, .inr ⟨g, cap, cur, e, rfl, ⟨h6, hgt⟩, a2, a3, a4, a5⟩⟩⟩
    · rw [h7, List.length_append, hn]
    · rw [List.length_append, ← hn, a3]
      exact Nat.mul_le_mul_right _ a4
    · intro y hy
      rcases List.mem_append.1 hy with hy | hy
      · exact h0 y hy
      · exact k0 y hy
    · refine TrP.keep ?_ hcur
      rw [List.flatten_append]
      exact t1.append lF t2
    · rw [blkP_keep hcur, List.flatten_append, blkP_append lF, List.nodup_append]
      refine ⟨h2n, k2n, fun y hy z hz' e' => ?_⟩
      subst e'
      have q1 := blkP_own h2 y hy
      have q2 := blkP_own k2 y hz'
      rw [q1] at q2
      injection q2 with q2
      exact hne q2.symm
end
end Go.Proofs.Ytkpcieenikmbmaa.E

/- Each operation comes to what is told of it: appends, makes, literals. -/
namespace Go.Proofs.Ytkpcieenikmbmaa.E
open Go Go.RowKit Go.Proofs.YtkpcieenikmbmaaW.PrintWords
set_option linter.unusedVariables false
set_option linter.unusedSimpArgs false

section
variable {E : Env} {h : List Blk} {K : Kont}

theorem append0_ok {t t2 ty : Nat} {p q : PV} (hk : aAppend0 E h t t2 p q K) : Step E.P h (fun G w m => ∃ v x, Reps G w p v ∧ Reps G w q x ∧ m = Builtin.append_ #[t, t2] ty #[v, x]) K := by
  unfold aAppend0 at hk
  cases hl : look E.T t with
  | none => rw [hl] at hk; exact hk.elim
  | some i =>
    cases hl2 : look E.T t2 with
    | none => rw [hl, hl2] at hk; exact hk.elim
    | some i2 =>
      rw [hl, hl2] at hk
      simp only at hk
      have hf := Env.fact hl
      have hf2 := Env.fact hl2
      cases hik : i.k with
      | slice e =>
        rw [hik] at hk
        simp only at hk
        have ht : E.P.underlying t = some (.slice e) := by have := hf.2.1; rw [hik] at this; exact this
        cases hle : look E.T e with
        | none => rw [hle] at hk; exact hk.elim
        | some j =>
          rw [hle] at hk
          simp only at hk
          have hj := Env.fact hle
          obtain ⟨els2, rd, ⟨hz, hel, hk⟩, hsrc⟩ := src_ok hf2 ht hk
          have hs := hsrc ⟨hz, hel⟩
          cases p with
          | own id n =>
            simp only at hk
            cases hb : nthB h id with
            | none => rw [hb] at hk; exact hk.elim
            | some B =>
              rw [hb] at hk
              cases B with
              | box _ _ => exact hk.elim
              | tree _ _ _ _ => exact hk.elim
              | junk => exact hk.elim
              | arr sz ty' fz els =>
                cases fz with
                | true => exact hk.elim
                | false =>
                  simp only at hk
                  obtain ⟨k1, k2, k3, els', rfl, k4, k5, hk⟩ := hk
                  subst k2 k3
                  rw [List.length_append] at k4 k5 hk
                  refine ⟨_, _, _, _, hk, fun x hx => nthB_putB_ne h id x _ (by simpa using hx), by rw [len_putB]; exact Nat.le_refl _, fun G w m hi hm hr => ?_⟩
                  obtain ⟨v, x, hv, hx, rfl⟩ := hm
                  have r := hr id (by simp)
                  rw [hb] at r
                  obtain ⟨v', w', G', a1, a2, a3, a4⟩ := append_core (ty := ty) hi ht hj rfl hz r k1 hv (hs G w x hi hx (fun id hid => hr id (.inl hid))) k5 k4
                  refine ⟨v', w', G', a1, a2, a3, fun x hx => ?_⟩
                  simp only [List.mem_singleton] at hx
                  subst hx
                  rw [nthB_putB_same _ hb]
                  exact a4
          | nil =>
            simp only at hk
            obtain ⟨k4, k5, hk⟩ := hk
            refine ⟨_, _, _, _, hk, keeps_push h _, len_push h _, fun G w m hi hm hr => ?_⟩
            obtain ⟨v, x, hv, hx, rfl⟩ := hm
            simp only [Reps] at hv
            subst hv
            have h0 := none_at h (hr (len h) (by simp))
            have X0 := ext_name hi (len h) (j.size, 0, false) h0
            have hi0 := hi.ext X0
            obtain ⟨n1, n2⟩ := name_nil hi hz e h0
            obtain ⟨d2, news, s1, s2, s3, s4, s5, s6, s7⟩ := hs G w x hi hx (fun id hid => hr id (.inl hid))
            obtain ⟨v', w', G', a1, a2, a3, a4⟩ := append_core (ty := ty) (els := []) hi0 ht hj rfl hz n1 rfl n2 ⟨d2, news, s1, s2, s3, s4, s5, s6, RepE.mono (imm_old X0 hi) _ _ _ s7⟩ (by simpa using k5) (by simpa using k4)
            simp only [List.length_nil, Nat.zero_add, List.nil_append] at a3 a4
            refine ⟨v', w', G', a1, (Ext.trans hi X0 a2).mono (fun x hx => by simpa using hx), a3, fun x hx => ?_⟩
            simp only [List.mem_singleton] at hx
            subst hx
            rw [nthB_new]
            exact a4
          | _ => exact hk.elim
      | _ => rw [hik] at hk; exact hk.elim

theorem append_ok {t t2 ty : Nat} {p q : PV} (hk : aAppend E h t t2 p q K) : Step E.P h (fun G w m => ∃ v x, Reps G w p v ∧ Reps G w q x ∧ m = Builtin.append_ #[t, t2] ty #[v, x]) K := by
  unfold aAppend at hk
  split at hk
  · rename_i p id n
    split at hk
    · rename_i o sz ty' ty2 els hb
      unfold aAppTree at hk
      split at hk
      · rename_i i i2 id3 n3 hl hl2
        have hf := Env.fact hl
        split at hk
        · rename_i k e hik
          have ht : E.P.underlying t = some (.slice e) := by have := hf.2.1; rw [hik] at this; exact this
          split at hk
          · rename_i j sz3 ty3 ty23 els3 hle hb3
            have hj := Env.fact hle
            obtain ⟨rfl, k1, hz, hn, hn3, rfl, rfl, rfl, rfl, els', rfl, k4, k5, hk⟩ := hk
            have hne : id3 ≠ id := fun e => by
              subst e
              rw [show Nat.beq id3 id3 = true from Nat.beq_refl id3] at k1
              cases k1
            rw [List.length_append] at k4 k5 hk
            have hb' : nthB (putB h id (.tree j.size ty' ty23 (els ++ els3))) id3 = nthB h id3 := nthB_putB_ne h id id3 _ hne
            refine ⟨_, _, _, _, hk, fun x hx => ?_, by rw [len_putB, len_putB]; exact Nat.le_refl _, fun G w m hi hm hr => ?_⟩
            · simp only [List.mem_cons, List.not_mem_nil, or_false, not_or] at hx
              rw [nthB_putB_ne _ id3 x _ hx.2, nthB_putB_ne h id x _ hx.1]
            obtain ⟨v, x, hv, hx, rfl⟩ := hm
            have r := hr id (by simp)
            have r3 := hr id3 (by simp)
            rw [hb] at r
            rw [hb3] at r3
            subst hn3
            obtain ⟨v', w', G', a1, a2, a3, a4, a5⟩ := append_tree (ty := ty) hi ht hj rfl rfl hz hne r r3 hn hv hx k5 k4
            refine ⟨v', w', G', a1, a2, a3, fun x hx => ?_⟩
            simp only [List.mem_cons, List.not_mem_nil, or_false] at hx
            rcases hx with rfl | rfl
            · rw [nthB_putB_ne _ id3 x _ (Ne.symm hne), nthB_putB_same _ hb]
              exact a4
            · rw [nthB_putB_same _ (hb'.trans hb3)]
              exact a5
          · exact hk.elim
        · exact hk.elim
      · exact hk.elim
    · exact append0_ok hk
  · exact append0_ok hk

/-- A tree is made. -/
theorem new_tree {G : Gh} {w : World} (hi : Inv G w) {id sz cap : Nat} (hsz : 0 < sz) (h0 : RelB G w id none) {els : List (List CV)} {vs : Array Value} {ty ty2 : TypeId} {f : Option Nat} (hin : TrIn h ty2 els.flatten f G w vs.toList) (hfr : ∀ a, f = some a → RelB G w a (nthB h a) ∧ a ≠ id)
    (hs : ∀ x ∈ els, x.length = sz) (hv : vs.size = cap * sz) (hl : els.length ≤ cap) (hc : cap ≤ maxLen) :
    ∃ G', Ext (id :: f.toList) G w G' (w.alloc (.cells vs ty)) ∧ Reps G' (w.alloc (.cells vs ty)) (.own id els.length) (.slice (some ⟨w.heap.size, 0, none⟩) els.length cap) ∧ RelB G' (w.alloc (.cells vs ty)) id (some (.tree sz ty ty2 els)) ∧ ∀ a, f = some a → RelB G' (w.alloc (.cells vs ty)) a (some .junk) := by
  -- first what goes over, then the array
  have core : ∀ (G1 : Gh) (ids : List Nat), Ext ids G w G1 w → RelB G1 w id none ∨ (∀ b, G1.own b = some id → b < w.heap.size ∧ ¬ G1.top b) → G1.inf id = none → TrP G1 w id ty2 els.flatten vs.toList → (blkP els.flatten vs.toList).Nodup →
      Ext [id] G1 w (G1.put w.heap.size id (sz, els.length, false)) (w.alloc (.cells vs ty)) → 
      Reps (G1.put w.heap.size id (sz, els.length, false)) (w.alloc (.cells vs ty)) (.own id els.length) (.slice (some ⟨w.heap.size, 0, none⟩) els.length cap) ∧ RelB (G1.put w.heap.size id (sz, els.length, false)) (w.alloc (.cells vs ty)) id (some (.tree sz ty ty2 els)) := by
    intro G1 ids X0 hno hinf hT hN X1
    have hi1 := hi.ext X0
    have hold : ∀ b, G1.own b = some id → b < w.heap.size ∧ ¬ G1.top b := fun b hb => by
      rcases hno with a | a
      · exact absurd hb (a.2 b)
      · exact a b hb
    have hroot : (G1.put w.heap.size id (sz, els.length, false)).own w.heap.size = some id ∧ (G1.put w.heap.size id (sz, els.length, false)).top w.heap.size := ⟨put_own _ _ _ _, hi1.top _ (Nat.le_refl _)⟩
    refine ⟨?_, put_inf _ _ _ _, hsz, fun b b' e1 e2 e3 e4 => ?_, .inr ⟨w.heap.size, vs, hroot, heap_alloc_new w _, ?_, hs, ?_, hN⟩⟩
    · simp only [Reps]
      exact ⟨_, _, _, put_inf _ _ _ _, hsz, rfl, .inr ⟨rfl, .inr ⟨w.heap.size, cap, vs, ty, rfl, hroot, heap_alloc_new w _, hv, hl, hc⟩⟩⟩
    · have one : ∀ b, (G1.put w.heap.size id (sz, els.length, false)).own b = some id → (G1.put w.heap.size id (sz, els.length, false)).top b → b = w.heap.size := fun b e1 e2 => by
        simp only [Gh.put] at e1
        split at e1
        · assumption
        · exact absurd e2 (hold b e1).2
      rw [one b e1 e2, one b' e3 e4]
    · rw [hv]
      exact Nat.mul_le_mul_right _ hl
    · refine TrP.mono (fun l v q => ?_) hT
      rcases q with q | ⟨b', c, cs, h1, h2, h3, h4, h5⟩
      · exact .inl q
      · refine .inr ⟨b', c, cs, h1, ?_, h3, (Below.heap_alloc w _ b' (hi1.own b' id h2)).trans h4, h5.1, h5.2.1, h5.2.2.1, RepE.mono (fun _ _ _ e => e.elim) 1 l _ h5.2.2.2⟩
        simp only [Gh.put]
        rw [if_neg (own_lt hi1 h2)]
        exact h2
  cases f with
  | none =>
    obtain ⟨a1, a2⟩ := hin id
    have X1 := ext_alloc hi id (sz, els.length, false) h0 (.cells vs ty)
    obtain ⟨b1, b2⟩ := core G [] (Ext.refl hi []) (.inl h0) h0.1 a1 (by rw [a2]; exact List.nodup_nil) X1
    exact ⟨_, X1, b1, b2, fun a e => by cases e⟩
  | some a =>
    obtain ⟨⟨elsA, hA⟩, hT⟩ := hin
    obtain ⟨ra, hne⟩ := hfr a rfl
    rw [hA] at ra
    obtain ⟨a1, a2, a3⟩ := hT id hne
    have X0 := ext_absorb hi ra.1 hne
    have hi1 := hi.ext X0
    have hinf : (G.absorb a id).inf id = none := by
      simp only [Gh.absorb]
      rw [if_neg (Ne.symm hne)]
      exact h0.1
    have hold : ∀ b, (G.absorb a id).own b = some id → b < w.heap.size ∧ ¬ (G.absorb a id).top b := fun b hb => by
      refine ⟨hi1.own b id hb, fun ht => ?_⟩
      simp only [Gh.absorb] at hb
      rw [if_neg ht.1] at hb
      exact h0.2 b hb
    have X1 := ext_alloc2 hi1 id (sz, els.length, false) hinf (.cells vs ty)
    obtain ⟨b1, b2⟩ := core _ _ X0 (.inr hold) hinf a1 a2 X1
    refine ⟨_, (Ext.trans hi X0 X1).mono (fun y hy => by
      simp only [List.mem_append, List.mem_cons, List.not_mem_nil, or_false, Option.toList_some] at hy ⊢
      rcases hy with (hy | hy) | hy <;> simp [hy]), b1, b2, fun a' e => ?_⟩
    injection e with e
    subst e
    exact RelB.ext X1 hi1 (by simpa using hne) (junk_absorb ra.1)

theorem rep_repl {I : Nat → Prop} {w : World} {cvs : List CV} {zs : List Value} (h1 : RepP I w cvs zs) (hl : zs.length = cvs.length) : ∀ (n : Nat) (vs : List Value), (∀ q, q < n * cvs.length → vs[q]? = zs[q % cvs.length]?) → RepE I w cvs.length (List.replicate n cvs) vs
  | 0, vs, _ => by simp [RepE]
  | n + 1, vs, hv => by
    simp only [List.replicate_succ, RepE]
    refine ⟨by simp, ?_, rep_repl h1 hl n _ fun q hq => ?_⟩
    · have e1 : vs.take cvs.length = zs := by
        apply List.ext_getElem?
        intro q
        rw [List.getElem?_take]
        split
        · rename_i hq
          rw [hv q (by rw [Nat.add_mul, Nat.one_mul]; omega), Nat.mod_eq_of_lt hq]
        · rw [List.getElem?_eq_none]
          omega
      rw [← e1] at h1
      exact h1.of_take _
    · rw [List.getElem?_drop, hv _ (by rw [Nat.add_mul, Nat.one_mul]; omega), Nat.add_mod_left]

theorem makeSlice_ok {t : Nat} {p q : PV} (hk : aMakeSlice E h t p q K) : Step E.P h (fun G w m => ∃ v x, Reps G w p v ∧ Reps G w q x ∧ m = Instr.makeSlice t v x) K := by
  unfold aMakeSlice at hk
  split at hk
  · rename_i i k1 n k2 c hl
    have hf := Env.fact hl
    split at hk
    · rename_i e hik
      have ht : E.P.underlying t = some (.slice e) := by have := hf.2.1; rw [hik] at this; exact this
      cases hle : look E.T e with
      | none => rw [hle] at hk; exact hk.elim
      | some j =>
        rw [hle] at hk
        simp only at hk
        have hj := Env.fact hle
        cases hc : pcells (ofV j.zero) with
        | none => rw [hc] at hk; exact hk.elim
        | some z =>
          rw [hc] at hk
          simp only at hk
          obtain ⟨cvs, f, ⟨rfl, rfl, z1, z2, z3, z4, z5, els', rfl, hk⟩, f1, f2, f3⟩ := toCs_ok hk
          rw [List.length_replicate] at hk
          refine ⟨_, _, _, _, hk, keeps_push h _, len_push h _, fun G w m hi hm hr => ?_⟩
          obtain ⟨v, x, hv, hx, rfl⟩ := hm
          simp only [Reps, RepC] at hv hx
          subst hv hx
          obtain ⟨N, rfl⟩ := Int.eq_ofNat_of_zero_le z1
          obtain ⟨inf, i1, i2, i3, i4⟩ := hj.info
          obtain ⟨q1, q2⟩ := pcells_ok hc (ofV_ok G w j.zero)
          have hz := q1.length
          rw [Array.length_toList] at hz
          have hN : N ≤ 9223372036854775807 := by omega
          have hw : IntKind.i64.wrap (N : Int) = N := by simp [IntKind.wrap, IntKind.signed, IntKind.bits]; omega
          have h0 := none_at h (hr (len h) (by simp))
          have hcv := f3 G w _ [] hi q1 (fun id hid => by cases hid) (fun id hid => by cases hid)
          have hG : G.frz [] = G := by simp [Gh.frz]
          rw [hG] at hcv
          have hrun := run_make (P := E.P) w t e inf j.zero ht i1 i4 k1 k2 (N : Int) (N : Int) z1 (Int.le_refl _) (by rw [i3]; exact z2) z3
          rw [Int.toNat_natCast, i2] at hrun
          have hcs : (madeCells j.zero.cells (N * j.size)).size = N * j.size := size_madeCells _ _
          have hrep : RepE G.imm w j.size (List.replicate N cvs) (madeCells j.zero.cells (N * j.size)).toList := by
            have := rep_repl hcv (by rw [Array.length_toList, hz, f2]) N (madeCells j.zero.cells (N * j.size)).toList (fun q hq => ?_)
            · rw [f2, ← z5] at this
              exact this
            · rw [f2, ← z5] at hq
              have h3 : 0 < j.zero.cells.size := by omega
              have hq2 : q % j.zero.cells.size < j.zero.cells.size := Nat.mod_lt _ h3
              rw [f2, ← hz, Array.getElem?_toList, Array.getElem?_toList]
              simp [madeCells, hq, hq2]
          obtain ⟨x1, x2, x3⟩ := new_arr hi z4 h0 (ty := e) hrep hcs (by rw [List.length_replicate]; exact Nat.le_refl _) (by simp only [maxLen]; omega)
          rw [List.length_replicate] at x1 x2
          refine ⟨_, _, _, hrun, x1, x2, fun y hy => ?_⟩
          simp only [List.mem_singleton] at hy
          subst hy
          rw [nthB_new]
          rw [List.length_replicate] at x3
          exact x3
    · exact hk.elim
  · exact hk.elim

theorem fold_put : ∀ (l : List Value) (k off : Nat) (cells : Array Value), off + k + l.length ≤ cells.size →
    ((l.zipIdx k).foldl (fun (cs : Array Value) (x : Value × Nat) => cs.setIfInBounds (off + x.2) x.1) cells).toList = cells.toList.take (off + k) ++ l ++ cells.toList.drop (off + k + l.length)
  | [], k, off, cells, _ => by simp
  | v :: r, k, off, cells, hl => by
    simp only [List.length_cons] at hl
    simp only [List.zipIdx_cons, List.foldl_cons]
    rw [fold_put r (k + 1) off _ (by simp; omega)]
    have h1 : (cells.setIfInBounds (off + k) v).toList = cells.toList.take (off + k) ++ v :: cells.toList.drop (off + k + 1) := by
      rw [Array.toList_setIfInBounds, List.set_eq_take_append_cons_drop, if_pos (by simp; omega)]
    rw [h1]
    have e1 : off + (k + 1) = (cells.toList.take (off + k)).length + 1 := by simp; omega
    have e2 : off + (k + 1) + r.length = (cells.toList.take (off + k)).length + (1 + r.length) := by simp; omega
    rw [e2, e1, List.take_length_add_append, List.drop_length_add_append]
    simp only [List.take_succ_cons, List.take_zero, List.length_cons]
    rw [Nat.add_comm 1 r.length, List.drop_succ_cons, List.drop_drop]
    simp only [List.append_assoc, List.cons_append, List.nil_append]
    congr 4
    omega

theorem fill_ok {G : Gh} {w : World} {pl : Nat → Option (Nat × Nat)} : ∀ {parts : List (Nat × PV)} {vs : List (Nat × Value)} {cs cs' : List PV} {cells : Array Value}, fillP pl cs parts = some cs' → RepsL G w cs cells.toList →
    (∀ u ∈ cells.toList, u.oneCell' = true) → parts.map (·.1) = vs.map (·.1) → RepsL G w (parts.map (·.2)) (vs.map (·.2)) →
    ∃ cells', Instr.fill pl cells vs = some cells' ∧ RepsL G w cs' cells'.toList ∧ cells'.size = cells.size ∧ ∀ u ∈ cells'.toList, u.oneCell' = true
  | [], vs, cs, cs', cells, hf, hr, h1, hi, hp => by
    cases vs with
    | cons v r => simp at hi
    | nil =>
      simp only [fillP, Option.some.injEq] at hf
      subst hf
      exact ⟨cells, rfl, hr, rfl, h1⟩
  | x :: parts, [], cs, cs', cells, hf, hr, h1, hi, hp => by simp at hi
  | x :: parts, v :: vs, cs, cs', cells, hf, hr, h1, hi, hp => by
    simp only [List.map_cons, List.cons.injEq] at hi
    simp only [List.map_cons, RepsL] at hp
    obtain ⟨u, us, hu, hp1, hp2⟩ := hp
    injection hu with hu1 hu2
    subst hu1 hu2
    simp only [fillP] at hf
    rw [hi.1] at hf
    cases hpl : pl v.1 with
    | none => rw [hpl] at hf; cases hf
    | some q =>
      cases hc : pcells x.2 with
      | none => rw [hpl, hc] at hf; cases hf
      | some ds =>
        rw [hpl, hc] at hf
        simp only at hf
        cases hb : (Nat.beq (len ds) q.2 && Nat.ble (q.1 + len ds) (len cs)) with
        | false => rw [hb] at hf; cases hf
        | true =>
          rw [hb, cond_true] at hf
          rw [Bool.and_eq_true] at hb
          have b1 := Nat.eq_of_beq_eq_true hb.1
          have b2 := Nat.le_of_ble_eq_true hb.2
          rw [len_eq] at b1 b2
          rw [len_eq] at b2
          obtain ⟨p1, p2⟩ := pcells_ok hc hp1
          have l1 := p1.length
          have l2 := hr.length
          rw [Array.length_toList] at l1 l2
          have hfold := fold_put v.2.cells.toList 0 q.1 cells (by rw [Array.length_toList]; omega)
          simp only [Nat.add_zero] at hfold
          let cells2 : Array Value := v.2.cells.zipIdx.foldl (fun (cs : Array Value) (x : Value × Nat) => cs.setIfInBounds (q.1 + x.2) x.1) cells
          have hc2 : cells2.toList = cells.toList.take q.1 ++ v.2.cells.toList ++ cells.toList.drop (q.1 + v.2.cells.toList.length) := by
            rw [← hfold]
            simp only [cells2]
            rw [← Array.foldl_toList, Array.toList_zipIdx]
          have hsz : cells2.size = cells.size := by
            rw [← Array.length_toList, hc2]
            simp only [List.length_append, List.length_take, List.length_drop, Array.length_toList]
            omega
          obtain ⟨cells', r1, r2, r3, r4⟩ := fill_ok (cells := cells2) hf (by rw [hc2]; exact hr.put_list q.1 p1) (fun z hz => by
            rw [hc2] at hz
            simp only [List.mem_append] at hz
            rcases hz with (hz | hz) | hz
            · exact h1 z (List.mem_of_mem_take hz)
            · exact p2 z hz
            · exact h1 z (List.mem_of_mem_drop hz)) hi.2 hp2
          refine ⟨cells', ?_, r2, r3.trans hsz, r4⟩
          obtain ⟨a, b⟩ := v
          obtain ⟨q1, q2⟩ := q
          simp only [Instr.fill]
          rw [hpl]
          simp only
          rw [if_neg]
          · exact r1
          · simp only [ne_eq, gt_iff_lt, Bool.or_eq_true, decide_eq_true_eq, not_or, Decidable.not_not, Nat.not_lt]
            simp only at l1 b1 b2
            omega

theorem nthF_eq : ∀ (fs : List (Nat × Nat)) (n : Nat), nthF fs n = fs[n]?
  | [], _ => rfl
  | _ :: _, 0 => rfl
  | _ :: r, n + 1 => by simpa [nthF] using nthF_eq r n
theorem places_of (P : Program) : ∀ (l : List Field) (fs : List (Nat × Nat)), (l.map fun f => (f.offset, f.type)).map (fun x => (x.1, (P.info? x.2).map (·.size))) = fs.map (fun x => (x.1, some x.2)) →
    l.mapM (fun f => (P.info? f.type).map fun i => (f.offset, i.size)) = some fs
  | [], [], _ => rfl
  | [], _ :: _, h => by simp at h
  | _ :: _, [], h => by simp at h
  | f :: l, y :: fs, h => by
    simp only [List.map_cons, List.cons.injEq, Prod.mk.injEq] at h
    have ih := places_of P l fs h.2
    obtain ⟨i, h1, h2⟩ := Option.map_eq_some_iff.1 h.1.2
    simp only [List.mapM_cons, ih, h1]
    simp [h.1.1, h2]

theorem build_ok {t : Nat} {parts : List (Nat × PV)} (hk : aBuild E h t parts K) : Step E.P h (fun G w m => ∃ vs : List (Nat × Value), parts.map (·.1) = vs.map (·.1) ∧ RepsL G w (parts.map (·.2)) (vs.map (·.2)) ∧ m = Instr.build t vs.toArray) K := by
  unfold aBuild at hk
  cases hl : look E.T t with
  | none => rw [hl] at hk; exact hk.elim
  | some i =>
    rw [hl] at hk
    simp only at hk
    have hf := Env.fact hl
    cases hc : pcells (ofV i.zero) with
    | none => rw [hc] at hk; exact hk.elim
    | some z =>
      rw [hc] at hk
      simp only at hk
      cases hik : i.k with
      | struct fs =>
        rw [hik] at hk
        simp only at hk
        cases hfp : fillP (nthF fs) z parts with
        | none => rw [hfp] at hk; exact hk.elim
        | some cs =>
          rw [hfp] at hk
          refine Step.pure hk fun G w m hi hm => ?_
          obtain ⟨vs, v1, v2, rfl⟩ := hm
          obtain ⟨q1, q2⟩ := pcells_ok hc (ofV_ok G w i.zero)
          obtain ⟨cells', r1, r2, r3, r4⟩ := fill_ok hfp q1 q2 v1 v2
          refine ⟨.agg cells', ?_, by simp only [Reps]; exact ⟨cells', rfl, r2⟩⟩
          obtain ⟨fields, u1, u2⟩ := hf.struct hik
          obtain ⟨inf, i1, i2, i3, i4⟩ := hf.info
          have hp := places_of E.P fields.toList fs u2
          have hfun : nthF fs = fun x => fs[x]? := funext (nthF_eq fs)
          rw [hfun] at r1
          simp [Instr.build, run_underlying u1, typeInfo, zeroValue, i1, i4, Array.mapM_eq_mapM_toList, run_places w _ _ hp, r1]
      | array n e =>
        rw [hik] at hk
        simp only at hk
        have h2 := hf.2.1
        rw [hik] at h2
        cases parts with
        | cons _ _ => exact hk.elim
        | nil =>
          cases hle : look E.T e with
          | none => rw [hle] at hk; exact hk.elim
          | some y =>
            rw [hle] at hk
            refine Step.pure hk fun G w m hi hm => ?_
            obtain ⟨vs, v1, v2, rfl⟩ := hm
            obtain rfl : vs = [] := by
              cases vs with
              | nil => rfl
              | cons _ _ => simp at v1
            obtain ⟨q1, q2⟩ := pcells_ok hc (ofV_ok G w i.zero)
            refine ⟨.agg i.zero.cells, ?_, by simp only [Reps]; exact ⟨_, rfl, q1⟩⟩
            obtain ⟨inf, i1, i2, i3, i4⟩ := hf.info
            simp [Instr.build, Instr.fill, run_underlying h2, typeInfo, zeroValue, i1, i4, (Env.fact hle).sizeOf w]
      | _ => rw [hik] at hk; exact hk.elim

theorem chunks_rep {I : Nat → Prop} {w : World} {sz : Nat} : ∀ (n : Nat) {cvs : List CV} {vs : List Value}, RepP I w cvs vs → cvs.length = n * sz → RepE I w sz (chunks sz n cvs) vs
  | 0, cvs, vs, _, _ => by simp [chunks, RepE]
  | n + 1, cvs, vs, hr, hl => by
    rw [Nat.add_mul, Nat.one_mul] at hl
    simp only [chunks, RepE]
    exact ⟨by rw [List.length_take]; omega, (RepP.take sz hr).of_take _, chunks_rep n (hr.drop sz) (by rw [List.length_drop]; omega)⟩
theorem zeros_rep {G : Gh} {w : World} {z : List PV} {zs : List Value} (hr : RepsL G w z zs) : ∀ (n : Nat) (vs : List Value), vs.length = n * zs.length → (∀ q, q < n * zs.length → vs[q]? = zs[q % zs.length]?) → RepsL G w (zeros z n) vs
  | 0, vs, hl, _ => by
    have : vs = [] := List.eq_nil_of_length_eq_zero (by simpa using hl)
    subst this
    simp [zeros, RepsL]
  | n + 1, vs, hl, hv => by
    rw [Nat.add_mul, Nat.one_mul] at hl
    simp only [zeros]
    have e1 : vs.take zs.length = zs := by
      apply List.ext_getElem?
      intro q
      rw [List.getElem?_take]
      split
      · rename_i hq
        rw [hv q (by rw [Nat.add_mul, Nat.one_mul]; omega), Nat.mod_eq_of_lt hq]
      · rw [List.getElem?_eq_none]
        omega
    have h2 := zeros_rep hr n (vs.drop zs.length) (by rw [List.length_drop]; omega) (fun q hq => by
      rw [List.getElem?_drop, hv _ (by rw [Nat.add_mul, Nat.one_mul]; omega), Nat.add_mod_left])
    have h3 := hr.append h2
    have e2 : zs ++ vs.drop zs.length = vs := by
      conv => lhs; lhs; rw [← e1]
      exact List.take_append_drop _ _
    rw [e2] at h3
    exact h3

theorem chunks_length {α : Type} (sz : Nat) : ∀ (n : Nat) (l : List α), (chunks sz n l).length = n
  | 0, _ => rfl
  | n + 1, l => by simp [chunks, chunks_length sz n]

theorem buildSlice_ok {t n : Nat} {parts : List (Nat × PV)} (hk : aBuildSlice E h t n parts K) : Step E.P h (fun G w m => ∃ vs : List (Nat × Value), parts.map (·.1) = vs.map (·.1) ∧ RepsL G w (parts.map (·.2)) (vs.map (·.2)) ∧ m = Instr.buildSlice t n vs.toArray) K := by
  unfold aBuildSlice at hk
  cases hl : look E.T t with
  | none => rw [hl] at hk; exact hk.elim
  | some i =>
    rw [hl] at hk
    simp only at hk
    have hf := Env.fact hl
    split at hk
    · rename_i e hik
      have ht : E.P.underlying t = some (.slice e) := by have := hf.2.1; rw [hik] at this; exact this
      cases hle : look E.T e with
      | none => rw [hle] at hk; exact hk.elim
      | some j =>
        rw [hle] at hk
        simp only at hk
        have hj := Env.fact hle
        cases hc : pcells (ofV j.zero) with
        | none => rw [hc] at hk; exact hk.elim
        | some z =>
          rw [hc] at hk
          simp only at hk
          cases hfp : fillP (fun q => some (q * j.size, j.size)) (zeros z n) parts with
          | none => rw [hfp] at hk; exact hk.elim
          | some cs =>
            rw [hfp] at hk
            simp only at hk
            obtain ⟨cvs, f, ⟨k1, k2, els', rfl, hk⟩, f1, f2, f3⟩ := toCs_ok hk
            rw [chunks_length] at hk
            have hfl : ∀ x ∈ f, x < len h := fun x hx => by
              have a := f1 x hx
              cases hb : nthB h x with
              | none => rw [hb] at a; exact a.elim
              | some B => exact nthB_lt hb
            refine ⟨_, _, _, _, hk, fun x hx => ?_, by rw [len_append, len_frz]; omega, fun G w m hi hm hr => ?_⟩
            · simp only [List.mem_cons, not_or] at hx
              rw [nthB_push _ _ _ (by rw [len_frz]; exact hx.1), nthB_frz, if_neg hx.2]
            obtain ⟨vs, v1, v2, rfl⟩ := hm
            obtain ⟨q1, q2⟩ := pcells_ok hc (ofV_ok G w j.zero)
            obtain ⟨inf, i1, i2, i3, i4⟩ := hj.info
            have hz := q1.length
            rw [Array.length_toList] at hz
            have hzs : j.zero.cells.size = j.size := hj.2.2
            have hzero : RepsL G w (zeros z n) (madeCells j.zero.cells (n * j.size)).toList := by
              refine zeros_rep q1 n _ ?_ fun q hq => ?_
              · rw [Array.length_toList, size_madeCells, Array.length_toList, hzs]
              · rw [Array.length_toList, hzs] at hq
                have hq2 : q % j.zero.cells.size < j.zero.cells.size := Nat.mod_lt _ (by omega)
                rw [Array.getElem?_toList, Array.getElem?_toList, Array.length_toList]
                simp [madeCells, hq, hq2]
            have hone : ∀ u ∈ (madeCells j.zero.cells (n * j.size)).toList, u.oneCell' = true := fun u hu => by
              simp only [madeCells, Array.toList_map, List.mem_map] at hu
              obtain ⟨q, hq, rfl⟩ := hu
              have hq2 : q % j.zero.cells.size < j.zero.cells.size := Nat.mod_lt _ (by omega)
              have e1 : j.zero.cells[q % j.zero.cells.size]! = j.zero.cells[q % j.zero.cells.size] := by simp [hq2]
              rw [e1]
              exact q2 _ (by simp)
            obtain ⟨cells', r1, r2, r3, r4⟩ := fill_ok hfp hzero hone v1 v2
            have hrun : (Instr.buildSlice t n vs.toArray).run E.P w = .ok (.slice (some ⟨w.heap.size, 0, none⟩) n n) (w.alloc (.cells cells' e)) := by
              have hs : ¬ 2 ^ 24 < n * inf.size := by rw [i2]; omega
              by_cases hn : n = 0
              · subst hn
                simp only [Nat.zero_mul] at r1
                have hm0 : madeCells j.zero.cells 0 = #[] := by simp [madeCells]
                rw [hm0] at r1
                have hm1 : Array.map (fun _ : Nat => (default : Value)) (Array.range 0) = #[] := by simp
                simp [Instr.buildSlice, run_underlying ht, sizeOf, typeInfo, i1, i2, hm1, r1, newRow]
              · have hnz : ¬ (n * j.size = 0) := by
                  intro e0
                  rcases Nat.mul_eq_zero.1 e0 with e0 | e0 <;> omega
                have r1' : Instr.fill (fun q => some (q * j.size, j.size)) (Array.map (fun x => j.zero.cells[x % j.zero.cells.size]!) (Array.range (n * j.size))) vs = some cells' := r1
                simp [Instr.buildSlice, run_underlying ht, sizeOf, typeInfo, zeroValue, i1, i2, i4, hnz, r1', newRow, k1]
            have X0 := ext_frz hi f
            have hi0 := hi.ext X0
            have hrf : ∀ j ∈ f, RelB G w j (nthB h j) := fun j hj => hr j (by simp [hj])
            have h0 : RelB (G.frz f) w (len h) none := RelB.ext X0 hi (fun hx => absurd (hfl _ hx) (by omega)) (none_at h (hr (len h) (by simp)))
            have hcv := f3 G w _ f hi r2 hrf (fun j hj => hj)
            have hcl := r2.length
            rw [Array.length_toList, r3, size_madeCells] at hcl
            have hlc : (chunks j.size n cvs).length = n := chunks_length j.size n cvs
            obtain ⟨x1, x2, x3⟩ := new_arr (els := chunks j.size n cvs) (cap := n) hi0 k2 h0 (ty := e) (chunks_rep n hcv (by rw [f2, ← hcl])) (by rw [r3, size_madeCells]) (by rw [hlc]; exact Nat.le_refl _) (by
              have : n ≤ n * j.size := Nat.le_mul_of_pos_right n k2
              simp only [maxLen]
              omega)
            rw [hlc] at x1 x2
            refine ⟨_, _, _, hrun, (Ext.trans hi X0 x1).mono (fun x hx => by
              simp only [List.mem_append, List.mem_singleton] at hx
              rcases hx with hx | hx <;> simp [hx]), x2, fun y hy => ?_⟩
            by_cases hy' : y = len h
            · subst hy'
              rw [show len h = len (frz f h) from (len_frz f h).symm, nthB_new, len_frz]
              rw [hlc] at x3
              exact x3
            · have hyf : y ∈ f := by
                rcases List.mem_cons.1 hy with hy | hy
                · exact absurd hy hy'
                · exact hy
              rw [nthB_push _ _ _ (by rw [len_frz]; exact hy')]
              exact RelB.ext x1 hi0 (by simpa using hy') (frz_rel hi hrf f1 y hyf)
    · exact hk.elim
theorem chunks_flat {sz : Nat} : ∀ (n : Nat) (cvs : List CV), cvs.length = n * sz → (chunks sz n cvs).flatten = cvs ∧ ∀ x ∈ chunks sz n cvs, x.length = sz
  | 0, cvs, h => by
    have : cvs = [] := List.eq_nil_of_length_eq_zero (by simpa using h)
    subst this
    simp [chunks]
  | n + 1, cvs, h => by
    have hm : (n + 1) * sz = n * sz + sz := by rw [Nat.add_mul, Nat.one_mul]
    obtain ⟨a, b⟩ := chunks_flat (sz := sz) n (cvs.drop sz) (by rw [List.length_drop]; omega)
    simp only [chunks, List.flatten_cons, a, List.take_append_drop, true_and]
    intro x hx
    rcases List.mem_cons.1 hx with rfl | hx
    · rw [List.length_take]; omega
    · exact b x hx
theorem tr_repl {G : Gh} {w : World} {ty2 : TypeId} {cvs : List CV} {zs : List Value} (h : ∀ d, TrP G w d ty2 cvs zs ∧ blkP cvs zs = []) (hl : zs.length = cvs.length) : ∀ (n : Nat) (vs : List Value), (∀ q, q < n * cvs.length → vs[q]? = zs[q % cvs.length]?) →
    ∀ d, TrP G w d ty2 (List.replicate n cvs).flatten vs ∧ blkP (List.replicate n cvs).flatten vs = []
  | 0, vs, _, d => by simp [TrP, blkP]
  | n + 1, vs, hv, d => by
    have e1 : vs.take cvs.length = zs := by
      apply List.ext_getElem?
      intro q
      rw [List.getElem?_take]
      split
      · rename_i hq
        rw [hv q (by rw [Nat.add_mul, Nat.one_mul]; omega), Nat.mod_eq_of_lt hq]
      · rw [List.getElem?_eq_none]
        omega
    obtain ⟨a, b⟩ := tr_repl h hl n (vs.drop cvs.length) (fun q hq => by rw [List.getElem?_drop, hv _ (by rw [Nat.add_mul, Nat.one_mul]; omega), Nat.add_mod_left]) d
    obtain ⟨c1, c2⟩ := h d
    have e2 : vs = zs ++ vs.drop cvs.length := by rw [← e1, List.take_append_drop]
    rw [e2, List.replicate_succ, List.flatten_cons]
    exact ⟨c1.append hl a, by rw [blkP_append hl, c2, b]; rfl⟩
theorem buildTree_ok {t n ty2 : Nat} {parts : List (Nat × PV)} (hk : aBuildTree E h t n parts ty2 K) : Step E.P h (fun G w m => ∃ vs : List (Nat × Value), parts.map (·.1) = vs.map (·.1) ∧ RepsL G w (parts.map (·.2)) (vs.map (·.2)) ∧ m = Instr.buildSlice t n vs.toArray) K := by
  unfold aBuildTree at hk
  cases hl : look E.T t with
  | none => rw [hl] at hk; exact hk.elim
  | some i =>
    rw [hl] at hk
    simp only at hk
    have hf := Env.fact hl
    split at hk
    · rename_i e hik
      have ht : E.P.underlying t = some (.slice e) := by have := hf.2.1; rw [hik] at this; exact this
      cases hle : look E.T e with
      | none => rw [hle] at hk; exact hk.elim
      | some j =>
        rw [hle] at hk
        simp only at hk
        have hj := Env.fact hle
        cases hc : pcells (ofV j.zero) with
        | none => rw [hc] at hk; exact hk.elim
        | some z =>
          rw [hc] at hk
          simp only at hk
          cases hfp : fillP (fun q => some (q * j.size, j.size)) (zeros z n) parts with
          | none => rw [hfp] at hk; exact hk.elim
          | some cs =>
            rw [hfp] at hk
            simp only at hk
            obtain ⟨cvs, f, ⟨k1, k2, els', rfl, hk⟩, f1, f2, f3⟩ := toTr_ok hk
            rw [chunks_length] at hk
            have main : ∀ (G : Gh) (w : World) (m : Sem Value), Inv G w → (∃ vs : List (Nat × Value), parts.map (·.1) = vs.map (·.1) ∧ RepsL G w (parts.map (·.2)) (vs.map (·.2)) ∧ m = Instr.buildSlice t n vs.toArray) → RelB G w (len h) (nthB h (len h)) → (∀ a, f = some a → RelB G w a (nthB h a)) →
                ∃ w' G', m.run E.P w = .ok (.slice (some ⟨w.heap.size, 0, none⟩) n n) w' ∧ Ext (len h :: f.toList) G w G' w' ∧ Reps G' w' (.own (len h) n) (.slice (some ⟨w.heap.size, 0, none⟩) n n) ∧ RelB G' w' (len h) (some (.tree j.size e ty2 (chunks j.size n cvs))) ∧ ∀ a, f = some a → RelB G' w' a (some .junk) := by
              intro G w m hi hm hr0 hra
              obtain ⟨vs, v1, v2, rfl⟩ := hm
              obtain ⟨q1, q2⟩ := pcells_ok hc (ofV_ok G w j.zero)
              obtain ⟨inf, i1, i2, i3, i4⟩ := hj.info
              have hz := q1.length
              rw [Array.length_toList] at hz
              have hzs : j.zero.cells.size = j.size := hj.2.2
              have hzero : RepsL G w (zeros z n) (madeCells j.zero.cells (n * j.size)).toList := by
                refine zeros_rep q1 n _ ?_ fun q hq => ?_
                · rw [Array.length_toList, size_madeCells, Array.length_toList, hzs]
                · rw [Array.length_toList, hzs] at hq
                  have hq2 : q % j.zero.cells.size < j.zero.cells.size := Nat.mod_lt _ (by omega)
                  rw [Array.getElem?_toList, Array.getElem?_toList, Array.length_toList]
                  simp [madeCells, hq, hq2]
              have hone : ∀ u ∈ (madeCells j.zero.cells (n * j.size)).toList, u.oneCell' = true := fun u hu => by
                simp only [madeCells, Array.toList_map, List.mem_map] at hu
                obtain ⟨q, hq, rfl⟩ := hu
                have hq2 : q % j.zero.cells.size < j.zero.cells.size := Nat.mod_lt _ (by omega)
                have e1 : j.zero.cells[q % j.zero.cells.size]! = j.zero.cells[q % j.zero.cells.size] := by simp [hq2]
                rw [e1]
                exact q2 _ (by simp)
              obtain ⟨cells', r1, r2, r3, r4⟩ := fill_ok hfp hzero hone v1 v2
              have hrun : (Instr.buildSlice t n vs.toArray).run E.P w = .ok (.slice (some ⟨w.heap.size, 0, none⟩) n n) (w.alloc (.cells cells' e)) := by
                have hs : ¬ 2 ^ 24 < n * inf.size := by rw [i2]; omega
                by_cases hn : n = 0
                · subst hn
                  simp only [Nat.zero_mul] at r1
                  have hm0 : madeCells j.zero.cells 0 = #[] := by simp [madeCells]
                  rw [hm0] at r1
                  have hm1 : Array.map (fun _ : Nat => (default : Value)) (Array.range 0) = #[] := by simp
                  simp [Instr.buildSlice, run_underlying ht, sizeOf, typeInfo, i1, i2, hm1, r1, newRow]
                · have hnz : ¬ (n * j.size = 0) := by
                    intro e0
                    rcases Nat.mul_eq_zero.1 e0 with e0 | e0 <;> omega
                  have r1' : Instr.fill (fun q => some (q * j.size, j.size)) (Array.map (fun x => j.zero.cells[x % j.zero.cells.size]!) (Array.range (n * j.size))) vs = some cells' := r1
                  simp [Instr.buildSlice, run_underlying ht, sizeOf, typeInfo, zeroValue, i1, i2, i4, hnz, r1', newRow, k1]
              have hcl := r2.length
              rw [Array.length_toList, r3, size_madeCells] at hcl
              have hlc : (chunks j.size n cvs).length = n := chunks_length j.size n cvs
              obtain ⟨c1, c2⟩ := chunks_flat n cvs (by rw [f1, ← hcl] : cvs.length = n * j.size)
              have hin := f3 G w _ r2 hra
              rw [← c1] at hin
              obtain ⟨G', x1, x2, x3, x4⟩ := new_tree (cap := n) hi k2 (none_at h hr0) (ty := e) hin (fun a ha => ⟨hra a ha, fun e0 => by
                obtain ⟨els0, h0⟩ := f2 a ha
                rw [e0, nthB_ge h _ (Nat.le_refl _)] at h0
                cases h0⟩) c2 (by rw [r3, size_madeCells]) (by rw [hlc]; exact Nat.le_refl _) (by
                have : n ≤ n * j.size := Nat.le_mul_of_pos_right n k2
                simp only [maxLen]
                omega)
              rw [hlc] at x2
              exact ⟨_, G', hrun, x1, x2, x3, x4⟩
            cases f with
            | none =>
              refine ⟨_, _, _, _, hk, keeps_push h _, len_push h _, fun G w m hi hm hr => ?_⟩
              obtain ⟨w', G', b1, b2, b3, b4, b5⟩ := main G w m hi hm (hr _ (by simp)) (fun a e0 => by cases e0)
              refine ⟨_, w', G', b1, b2, b3, fun y hy => ?_⟩
              simp only [List.mem_singleton] at hy
              subst hy
              rw [nthB_new]
              exact b4
            | some a =>
              obtain ⟨els0, h0⟩ := f2 a rfl
              have hlt := nthB_lt h0
              have hlen : len (putB h a .junk) = len h := len_putB h a _
              refine ⟨_, _, _, _, hk, fun y hy => ?_, by rw [len_append, hlen]; omega, fun G w m hi hm hr => ?_⟩
              · simp only [List.mem_cons, List.not_mem_nil, or_false, not_or] at hy
                rw [nthB_push _ _ _ (by rw [hlen]; exact hy.1), nthB_putB_ne h a y _ hy.2]
              obtain ⟨w', G', b1, b2, b3, b4, b5⟩ := main G w m hi hm (hr _ (by simp)) (fun a' e0 => by injection e0 with e0; subst e0; exact hr _ (by simp))
              refine ⟨_, w', G', b1, b2, b3, fun y hy => ?_⟩
              simp only [List.mem_cons, List.not_mem_nil, or_false] at hy
              rcases hy with rfl | rfl
              · have := nthB_new (.tree j.size e ty2 (chunks j.size n cvs)) [] (putB h a .junk)
                rw [hlen] at this
                rw [this]
                exact b4
              · rw [nthB_push _ _ _ (by rw [hlen]; omega), nthB_putB_same _ h0]
                exact b5 y rfl
    · exact hk.elim
theorem makeTree_ok {t ty2 : Nat} {p q : PV} (hk : aMakeTree E h t p q ty2 K) : Step E.P h (fun G w m => ∃ v x, Reps G w p v ∧ Reps G w q x ∧ m = Instr.makeSlice t v x) K := by
  unfold aMakeTree at hk
  split at hk
  · rename_i i k1 n k2 c hl
    have hf := Env.fact hl
    split at hk
    · rename_i e hik
      have ht : E.P.underlying t = some (.slice e) := by have := hf.2.1; rw [hik] at this; exact this
      cases hle : look E.T e with
      | none => rw [hle] at hk; exact hk.elim
      | some j =>
        rw [hle] at hk
        simp only at hk
        have hj := Env.fact hle
        cases hc : pcells (ofV j.zero) with
        | none => rw [hc] at hk; exact hk.elim
        | some z =>
          rw [hc] at hk
          simp only at hk
          obtain ⟨cvs, f, ⟨rfl, rfl, z1, z2, z3, z4, z5, els', rfl, hk⟩, f2, f1, f3⟩ := toTr_ok hk
          rw [List.length_replicate] at hk
          refine ⟨_, _, _, _, hk, keeps_push h _, len_push h _, fun G w m hi hm hr => ?_⟩
          obtain ⟨v, x, hv, hx, rfl⟩ := hm
          simp only [Reps, RepC] at hv hx
          subst hv hx
          obtain ⟨N, rfl⟩ := Int.eq_ofNat_of_zero_le z1
          obtain ⟨inf, i1, i2, i3, i4⟩ := hj.info
          obtain ⟨q1, q2⟩ := pcells_ok hc (ofV_ok G w j.zero)
          have hz := q1.length
          rw [Array.length_toList] at hz
          have h0 := none_at h (hr (len h) (by simp))
          have hcv : ∀ d, TrP G w d ty2 cvs j.zero.cells.toList ∧ blkP cvs j.zero.cells.toList = [] := f3 G w _ q1 (fun a e0 => by cases e0)
          have hrun := run_make (P := E.P) w t e inf j.zero ht i1 i4 k1 k2 (N : Int) (N : Int) z1 (Int.le_refl _) (by rw [i3]; exact z2) z3
          rw [Int.toNat_natCast, i2] at hrun
          have hcs : (madeCells j.zero.cells (N * j.size)).size = N * j.size := size_madeCells _ _
          have hrep := tr_repl hcv (by rw [Array.length_toList, hz, f2]) N (madeCells j.zero.cells (N * j.size)).toList (fun q hq => by
            rw [f2, ← z5] at hq
            have h3 : 0 < j.zero.cells.size := by omega
            have hq2 : q % j.zero.cells.size < j.zero.cells.size := Nat.mod_lt _ h3
            rw [f2, ← hz, Array.getElem?_toList, Array.getElem?_toList]
            simp [madeCells, hq, hq2])
          obtain ⟨G', x1, x2, x3, x4⟩ := new_tree (h := h) (f := none) (cap := N) hi z4 h0 (ty := e) (ty2 := ty2) (els := List.replicate N cvs) (sz := j.size) hrep (fun a e0 => by cases e0) (fun y hy => by rw [(List.mem_replicate.1 hy).2, f2, z5]) hcs (by rw [List.length_replicate]; exact Nat.le_refl _) (by simp only [maxLen]; omega)
          rw [List.length_replicate] at x2
          refine ⟨_, _, _, hrun, x1, x2, fun y hy => ?_⟩
          simp only [List.mem_singleton] at hy
          subst hy
          rw [nthB_new, Int.toNat_natCast]
          exact x3
    · exact hk.elim
  · exact hk.elim
end
end Go.Proofs.Ytkpcieenikmbmaa.E
